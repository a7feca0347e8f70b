/- Texts for the walk of the law: SK E10 E11 E12 GD E13 E14 E15 E15b E15c E15d. -/
import Derived.Test.YtihpoboahbpaiaaGreatR08
import Derived.DeepKeys
set_option maxRecDepth 100000
set_option maxHeartbeats 16000000
set_option linter.unusedVariables false
set_option linter.unusedSimpArgs false
namespace Go.Hp
open Go Go.RowKit Go.Proofs.Tryz
section
open Go Go.RowKit Go.Sort Go.Shelf Go.Proofs
theorem aJX {w w':World} (h:Go.RowKit.Below w.heap.size w w') (hd:w.drawn≤w'.drawn):∃ q os',w'=grow (w.drewN q) os':=by
 refine⟨w'.drawn - w.drawn,w'.heap.extract w.heap.size w'.heap.size,?_⟩;obtain⟨h1,h2,h3,h4,h5⟩:=h;cases w;cases w';simp only at *;subst h1 h2 h3;unfold grow World.drewN;simp only [World.mk.injEq];refine⟨?_,trivial,by omega,trivial,trivial⟩;apply Array.ext_getElem?;intro k;rw [Array.getElem?_append]
 split
 ·rename_i hk;exact h5 k hk
 ·rename_i hk
  rw [Array.getElem?_extract];have:∀ n m:Nat,n+(k - n)=k∨k<n:=fun n m=>by omega
  split
  ·congr 1;omega
  ·rw [Array.getElem?_eq_none (by omega)]
theorem aLm {w:World} {g n:Nat} {os:Array Obj} {cur:Array Value} {e:TypeId} {fr:Nat × Nat} (d:Array Value) (hb:w.heap[g]? = some (.cells cur e fr)) :
 (grow (putRow id (Sort.ahead w n) g 0 d) os).heap[g]? = some (.cells (putCells id 0 d cur) e fr):=by
 have hg:g<w.heap.size:=(Array.getElem?_eq_some_iff.1 hb).1;rw [heap_grow_old _ _ (by simpa using hg)];simp [putRow,mapBlock,Sort.ahead,Array.getElem?_modify,hb,onCells]
theorem a7m {w:World} {g n:Nat} {os:Array Obj} (d:Array Value):w.grownBy (grow (putRow id (Sort.ahead w n) g 0 d) os) (some g):=by
 refine⟨rfl,rfl,rfl,by simp,fun k hk bJ=>?_⟩;rw [heap_grow_old _ _ (by simpa using hk)];have:g≠k:=fun e=>bJ (by rw [e])
 simp [putRow,mapBlock,Sort.ahead,Array.getElem?_modify,this]
theorem aGc {w:World} {g n:Nat} {os:Array Obj} (d:Array Value):w.drawn≤(grow (putRow id (Sort.ahead w n) g 0 d) os).drawn:=by
 simp [grow,putRow,mapBlock,Sort.ahead]
theorem aHr (cur:Array Value) (ts:List Value) (h:ts.length≤cur.size):(putCells id 0 ts.toArray cur).toList.take ts.length=ts:=by
 apply List.ext_getElem?;intro j
 by_cases hj:j<ts.length
 ·rw [List.getElem?_take_of_lt hj,Array.getElem?_toList]
  simp [putCells,hj,show j<cur.size by omega]
 ·rw [List.getElem?_take_eq_none (by omega),List.getElem?_eq_none (by omega)]
theorem aFQ {w:World} {g:Nat} {cur:Array Value} {e:TypeId} {ss:List Value} (hb:w.heap[g]? = some (.cells cur e (0,0))) (ht:cur.toList.take ss.length=ss):Holds id w g 0 ss.toArray:=by
 intro j hj;have mI:j<ss.length:=by simpa using hj
 refine⟨?_,by simp [World.frozen?,hb]⟩;have h1:(cur.toList.take ss.length)[j]? = ss[j]?:=by rw [ht]
 rw [List.getElem?_take_of_lt mI] at h1;simp only [World.cell?,hb,Nat.zero_add];simp only [Option.isSome_none,Bool.false_eq_true,if_false];rw [← Array.getElem?_toList,h1,List.getElem?_eq_getElem mI];simp [mI]
theorem aL0 {α:Type} [Inhabited α] {enc:α→List Value} {k:Nat} (hk:∀ x,(enc x).length=k) (kE:0<k) (ts:List α):flatK enc k ts.toArray=(ts.flatMap enc).toArray:=by
 have hl:=nB hk ts;apply Array.ext
 ·simp only [List.size_toArray,hl]
  unfold flatK;simp
 ·intro t h1 h2
  have h1':t<ts.length*k:=by simpa [hl] using h2
  have hg:=get_flatK enc k ts.toArray t (by simpa using h1');rw [getElem!_pos _ t h1] at hg;rw [hg];have hi:t / k<ts.length:=by rw [Nat.div_lt_iff_lt_mul kE];exact h1'
  have hc:=eS hk (default:α) (l:=ts) (i:=t / k) hi;have hd:ts.toArray[t / k]! = nth default ts (t / k):=by rw [getElem!_pos _ _ (by simpa using hi),bS _ _ _ hi];simp
  have hm:t % k<k:=Nat.mod_lt _ kE;have hdm:t / k*k+t % k=t:=by rw [Nat.mul_comm];exact Nat.div_add_mod t k
  rw [hd,← hc,getElem!_pos _ _ (by simp [hl];omega)];simp only [List.getElem_take,List.getElem_drop,List.getElem_toArray]
  congr 1
variable {P:Program} {ρ:Ren} {α:Type} [Inhabited α]
def a3B (w:World) (c:Chunk) (W:World):Prop:=w.heap.size≤W.heap.size∧∀ k,k<w.heap.size→¬ c.has k→W.heap[k]? = w.heap[k]?
theorem aBE (L:Proofs.SlLaysF0.n6 P ρ) {k:Nat} (kE:0<k) (aE:∀ w,(isAgg (ρ.t 24)).run P w=.ok true w) (zE:∀ w,(Go.sizeOf (ρ.t 24)).run P w=.ok k w) (enc:α→List Value) (hk:∀ x,(enc x).length=k) (h1:∀ x,∀ v ∈ enc x,v.oneCell'=true) (cf:α→α→Int) (hO:SWO (Proofs.ltOf cf)) (g:Nat) (cb:Array Value)
 {w0 w:World} {H:List Chunk} {ad:Option Addr} {n cap:Nat} {T:TypeId} {ts:List α} (j:Nat) (hS:aA w0 w H) (hj:H[j]? = some (.row (.slice ad n cap) T k n (ts.flatMap enc))) (hl:n≤100000000) (eg:∀ args w,(callFunc g args).run P w=.ok (.enter g args) w)
 (aEZ:∀ W,a3B w (.row (.slice ad n cap) T k n (ts.flatMap enc)) W→∀ x y,Calls P g (#[.agg (enc x).toArray,.agg (enc y).toArray]++cb) W fun e w'=>e=.returned (.int .i64 (cf x y))∧Go.RowKit.Below W.heap.size W w'∧W.drawn≤w'.drawn) :
 Calls P (ρ.f 6) #[.slice ad n cap,.func (.func g) #[] cb] w fun e w'=>e=.returned (.tuple #[])∧∃ nv:List α,nv.Perm ts∧nv.Pairwise (fun x y=>Proofs.ltOf cf y x=false)∧aA w0 w' (H.set j (.row (.slice ad n cap) T k n (nv.flatMap enc))):=by
 have lW:=hS.ok _ (bW hj);obtain⟨hlen,mL⟩:=lW;rw [nB hk] at hlen;have wF:ts.length=n:=Nat.eq_of_mul_eq_mul_right kE hlen;subst wF
 rcases mL with ⟨hv,hn⟩|⟨b,a5H,cur,hv,hb,hg,mm,fg,hcs,a0Q⟩
 ·simp only [Value.slice.injEq] at hv
  obtain⟨rfl,hx,rfl⟩:=hv;have lB:ts=[]:=List.eq_nil_of_length_eq_zero hx;subst lB;refine (Proofs.AnyF.slices_SortFunc_none L none 0 _ w).mono fun e w' ⟨he,hw⟩=>⟨he,[],List.Perm.refl _,List.Pairwise.nil,?_⟩
  subst hw
  have:H.set j (.row (.slice none 0 0) T k 0 ([].flatMap enc))=H:=by
   apply List.ext_getElem?;intro i;rw [List.getElem?_set]
   split
   ·rename_i h;subst h
    obtain⟨aW,hq⟩:=List.getElem?_eq_some_iff.1 hj;rw [if_pos aW,List.getElem?_eq_getElem aW,hq]
    rfl
   ·rfl
  show aA w0 w' (H.set j (.row (.slice none 0 0) T k 0 ([].flatMap enc)));rw [this];exact hS
 ·simp only [Value.slice.injEq] at hv
  obtain⟨rfl,-,rfl⟩:=hv;have tj:=nB hk ts;have a6I:cur.toList.take (ts.flatMap enc).length=ts.flatMap enc:=by rw [tj];exact a0Q
  have hH:HoldsK enc k w b 0 ts.toArray:=by
   unfold HoldsK;rw [aL0 hk kE];exact aFQ hg a6I
  have oB:=(Array.getElem?_eq_some_iff.1 hg).1
  have a2c:Proofs.CmpLays P g cb enc k cf b 0 ts.toArray.size w:=by
   intro m os dk xd x y
   have hW:a3B w (.row (.slice (some ⟨b,0,none⟩) ts.length cap) T k ts.length (ts.flatMap enc)) (Proofs.sortWorldK enc k w b 0 m dk os):=by
    have fy:=a7m (w:=w) (g:=b) (n:=m) (os:=os) (flatK enc k dk);exact⟨fy.size,fun i hi kO=>fy.block i hi (fun e=>kO (by simp only [Chunk.has,Value.ownBlock];exact e.symm))⟩
   refine (aEZ _ hW x y).mono fun e w' ⟨he,kj,hd⟩=>⟨he,aJX kj hd⟩
  have y7:=Proofs.AnyQ.slices_SortFunc L k aE zE enc hk h1 cf hO g cb b 0 cap ts.toArray w eg a2c hH oB (by simp;omega);rw [List.size_toArray] at y7;refine y7.mono fun e w' ⟨he,d',m,os,qz,qW,hw⟩=>⟨he,d'.toList,?_,?_,?_⟩
  ·obtain⟨dJ,_,hp⟩:=qz
   have e1:d'.extract 0 ts.length=d':=by
    have:d'.size=ts.length:=by simpa using dJ
    rw [← this];exact Array.extract_size
   have e2:ts.toArray.extract 0 ts.length=ts.toArray:=by
    simp
   rw [e1,e2] at hp
   simpa using hp
  ·have dJ:d'.size=ts.length:=by simpa using qz.1
   rw [List.pairwise_iff_getElem];intro i q hi hq hiq;have pG:i<d'.size:=by simpa using hi
   have jB:q<d'.size:=by simpa using hq
   have:=qW i q (Nat.zero_le _) hiq (by omega);rw [getElem!_pos d' q jB,getElem!_pos d' i pG] at this
   simpa using this
  ·have dJ:d'.size=ts.length:=by simpa using qz.1
   have mn:(d'.toList.flatMap enc).length=ts.length*k:=by rw [nB hk,show d'.toList.length=ts.length by simpa using dJ]
   have dp:flatK enc k d'=(d'.toList.flatMap enc).toArray:=by
    have:=aL0 hk kE d'.toList
    simpa using this
   have mM:w'=grow (putRow id (Sort.ahead w m) b 0 (d'.toList.flatMap enc).toArray) os:=by
    rw [hw,← dp]
    rfl
   clear hw;subst mM;have fy:=a7m (w:=w) (g:=b) (n:=m) (os:=os) (d'.toList.flatMap enc).toArray;refine hS.sQ j hj fy.os fy.tape fy.output (aGc _) fy.size ?_ (fun k hk=>.inl hk) (fun k hk tR=>fy.block k hk (fun e=>tR (by simp only [Chunk.has,Value.ownBlock];exact e.symm)));refine⟨mn,.inr ⟨b,cap,_,rfl,Nat.zero_le _,aLm _ hg,mm,fg,?_,?_⟩⟩
   ·simp [Go.Sort.putCells,hcs]
   ·rw [← mn]
    have hm:ts.length*k≤cap*k:=Nat.mul_le_mul_right k mm;exact aHr cur _ (by rw [mn,hcs];exact hm)
end
section
open Go Go.RowKit Go.Sort Go.Shelf Go.Proofs
theorem Bsd.da {w0 w wr W:World} {H:List Chunk} {F S:Nat→Prop} {c:Chunk} (hS:aA w0 w (.aH F wr::H)) (hF:∀ k,S k→F k) {j:Nat} (hj:H[j]? = some c) (hW:a3B w c W):∀ k,S k→W.heap[k]? = w.heap[k]?:=fun k hk =>
 hW.2 k (hS.ok (.aH F wr) (by simp) k (hF k hk)).1 ((List.pairwise_cons.1 hS.apart).1 _ (bW hj) k (hF k hk))
theorem Bsd.yj {w0 w wr W:World} {H:List Chunk} {F S:Nat→Prop} {c:Chunk} (hS:aA w0 w (.aH F wr::H)) (hF:∀ k,S k→F k) (hW:a3B w c W):aP W S:=fun k hk =>
 Nat.lt_of_lt_of_le (hS.ok (.aH F wr) (by simp) k (hF k hk)).1 hW.1
theorem aTz:1<kR:=by
 rw [aAp]
 exact Nat.lt_of_lt_of_le (by rw [dc];omega:1<WB) (by
  have:=Nat.pow_le_pow_right rN (show 1≤512 by omega)
  rwa [Nat.pow_one] at this)
theorem eN.zero (w:World) (S:Nat→Prop):eN w S ⟨⟨false,none,0,0⟩,⟨false,none,0,0⟩⟩ 0:=⟨dR.zero w S,dR.zero w S,aTz⟩
theorem dh.zero (w:World) (S:Nat→Prop):dh w S p0 au:=⟨eN.zero w S,eN.zero w S⟩
def PAt (w:World) (S:Nat→Prop):Type:={ x:PR × Pt // dh w S x.1 x.2 }
theorem ez.zip {w:World} {S:Nat→Prop} {prs:List PR} {l:List Pt} (h:ez w S prs l):∃ ts:List (PAt w S),ts.map (·.1.1)=prs∧ts.map (·.1.2)=l:=by
 obtain⟨f,qU,j7⟩:∃ f:Fin l.length→PAt w S,(∀ i,(f i).1.1=nth p0 prs i)∧∀ i,(f i).1.2=nth au l i:=⟨fun i=>⟨(nth p0 prs i,nth au l i),h.el i i.2⟩,fun i=>rfl,fun i=>rfl⟩;have hlen:=h.len;refine⟨List.ofFn f,?_,?_⟩
 ·apply yP p0
  ·rw [List.length_map,List.length_ofFn,hlen]
  ·intro i hi
   have pG:i<l.length:=by rw [List.length_map,List.length_ofFn] at hi;exact hi
   rw [bS _ _ _ hi,List.getElem_map,List.getElem_ofFn];exact qU ⟨i,pG⟩
 ·apply yP au
  ·rw [List.length_map,List.length_ofFn]
  ·intro i hi
   have pG:i<l.length:=by rw [List.length_map,List.length_ofFn] at hi;exact hi
   rw [bS _ _ _ hi,List.getElem_map,List.getElem_ofFn];exact j7 ⟨i,pG⟩
theorem ez.aUz {w:World} {S:Nat→Prop} (ts:List (PAt w S)):ez w S (ts.map (·.1.1)) (ts.map (·.1.2)):=by
 refine⟨by simp,fun i hi=>?_⟩;have pG:i<ts.length:=by simpa using hi
 rw [bS _ _ _ (by simpa using pG),bS _ _ _ hi];simp only [List.getElem_map];exact (ts[i]).2
end
section
open Go.RowKit Go.Hp Go.Sort Go.Shelf
theorem aVf (w:World) (S:Nat→Prop):SWO (Proofs.ltOf (fun x y:PAt w S=>mW x.1.2 y.1.2)) where
 irrefl x:=by unfold Proofs.ltOf;rw [decide_eq_false_iff_not,a3s];exact Pt.lt_irrefl _
 trans x y z h1 h2:=by
  unfold Proofs.ltOf at *;rw [decide_eq_true_iff,a3s] at *;exact Pt.lt_trans h1 h2
 ntrans x y z h1 h2:=by
  unfold Proofs.ltOf at *;rw [decide_eq_false_iff_not,a3s,Pt.not_lt] at *;exact Pt.le_trans h2 h1
theorem aRE {w0 w wr:World} {H:List Chunk} {F S:Nat→Prop} {ad:Option Addr} {n c:Nat} {T:TypeId} {prs:List PR} {l:List Pt} (j:Nat) (hS:aA w0 w (.aH F wr::H)) (hF:∀ k,S k→F k) (dL:ez wr S prs l) (hj:H[j]? = some (.row (.slice ad n c) T 8 n (prs.flatMap pc))) (hl:n≤1000000) :
 Calls prog 72 #[.slice ad n c,.func (.func 70) #[] #[]] w fun e w'=>e=.returned (.tuple #[])∧∃ nJ l',aA w0 w' (.aH F wr::H.set j (.row (.slice ad n c) T 8 n (nJ.flatMap pc)))∧ez wr S nJ l'∧l'.Perm l∧l'.Pairwise Pt.le:=by
 obtain⟨ts,h1,h2⟩:=(dL.at hS hF).zip
 haveI:Inhabited (PAt w S):=⟨⟨(p0,au),dh.zero w S⟩⟩
 have dp:∀ ts:List (PAt w S),ts.flatMap (fun x=>pc x.1.1)=(ts.map (·.1.1)).flatMap pc:=fun ts=>by rw [List.flatMap_map]
 have mI:(Chunk.aH F wr::H)[j+1]? = some (.row (.slice ad n c) T 8 n (ts.flatMap (fun x=>pc x.1.1))):=by
  rw [dp,h1];exact hj
 refine (aBE aTq (by decide) isAgg56 sizeOf56 (fun x:PAt w S=>pc x.1.1) (fun x=>rfl) (fun x v hv=>a9V [x.1.1] v (by simpa using hv)) (fun x y=>mW x.1.2 y.1.2) (aVf w S) 70 #[] (j+1) hS mI (by omega) (Proofs.enters_of func70 (by kernel_rfl) rfl) ?_).mono ?_
 ·intro W hW x y
  have a4a:=Bsd.da hS hF (j:=j) (by rw [hj,dp,h1]) hW;exact (a3H x.1.1 y.1.1 x.1.2 y.1.2 W S (x.2.move a4a) (y.2.move a4a) (Bsd.yj hS hF hW)).mono fun e w' ⟨he,hq⟩=>⟨he,hq.below,hq.drawn⟩
 ·rintro e w' ⟨he,nv,hp,hs,fY⟩
  have cK:aA w0 w' (.aH F wr::H.set j (.row (.slice ad n c) T 8 n ((nv.map (·.1.1)).flatMap pc))):=by rw [← dp];exact fY
  refine⟨he,_,_,cK,(ez.aUz nv).move (fun k hk=>(hS.da hF k hk).symm),?_,?_⟩
  ·rw [← h2];exact hp.map _
  ·rw [List.pairwise_map]
   refine hs.imp fun {x y} h=>?_
   unfold Proofs.ltOf at h;rw [decide_eq_false_iff_not,a3s,Pt.not_lt] at h;exact h
end
theorem aAo {prs:List PR} {z:List Value} {i:Nat} (hi:i<prs.length):((prs.flatMap pc++z).drop (i*8)).take 8=pc (nth p0 prs i):=by
 have h:=eS gF p0 hi;have hl:=nB gF prs;rw [List.drop_append_of_le_length (by omega),List.take_append_of_le_length (by rw [List.length_drop];omega)];exact h
theorem aSV {prs:List PR} {z:List Value} {i:Nat} {p:PR} (hi:i<prs.length):(prs.flatMap pc++z).take (i*8)++pc p++(prs.flatMap pc++z).drop (i*8+8)=(prs.set i p).flatMap pc++z:=by
 have hl:=nB gF prs;rw [List.take_append_of_le_length (by omega),List.drop_append_of_le_length (by omega),show i*8+8=(i+1)*8 by omega,a29 gF,a8P gF,← List.append_assoc]
 congr 1
 rw [List.set_eq_take_append_cons_drop,if_pos hi];simp
theorem ez.set {w:World} {S:Nat→Prop} {prs:List PR} {l:List Pt} (h:ez w S prs l) {i:Nat} {p:PR} {q:Pt} (hp:dh w S p q) (hi:i<l.length):ez w S (prs.set i p) (l.set i q):=by
 have hl:=h.len;refine⟨by simp [hl],fun j hj=>?_⟩;rw [List.length_set] at hj;unfold nth;simp only [List.getD_eq_getElem?_getD,List.getElem?_set]
 by_cases e:i=j
 ·subst e;simp [hi,hl];exact hp
 ·rw [if_neg e,if_neg e];have:=h.el j hj;unfold nth at this;simpa [List.getD_eq_getElem?_getD] using this
theorem ez.take {w:World} {S:Nat→Prop} {prs:List PR} {l:List Pt} (h:ez w S prs l) (k:Nat):ez w S (prs.take k) (l.take k):=by
 have hl:=h.len;refine⟨by simp [hl],fun j hj=>?_⟩;rw [List.length_take] at hj;rw [xI _ _ (by omega),xI _ _ (by omega)];exact h.el j (by omega)
structure uH (l ls:List Pt) (K m:Nat):Prop where
 len:ls.length=l.length
 lo:1≤K
 hi:K+1≤m
 ml:m≤l.length
 rest:∀ i,m - 1≤i→nth au ls i=nth au l i
 sorted:(ls.take K).Pairwise Pt.lt
 mem:∀ x,x ∈ ls.take K↔x ∈ l.take m
theorem zF {l:List Pt} {m:Nat} (hm:m≤l.length) {x:Pt}:x ∈ l.take m↔∃ i,i<m∧nth au l i=x:=by
 constructor
 ·intro h
  obtain⟨i,hi,rfl⟩:=List.mem_iff_getElem.1 h;have pG:i<m:=by rw [List.length_take] at hi;omega
  exact⟨i,pG,by rw [bS _ _ _ (by omega)];simp⟩
 ·rintro⟨i,hi,rfl⟩
  rw [bS _ _ _ (by omega)];exact List.mem_iff_getElem.2 ⟨i,by rw [List.length_take];omega,by simp⟩
theorem a8d {l:List Pt} (hs:l.Pairwise Pt.le) {i j:Nat} (fe:i≤j) (hj:j<l.length):(nth au l i).le (nth au l j):=by
 rcases Nat.lt_or_eq_of_le fe with h|h
 ·rw [bS _ _ _ (by omega),bS _ _ _ hj]
  exact List.pairwise_iff_getElem.1 hs i j (by omega) hj h
 ·subst h;exact Pt.le_refl _
theorem uH.start {l:List Pt} {k:Nat} (hk:1≤k) (cW:k<l.length) (hs:(l.take k).Pairwise Pt.lt) (he:nth au l k=nth au l (k - 1)):uH l l k (k+1):=by
 refine⟨rfl,hk,Nat.le_refl _,cW,fun _ _=>rfl,hs,fun x=>?_⟩;rw [zF (by omega),zF (by omega)]
 constructor
 ·rintro⟨i,hi,h⟩;exact⟨i,by omega,h⟩
 ·rintro⟨i,hi,h⟩
  by_cases hik:i=k
  ·subst hik;exact⟨i - 1,by omega,by rw [← he];exact h⟩
  ·exact⟨i,by omega,h⟩
theorem uH.skip {l ls:List Pt} {K m:Nat} (h:uH l ls K m) (hm:m<l.length) (he:nth au ls m=nth au ls (m - 1)):uH l ls K (m+1):=by
 have gv:=h.hi;have e1:=h.rest m (by omega);have e2:=h.rest (m - 1) (by omega);refine⟨h.len,h.lo,by omega,hm,fun i hi=>h.rest i (by omega),h.sorted,fun x=>?_⟩;rw [h.mem,zF (by omega),zF (by omega)]
 constructor
 ·rintro⟨i,hi,h⟩;exact⟨i,by omega,h⟩
 ·rintro⟨i,hi,h3⟩
  by_cases hik:i=m
  ·subst hik
   have:=h.lo;exact⟨i - 1,by omega,by rw [← e2,← he,e1];exact h3⟩
  ·exact⟨i,by omega,h3⟩
theorem aAX {α:Type} (d x:α) (l:List α) (i j:Nat) (hi:i<l.length):nth d (l.set i x) j=if j=i then x else nth d l j:=by
 unfold nth;simp only [List.getD_eq_getElem?_getD,List.getElem?_set]
 by_cases h:i=j
 ·subst h;simp [hi]
 ·rw [if_neg h,if_neg (fun e=>h e.symm)]
theorem uH.take {l ls:List Pt} {K m:Nat} (h:uH l ls K m) (hs:l.Pairwise Pt.le) (hm:m<l.length) (he:nth au ls m≠nth au ls (m - 1)):uH l (ls.set K (nth au ls m)) (K+1) (m+1):=by
 have h1:=h.hi;have h2:=h.lo;have h3:=h.len;have e1:=h.rest m (by omega);have e2:=h.rest (m - 1) (by omega)
 have aW:(nth au l (m - 1)).lt (nth au l m):=by
  rcases Pt.le_iff.1 (a8d hs (show m - 1≤m by omega) hm) with h|h
  ·exact h
  ·exact absurd (by rw [e1,e2];exact h.symm) he
 have eK:(ls.set K (nth au ls m)).take (K+1)=ls.take K++[nth au ls m]:=by
  rw [nk au _ _ (by rw [List.length_set];omega),aAX _ _ _ _ _ (by omega),if_pos rfl,List.take_set_of_le (Nat.le_refl _)]
 refine⟨by rw [List.length_set];exact h3,by omega,by omega,hm,fun i hi=>?_,?_,fun x=>?_⟩
 ·rw [aAX _ _ _ _ _ (by omega),if_neg (by omega)]
  exact h.rest i (by omega)
 ·rw [eK]
  refine List.pairwise_append.2 ⟨h.sorted,List.pairwise_singleton _ _,fun a ha b hb=>?_⟩;rw [List.mem_singleton] at hb;subst hb;obtain⟨i,hi,rfl⟩:=(zF (by omega)).1 ((h.mem a).1 ha);rw [e1];have:=a8d hs (show i≤m - 1 by omega) (by omega)
  rcases Pt.le_iff.1 this with h4|h4
  ·exact Pt.lt_trans h4 aW
  ·rw [h4];exact aW
 ·rw [eK,List.mem_append,h.mem,List.mem_singleton,zF (by omega),zF (by omega)]
  constructor
  ·rintro (⟨i,hi,h⟩|h)
   ·exact⟨i,by omega,h⟩
   ·exact⟨m,by omega,by rw [← e1];exact h.symm⟩
  ·rintro⟨i,hi,h5⟩
   by_cases hik:i=m
   ·subst hik;exact .inr (by rw [e1];exact h5.symm)
   ·exact .inl ⟨i,by omega,h5⟩
theorem aQ6 {l:List Pt} (hs:l.Pairwise Pt.le) {k:Nat} (hk:1≤k) (cW:k<l.length) (h:(l.take k).Pairwise Pt.lt) (he:nth au l k≠nth au l (k - 1)):(l.take (k+1)).Pairwise Pt.lt:=by
 rw [nk au _ _ cW]
 have aW:(nth au l (k - 1)).lt (nth au l k):=by
  rcases Pt.le_iff.1 (a8d hs (show k - 1≤k by omega) cW) with h|h
  ·exact h
  ·exact absurd h.symm he
 refine List.pairwise_append.2 ⟨h,List.pairwise_singleton _ _,fun a ha b hb=>?_⟩;rw [List.mem_singleton] at hb;subst hb;obtain⟨i,hi,rfl⟩:=(zF (by omega)).1 ha
 rcases Pt.le_iff.1 (a8d hs (show i≤k - 1 by omega) (by omega)) with h4|h4
 ·exact Pt.lt_trans h4 aW
 ·rw [h4];exact aW
section
variable {P:Program} {ops:Array Oper} {Q:Exit→Act→World→Prop} {rest:List Oper} {a:Act} {w w0:World} {H:List Chunk}
variable {dst:Option Tmp} {ty T E Tb:TypeId} {pos:String} {ak:Array Edge} {x:Operand}
theorem aRv {args:Array Operand} {ts:Array TypeId} {gd:Option (Nat × Bool)} (h:wpList P ops Q (⟨dst,.call ⟨.builtin .clear,args,ts⟩,ty,pos,ak,gd⟩::rest) a w):wpList P ops Q (⟨dst,.call ⟨.builtin .clear,args,ts⟩,ty,pos,ak,gd⟩::rest) a w:=h
theorem aUG {k n c o g:Nat} {cur:Array Value} {z:Value} (j:Nat) (hS:aA w0 w H) (hu:P.underlying T=some (.slice E)) (hzv:∀ w,(zeroValue E).run P w=.ok z w) (hzk:z.cells.size=k) (h1:∀ v ∈ z.cells.toList,v.oneCell'=true) (kE:0<k) (hn:0<n)
 (hx:a.eval x=.slice (some ⟨g,o,none⟩) n c) (hj:H[j]? = some (.aB g (.cells cur Tb (0,0)))) (iV:o+n*k≤cur.size)
 (hk:∀ w' arr,arr.size=cur.size→arr.toList.take o=cur.toList.take o→aA w0 w' (H.set j (.aB g (.cells arr Tb (0,0))))→wpList P ops Q rest (a.put dst (.tuple #[])) w') :
 wpList P ops Q (⟨dst,.call ⟨.builtin .clear,#[x],#[T]⟩,ty,pos,ak,none⟩::rest) a w:=by
 have hg:=hS.aB (bW hj);obtain⟨m,rfl⟩:∃ m,n=m+1:=⟨n - 1,by omega⟩;have hzl:(Builtin.zeroCells z.cells (m+1)).toList.length=(m+1)*k:=by simp [Builtin.zeroCells,hzk]
 have fG:∀ v ∈ (Builtin.zeroCells z.cells (m+1)).toList,v.oneCell'=true:=by
  intro v hv;simp only [Builtin.zeroCells,Array.toList_map,List.mem_map] at hv;obtain⟨i,_,rfl⟩:=hv;have aW:i % z.cells.size<z.cells.size:=Nat.mod_lt _ (by omega);rw [getElem!_pos z.cells (i % z.cells.size) aW];exact h1 _ (by simp)
 have cA:=run_storeCells_at (P:=P) g o Tb (Builtin.zeroCells z.cells (m+1)).toList 0 cur w hg (by simpa [hzl] using iV) fG;simp only [Nat.add_zero] at cA
 have hr:(Builtin.clear_ #[T] ty #[.slice (some ⟨g,o,none⟩) (m+1) c]).run P w=.ok (.tuple #[]) (w.setRow g (cur.toList.take o++(Builtin.zeroCells z.cells (m+1)).toList++cur.toList.drop (o+(Builtin.zeroCells z.cells (m+1)).toList.length)).toArray):=by
  simp [Builtin.clear_,run_underlying hu,hzv,cA]
 refine lx (w':=w.setRow g (cur.toList.take o++(Builtin.zeroCells z.cells (m+1)).toList++cur.toList.drop (o+(Builtin.zeroCells z.cells (m+1)).toList.length)).toArray) (v:=.tuple #[]) rfl ?_ (hk _ (cur.toList.take o++(Builtin.zeroCells z.cells (m+1)).toList++cur.toList.drop (o+(Builtin.zeroCells z.cells (m+1)).toList.length)).toArray ?_ ?_ (hS.write (o':=.cells _ Tb (0,0)) j hj rfl rfl rfl (Nat.le_refl _) (by simp [World.setRow]) (setRow_heap w g cur _ _ _ hg) (fun k _ hkb=>by simp [World.setRow,Array.getElem?_modify,Ne.symm hkb])))
 ·generalize a.eval=ρ at hx
  simp [execOp,resolve,invoke,builtin,hx,hr,go_sem]
 ·simp only [List.size_toArray,List.length_append,List.length_take,List.length_drop,hzl,Array.length_toList];omega
 ·rw [List.append_assoc,List.take_append_of_le_length (by simp;omega),List.take_take,Nat.min_self]
variable {K:Act→Prop} {g:Option (Nat × Bool)}
theorem a5S {b off k:Nat} {arr:Array Value} {fr:Nat × Nat} {cs:List Value} (j:Nat) (eT:∀ w,(isAgg T).run P w=.ok true w) (hz:∀ w,(sizeOf T).run P w=.ok k w) (hx:a.eval x=.pointer (some ⟨b,off,none⟩)) (hj:H[j]? = some (Chunk.aB b (.cells arr Tb fr))) (h0:off+k≤arr.size)
 (hc:(arr.toList.drop off).take k=cs) (hk:K (a.put dst (.agg cs.toArray))):nj P w0 H ⟨dst,.load T x,ty,pos,ak,g⟩ a K:=by
 subst hc;exact a6f j eT hz hx hj h0 hk
theorem aOP {qs:List PR} {z:List Value} {p:PR} {b k:Nat} {y:Operand} (j:Nat) (hS:aA w0 w H) (hx:a.eval x=.pointer (some ⟨b,k*8,none⟩)) (hy:a.eval y=.agg (pc p).toArray) (hj:H[j]? = some (.aB b (.cells (qs.flatMap pc++z).toArray Tb (0,0))))
 (hT:∀ w,(sizeOf T).run P w=.ok 8 w) (hi:k<qs.length)
 (hk:∀ w',aA w0 w' (H.set j (.aB b (.cells ((qs.set k p).flatMap pc++z).toArray Tb (0,0))))→wpList P ops Q rest (a.put dst undef) w') :
 wpList P ops Q (⟨dst,.store T x y,ty,pos,ak,none⟩::rest) a w:=by
 have hl:=nB gF qs;refine aAm (u:=.agg (pc p).toArray) j hS hx hy hj hT ?_ ?_ (fun w' fY=>hk w' ?_)
 ·simp [Value.cells,pc,Value.oneCell']
 ·show k*8+8≤_
  rw [List.size_toArray,List.length_append];omega
 ·rw [← aSV hi]
  exact fY
end
theorem aPB (p q:PR) (a b:Pt) (w:World) (S:Nat→Prop) (hp:dh w S p a) (hq:dh w S q b) (hL:aP w S) :
 Calls prog 74 #[.agg #[.bool p.x.num.neg,.slice p.x.num.ad p.x.num.n p.x.num.cap,.bool p.x.less.neg,.slice p.x.less.ad p.x.less.n p.x.less.cap,.bool p.y.num.neg,.slice p.y.num.ad p.y.num.n p.y.num.cap,.bool p.y.less.neg,.slice p.y.less.ad p.y.less.n p.y.less.cap],.agg #[.bool q.x.num.neg,.slice q.x.num.ad q.x.num.n q.x.num.cap,.bool q.x.less.neg,.slice q.x.less.ad q.x.less.n q.x.less.cap,.bool q.y.num.neg,.slice q.y.num.ad q.y.num.n q.y.num.cap,.bool q.y.less.neg,.slice q.y.less.ad q.y.less.n q.y.less.cap]] w fun e w'=>e=.returned (.bool (decide (a=b)))∧Pure w S w' S:=by
 have hc:=fun w' (hp:dh w' S p a) hq hL=>a3H p q a b w' S hp hq hL
 have heq:=@aDd a b;obtain⟨d,hd⟩:∃ d,mW a b=d:=⟨_,rfl⟩;rw [hd] at heq;simp only [hd] at hc
 have fT:(d == 0)=decide (a=b):=by
  by_cases h:a=b
  ·simp [heq.2 h,h]
  ·simp [h,mt heq.1 h]
 obtain⟨r,hr⟩:∃ r,decide (a=b)=r:=⟨_,rfl⟩;rw [hr] at fT ⊢;replace hr:=Hd hr;clear heq hd;obtain⟨hS,aC,bC,bD⟩:=eR hL
 go_enter func74,ntmps74
 go_wp2_with (with_reducible first|refine cI hS fun bx cu hS=>?_|refine bA 1 hS isAgg56 sizeOf56 ?_|refine bA 2 hS isAgg56 sizeOf56 ?_)
 refine (hc _ (hp.at hS aC) (hq.at hS aC) (aP.at hS aC)).mono ?_;rintro e w' ⟨rfl,az⟩;replace hS:=hS.aj aC bC bD az;obtain⟨F1,aG,-,bB,av,hS⟩:=hS;simp only [];go_wp2;go_ret;exact⟨rfl,bB.step hS av aG⟩
theorem aNC (ad:Option Addr) (n c:Nat) (prs:List PR) (l:List Pt) (F S:Nat→Prop) (w:World) (hS:aA w w [.aH F w,.row (.slice ad n c) 56 8 n (prs.flatMap pc)]) (hF:∀ k,S k→F k) (dL:ez w S prs l) (hs:l.Pairwise Pt.le) (hn:n≤1000000) :
 Calls prog 73 #[.slice ad n c,.func (.func 74) #[] #[]] w fun e w'=>∃ n' nJ l',e=.returned (.slice ad n' c)∧aA w w' [.aH F w,.row (.slice ad n' c) 56 8 n' (nJ.flatMap pc)]∧ez w S nJ l'∧l'.Pairwise Pt.lt∧(∀ x,x ∈ l'↔x ∈ l)∧n'≤n:=by
 have jP:prs.length=n:=by
  have:=(hS.dn 1 rfl).1;rw [nB gF] at this;omega
 have fQ:l.length=n:=by rw [← dL.len,jP]
 have mm:=hS.aGI 1 rfl
 by_cases fx:n<2
 ·have hd:decide ((n:Int)<2)=true:=by simp;omega
  have cA:l.Pairwise Pt.lt:=by
   match l,fQ with
   | [],_=>exact List.Pairwise.nil
   | [x],_=>exact List.pairwise_singleton _ _
   | _::_::_,h=>simp at h;omega
  replace dL:=Hd dL;replace hs:=Hd hs;clear jP fQ
  go_enter func73,ntmps73
  go_wp2;go_ret;exact⟨n,prs,l,rfl,hS,dL.out,cA,fun x=>Iff.rfl,Nat.le_refl _⟩
 ·have hd:decide ((n:Int)<2)=false:=by simp;omega
  obtain⟨g,cur,rfl,-,fg,hcs,-,eK,cK⟩:=hS.aCF 1 rfl (by omega);clear hS;have hS:=cK;clear cK;simp only [aK] at hS;obtain⟨z,hz⟩:∃ z,z=cur.toList.drop (n*8):=⟨_,rfl⟩;obtain⟨D,hD⟩:∃ D,D=(prs.flatMap pc++z).toArray:=⟨_,rfl⟩
  have hcz:cur=(prs.flatMap pc++z).toArray:=by
   rw [← eK,hz,List.take_append_drop]
  have hzl:z.length=(c - n)*8:=by rw [hz,List.length_drop,Array.length_toList,hcs,Nat.sub_mul]
  have dK:(c - n)*8+n*8=c*8:=by rw [← Nat.add_mul];congr 1;omega
  subst hcz;clear hz eK hcs hD D
  have dJ:∀ qs:List PR,qs.length=n→(qs.flatMap pc++z).toArray.size=c*8:=fun qs hq=>by
   rw [List.size_toArray,List.length_append,nB gF,hq];omega
  replace hs:=Hd hs;have sm:=fun p q a b w' hp hq hL=>aPB p q a b w' S hp hq hL
  go_enter func73,ntmps73
  go_wp2
  go_loopw [5] (fun v wr=>∃ k:Nat,v=.int .i64 (k:Int)∧1≤k∧k≤n∧aA w wr [.aH F w,.aB g (.cells (prs.flatMap pc++z).toArray 56 (0,0))]∧(l.take k).Pairwise Pt.lt) (fun v _=>n - (intOf v).toNat)
  case atStart=>exact⟨1,rfl,by omega,by omega,hS,by
   match l,fQ with
   | [],h=>exact List.Pairwise.nil
   | x::l',_=>exact List.pairwise_singleton _ _⟩
  case round =>
   clear hS;obtain⟨k,rfl,fm,hkn,hS,cA⟩:=hrel;replace cA:=Hd cA
   by_cases cW:k<n
   ·have nT:IntKind.i64.wrap ((k:Int) - 1)=((k - 1:Nat):Int):=w7
    have c1:=aAo (z:=z) (show k<prs.length by omega);have c2:=aAo (z:=z) (show k - 1<prs.length by omega);have b1:k*8+8≤(prs.flatMap pc++z).toArray.size:=by rw [List.size_toArray,List.length_append,nB gF];omega
    have b2:(k - 1)*8+8≤(prs.flatMap pc++z).toArray.size:=by rw [List.size_toArray,List.length_append,nB gF];omega
    have i1:=dL.el k (by omega);have i2:=dL.el (k - 1) (by omega);have sZ:=fun h=>aQ6 hs.out fm (by omega) cA.out h
    have sF:=fun h=>uH.start fm (by omega) cA.out h
    obtain⟨m1,e1⟩:∃ m1,nth p0 prs k=m1:=⟨_,rfl⟩;obtain⟨m2,e2⟩:∃ m2,nth p0 prs (k - 1)=m2:=⟨_,rfl⟩;obtain⟨y1,f1⟩:∃ y1,nth au l k=y1:=⟨_,rfl⟩;obtain⟨y2,f2⟩:∃ y2,nth au l (k - 1)=y2:=⟨_,rfl⟩;rw [e1] at c1;rw [e2] at c2;rw [e1,f1] at i1;rw [e2,f2] at i2;rw [f1,f2] at sZ sF;clear e1 e2 f1 f2;replace sZ:=Hd sZ;replace sF:=Hd sF;go_wp2;refine dB [.p 0,.p 1,.p 2,.p 3,.r 4,.p 5,.p 6,.p 7,.p 8,.r 9,.e 10] [] hS fun w1 hS=>?_
    have hC:=hS
    repeat (first|((with_reducible refine kM ?_);refine j3 rfl rfl (yZ (T:=31) underlying31 sizeOf56 rfl rfl (by omega) (by omega) ?_);simp only [aD];try simp only [Nat.zero_add,Int.toNat_natCast])|((with_reducible refine l8 ?_);refine jh rfl rfl (a5S (T:=56) 1 isAgg56 sizeOf56 rfl rfl b1 c1 ?_);simp only [aD])|((with_reducible refine l8 ?_);refine jh rfl rfl (a5S (T:=56) 1 isAgg56 sizeOf56 rfl rfl b2 c2 ?_);simp only [aD])|(with_reducible refine bU ?_))
    clear b1 b2 c1 c2;refine aZ ?_
    go_wp2_with (fail)
    refine (sm m1 m2 y1 y2 _ (i1.at hS hF) (i2.at hS hF) (aP.at hS hF)).mono ?_;rintro e w' ⟨rfl,hq⟩;simp only [];go_step;clear i1 i2
    by_cases hy:y1=y2
    ·have eo:decide (y1=y2)=true:=by simpa using hy
     have fg:=sF.out hy;clear sZ sF hy;rw [eo];clear eo;have hS:=hS.below hq.below hq.drawn;have hC:=hC.below hq.below hq.drawn;refine aX hC ?_;refine aM ?_;refine bE ?_;clear hC;have hrf:∀ (i c2:Nat),i<l.length→True:=fun _ _ _=>trivial
     clear hrf;have mM:IntKind.i64.wrap ((n:Int) - (k:Int))=((n - k:Nat):Int):=w7;have hkc:¬ c=k:=by omega
     have eK:((k:Int)).toNat=k:=by omega
     go_wp2_with (first|((with_reducible refine tD (T:=31) ?_);refine ck rfl (zY (T:=31) (j:=k) underlying31 sizeOf56 rfl rfl (by omega) (by omega) (by omega) ?_);simp only [aD];simp only [Nat.zero_add]))
     go_loopw [5,7] (fun v5 v7 wr=>∃ (K j:Nat) (qs:List PR) (ls:List Pt),v5=.int .i64 (K:Int)∧v7=.int .i64 (j:Int)∧1≤j∧uH l ls K (k+j)∧ez w S qs ls∧aA w wr [.aH F w,.aB g (.cells (qs.flatMap pc++z).toArray 56 (0,0))]) (fun v5 v7 _=>n - k - (intOf v7).toNat)
     case atStart=>exact⟨k,1,prs,l,rfl,rfl,by omega,fg,dL,hS⟩
     case round =>
      clear hS fg dL cA;obtain⟨K,j,qs,ls,rfl,rfl,hj1,uY,dL,hS⟩:=hrel;have fq:=uY.len;have uJ:=dL.len;have dg:=uY.lo;have jU:=uY.hi;have jY:=uY.ml;have hsq:=dJ qs (by omega);replace uY:=Hd uY
      by_cases hjn:j<n - k
      ·have nT:IntKind.i64.wrap ((j:Int) - 1)=((j - 1:Nat):Int):=w7
       have hjt:decide ((j:Int)<((n - k:Nat):Int))=true:=by simp;omega
       have c1:((qs.flatMap pc++z).drop (k*8+j*8)).take 8=pc (nth p0 qs (k+j)):=by rw [← Nat.add_mul];exact aAo (by omega)
       have c2:((qs.flatMap pc++z).drop (k*8+(j - 1)*8)).take 8=pc (nth p0 qs (k+j - 1)):=by rw [← Nat.add_mul,show k+(j - 1)=k+j - 1 by omega];exact aAo (by omega)
       have b1:k*8+j*8+8≤(qs.flatMap pc++z).toArray.size:=by omega
       have b2:k*8+(j - 1)*8+8≤(qs.flatMap pc++z).toArray.size:=by omega
       have i1:=dL.el (k+j) (by omega);have i2:=dL.el (k+j - 1) (by omega);have sZ:=fun h=>uH.take uY.out hs.out (by omega) h
       have sF:=fun h=>uH.skip uY.out (by omega) h
       obtain⟨m1,e1⟩:∃ m1,nth p0 qs (k+j)=m1:=⟨_,rfl⟩;obtain⟨m2,e2⟩:∃ m2,nth p0 qs (k+j - 1)=m2:=⟨_,rfl⟩;obtain⟨y1,f1⟩:∃ y1,nth au ls (k+j)=y1:=⟨_,rfl⟩;obtain⟨y2,f2⟩:∃ y2,nth au ls (k+j - 1)=y2:=⟨_,rfl⟩;rw [e1] at c1;rw [e2] at c2;rw [e1,f1] at i1;rw [e2,f2] at i2;rw [f1,f2] at sZ sF;have iF:=dL.set (i:=K) i1 (by omega);clear e1 e2 f1 f2;replace sZ:=Hd sZ;replace sF:=Hd sF;replace iF:=Hd iF;go_wp2;refine dB [.p 0,.p 1,.p 2,.p 3,.r 4,.p 5,.p 6,.p 7,.p 8,.r 9,.e 10,.p 11] [] hS fun w1 hS=>?_
       have hC:=hS
       repeat (first|((with_reducible refine kM ?_);refine j3 rfl rfl (yZ (T:=31) underlying31 sizeOf56 rfl rfl (by omega) (by omega) ?_);simp only [aD];try simp only [Nat.zero_add,Int.toNat_natCast])|((with_reducible refine l8 ?_);refine jh rfl rfl (a5S (T:=56) 1 isAgg56 sizeOf56 rfl rfl b1 c1 ?_);simp only [aD])|((with_reducible refine l8 ?_);refine jh rfl rfl (a5S (T:=56) 1 isAgg56 sizeOf56 rfl rfl b2 c2 ?_);simp only [aD])|(with_reducible refine bU ?_))
       clear b2 c2;refine aZ ?_
       go_wp2_with (fail)
       refine (sm m1 m2 y1 y2 _ (i1.at hS hF) (i2.at hS hF) (aP.at hS hF)).mono ?_;rintro e w' ⟨rfl,hq⟩;simp only [];go_step;clear i1 i2
       by_cases hy:y1=y2
       ·have eo:decide (y1=y2)=true:=by simpa using hy
        have a0l:=sF.out hy;clear sZ sF hy iF;rw [eo];clear eo;have hS:=hS.below hq.below hq.drawn;have hC:=hC.below hq.below hq.drawn;refine aX hC ?_;refine aM ?_;refine bE ?_;clear hC;replace a0l:=Hd a0l;go_wp2;go_roundw
        case rel=>exact⟨K,j+1,qs,ls,rfl,by simp,by omega,a0l.out,dL,hS⟩
        case measure=>simp [intOf];omega
       ·have eo:decide (y1=y2)=false:=by simpa using hy
        have a0l:=sZ.out hy;clear sZ sF hy;rw [eo];clear eo;have hS:=hS.below hq.below hq.drawn;have hC:=hC.below hq.below hq.drawn;refine aX hC ?_;refine aM ?_;refine bE ?_;clear hC;replace a0l:=Hd a0l
        go_wp2_with (first|((with_reducible refine du (T:=31) ?_);refine ck rfl (yZ (T:=31) underlying31 sizeOf56 rfl rfl (by omega) (by omega) ?_);simp only [aD];try simp only [Nat.zero_add,Int.toNat_natCast])|((with_reducible refine dq (T:=56) ?_);refine dI hS rfl (a5S (T:=56) 1 isAgg56 sizeOf56 rfl rfl b1 c1 ?_);simp only [aD])|((with_reducible refine gK (T:=56) ?_);refine aOP (T:=56) (k:=K) 1 hS rfl rfl rfl sizeOf56 (by omega) (fun _ hS=>?_);simp only [aD];simp only [aK] at hS))
        go_roundw
        case rel=>exact⟨K+1,j+1,_,_,by simp,by simp,by omega,a0l.out,iF.out,hS⟩
        case measure=>simp [intOf];omega
      ·obtain rfl:j=n - k:=by omega
       have aVr:k+(n - k)=n:=by omega
       have j0:=uY.out.mem;have aEl:=uY.out.sorted;rw [aVr,List.take_of_length_le (show l.length≤n by omega)] at j0;replace j0:=Hd j0;replace aEl:=Hd aEl;clear uY;have hKn:K<n:=by omega
       have hKc:K<c:=by omega
       have hzv:=hsq
       go_wp2_with (first|((with_reducible refine tD (T:=31) ?_);refine ck rfl (zY (T:=31) (j:=K) underlying31 sizeOf56 rfl rfl (by omega) (by omega) (by omega) ?_);simp only [aD];simp only [Nat.zero_add])|((with_reducible refine aRv ?_);refine aUG (n:=n - K) (k:=8) (c:=c - K) (o:=K*8) (g:=g) 1 hS underlying31 zeroValue56 rfl (by decide) (by decide) (by omega) rfl rfl (by rw [hsq,← Nat.add_mul];exact Nat.mul_le_mul_right 8 (by omega)) (fun _ arr a9Z eK hS=>?_);simp only [aD];simp only [aK] at hS))
       go_ret;have dp:=nB gF qs
       have tm:arr.toList.take (K*8)=(qs.take K).flatMap pc:=by
        rw [eK];show (qs.flatMap pc++z).take (K*8)=_;rw [List.take_append_of_le_length (by omega),a29 gF]
       have hS:=hS.a4d (c:=c) (n:=K) (k:=8) 1 rfl (a9Z.trans hsq) (by omega) fg;simp only [aK] at hS;rw [tm] at hS;exact⟨K,rfl,qs.take K,hS,ls.take K,dL.take K,aEl.out,j0.out,Nat.le_of_lt hKn⟩
    ·have eo:decide (y1=y2)=false:=by simpa using hy
     have qB:=sZ.out hy;clear sZ sF hy;rw [eo];clear eo;have hS:=hS.below hq.below hq.drawn;have hC:=hC.below hq.below hq.drawn;refine aX hC ?_;refine aM ?_;refine bE ?_;clear hC;replace qB:=Hd qB;go_wp2;go_roundw
     case rel=>exact⟨k+1,rfl,by omega,by omega,hS,qB.out⟩
     case measure=>simp [intOf];omega
   ·obtain rfl:k=n:=by omega
    have qB:l.Pairwise Pt.lt:=by have:=cA.out;rwa [List.take_of_length_le (by omega)] at this
    replace qB:=Hd qB;go_wp2;go_ret;have hS:=hS.a4d (c:=c) (n:=k) (k:=8) 1 rfl (dJ prs jP) mm fg;simp only [aK] at hS;rw [List.take_append_of_le_length (by rw [nB gF];omega),List.take_of_length_le (by rw [nB gF];omega)] at hS;exact⟨k,prs,l,rfl,hS,dL,qB.out,fun x=>Iff.rfl,Nat.le_refl _⟩
theorem aI8 {ss:List Sg} {ps:List Pt} (p:Pt):mB ss ps p↔p ∈ ps∨∃ i s,ss[i]? = some s∧vt ss ps i s p:=by
 constructor
 ·rintro (h|⟨s,hs,h⟩|⟨i,j,s,t,fe,hi,hj,hc⟩)
  ·exact .inl h
  ·obtain⟨i,hi⟩:=List.mem_iff_getElem?.1 hs
   refine .inr ⟨i,s,hi,?_⟩
   rcases h with h|h
   ·exact .inl h
   ·exact .inr (.inl h)
  ·exact .inr ⟨i,s,hi,.inr (.inr (.inl ⟨j,t,fun e=>fe e.symm,hj,hc⟩))⟩
 ·rintro (h|⟨i,s,hi,h|h|⟨j,t,lL,hj,hc⟩|⟨h,_⟩⟩)
  ·exact .inl h
  ·exact .inr (.inl ⟨s,bW hi,.inl h⟩)
  ·exact .inr (.inl ⟨s,bW hi,.inr h⟩)
  ·exact .inr (.inr ⟨i,j,s,t,fun e=>lL e.symm,hi,hj,hc⟩)
  ·exact .inl h
theorem qG.aMY {ss:List Sg} {ps:List Pt} {parts:List (List Pt)} {V:List Pt} {E:List (Nat × Nat)} (bJ:∀ s ∈ ss,s.a≠s.b) (hlen:parts.length=ss.length)
 (qW:∀ l ∈ parts,l.Pairwise Pt.lt) (hp:∀ (i:Nat) s l,ss[i]? = some s→parts[i]? = some l→∀ p,p ∈ l↔vt ss ps i s p) (hVs:V.Pairwise Pt.lt) (hV:∀ p,p ∈ V↔p ∈ ps∨∃ l ∈ parts,p ∈ l)
 (jf:E.Pairwise mY) (hE:∀ u v,(u,v) ∈ E↔∃ l ∈ parts,∃ k p q,l[k]? = some p∧l[k+1]? = some q∧V[u]? = some p∧V[v]? = some q):qG ss ps V E∧∀ (i:Nat) s l,ss[i]? = some s→parts[i]? = some l→∀ p,p ∈ l↔p ∈ V∧cj s p:=by
 have aJP:∀ p,p ∈ V↔mB ss ps p:=by
  intro p;rw [hV,aI8]
  constructor
  ·rintro (h|⟨l,hl,h⟩)
   ·exact .inl h
   ·obtain⟨i,hi⟩:=List.mem_iff_getElem?.1 hl
    have dj:=(List.getElem?_eq_some_iff.1 hi).1;obtain⟨s,hs⟩:∃ s,ss[i]? = some s:=⟨_,List.getElem?_eq_getElem (by omega)⟩;exact .inr ⟨i,s,hs,(hp i s l hs hi p).1 h⟩
  ·rintro (h|⟨i,s,hs,h⟩)
   ·exact .inl h
   ·have dj:=(List.getElem?_eq_some_iff.1 hs).1
    obtain⟨l,hl⟩:∃ l,parts[i]? = some l:=⟨_,List.getElem?_eq_getElem (by omega)⟩;exact .inr ⟨l,bW hl,(hp i s l hs hl p).2 h⟩
 have aBo:∀ (i:Nat) s l,ss[i]? = some s→parts[i]? = some l→∀ p,p ∈ l↔p ∈ V∧cj s p:=by
  intro i s l hs hl p;rw [hp i s l hs hl p,aVh hs bJ,aJP]
 refine⟨⟨hVs,aJP,jf,fun u v=>?_⟩,aBo⟩;rw [hE]
 constructor
 ·rintro⟨l,hl,h⟩
  obtain⟨i,hi⟩:=List.mem_iff_getElem?.1 hl;have dj:=(List.getElem?_eq_some_iff.1 hi).1;obtain⟨s,hs⟩:∃ s,ss[i]? = some s:=⟨_,List.getElem?_eq_getElem (by omega)⟩;exact⟨s,bW hs,(a6X hVs (qW l hl) (aBo i s l hs hi) u v).2 h⟩
 ·rintro⟨s,hs,h⟩
  obtain⟨i,hi⟩:=List.mem_iff_getElem?.1 hs;have dj:=(List.getElem?_eq_some_iff.1 hi).1;obtain⟨l,hl⟩:∃ l,parts[i]? = some l:=⟨_,List.getElem?_eq_getElem (by omega)⟩;exact⟨l,bW hl,(a6X hVs (qW l (bW hl)) (aBo i s l hi hl) u v).1 h⟩
theorem aKC {α:Type} {l:List α} {i:Nat} {t:α}:t ∈ l.take i++l.drop (i+1)↔∃ j,j≠i∧l[j]? = some t:=by
 rw [List.mem_append]
 constructor
 ·rintro (h|h)
  ·obtain⟨j,hj⟩:=List.mem_iff_getElem?.1 h
   rw [List.getElem?_take] at hj
   split at hj
   ·rename_i aW;exact⟨j,by omega,hj⟩
   ·cases hj
  ·obtain⟨j,hj⟩:=List.mem_iff_getElem?.1 h
   rw [List.getElem?_drop] at hj;exact⟨i+1+j,by omega,hj⟩
 ·rintro⟨j,bJ,hj⟩
  rcases Nat.lt_or_ge j i with h|h
  ·exact .inl (List.mem_iff_getElem?.2 ⟨j,by rw [List.getElem?_take,if_pos h];exact hj⟩)
  ·exact .inr (List.mem_iff_getElem?.2 ⟨j - (i+1),by rw [List.getElem?_drop,show i+1+(j - (i+1))=j by omega];exact hj⟩)
theorem aUR {ss:List Sg} {ps:List Pt} {i:Nat} {s:Sg} (hi:ss[i]? = some s) (bJ:∀ s ∈ ss,s.a≠s.b) (x:Pt) :
 vt ss ps i s x↔x=s.a∨x=s.b∨(∃ t ∈ ss.take i++ss.drop (i+1),x ∈ rT s t)∨(x ∈ ps∧cj s x):=by
 have hs:=bJ s (bW hi);unfold vt
 constructor
 ·rintro (h|h|⟨j,t,lL,hj,hc⟩|h)
  ·exact .inl h
  ·exact .inr (.inl h)
  ·exact .inr (.inr (.inl ⟨t,aKC.2 ⟨j,lL,hj⟩,(aGq hs (bJ t (bW hj)) x).2 hc⟩))
  ·exact .inr (.inr (.inr h))
 ·rintro (h|h|⟨t,ht,hm⟩|h)
  ·exact .inl h
  ·exact .inr (.inl h)
  ·obtain⟨j,lL,hj⟩:=aKC.1 ht
   exact .inr (.inr (.inl ⟨j,t,lL,hj,(aGq hs (bJ t (bW hj)) x).1 hm⟩))
  ·exact .inr (.inr (.inr h))
def pk (p:Nat × Nat):Value:=.agg #[.int .i64 p.1,.int .i64 p.2]
abbrev Step:=Nat × (Nat × Nat)
structure uq (tr:List Step) (G:List ((Nat × Nat) × List Nat)):Prop where
 nd:(G.map (·.1)).Nodup
 val:∀ k l,(k,l) ∈ G→l=(tr.filter (fun t=>decide (t.2=k))).map (·.1)
 key:∀ k,k ∈ G.map (·.1)↔∃ t ∈ tr,t.2=k
theorem aCW {ν:Type} {l:List ((Nat × Nat) × ν)} (h:(l.map (·.1)).Nodup) (k:Nat × Nat) (v:ν):((fV l k v).map (·.1)).Nodup:=by
 induction l with
 | nil=>simp [fV]
 | cons p l ih =>
  obtain⟨x,u⟩:=p;simp only [List.map_cons,List.nodup_cons] at h;simp only [fV]
  split
  ·rename_i e;subst e;simpa using h
  ·rename_i e
   simp only [List.map_cons,List.nodup_cons];refine⟨fun hm=>?_,ih h.2⟩
   rcases (a7q l k v x).1 hm with e2|e2
   ·exact e e2
   ·exact h.1 e2
theorem aJV {ν:Type} {l:List ((Nat × Nat) × ν)} (h:(l.map (·.1)).Nodup) {k x:Nat × Nat} {v u:ν}:(x,u) ∈ fV l k v↔(x=k∧u=v)∨(x≠k∧(x,u) ∈ l):=by
 constructor
 ·intro hm
  have:=a4C (aCW h k v) hm;rw [a1y] at this
  by_cases e:k=x
  ·subst e;rw [if_pos rfl] at this;cases this;exact .inl ⟨rfl,rfl⟩
  ·rw [if_neg e] at this;exact .inr ⟨fun e2=>e e2.symm,a6u this⟩
 ·rintro (⟨rfl,rfl⟩|⟨bJ,hm⟩)
  ·exact a6u (by rw [a1y,if_pos rfl])
  ·exact a6u (by rw [a1y,if_neg (fun e=>bJ e.symm)];exact a4C h hm)
theorem uq.nil:uq [] []:=⟨by simp,by simp,by simp⟩
theorem uq.bj {tr:List Step} {G:List ((Nat × Nat) × List Nat)} (h:uq tr G) (k:Nat × Nat):(eZ G k).getD []=(tr.filter (fun t=>decide (t.2=k))).map (·.1):=by
 cases hg:eZ G k with
 | some l=>exact h.val k l (a6u hg)
 | none =>
  have hk:k ∉ G.map (·.1):=fun hm=>by
   obtain⟨⟨x,u⟩,gv,rfl⟩:=List.mem_map.1 hm;rw [a4C h.nd gv] at hg;cases hg
  have hf:tr.filter (fun t=>decide (t.2=k))=[]:=by
   rw [List.filter_eq_nil_iff];intro t ht;simp only [decide_eq_true_eq];exact fun e=>hk ((h.key k).2 ⟨t,ht,e⟩)
  rw [hf];rfl
theorem uq.step {tr:List Step} {G:List ((Nat × Nat) × List Nat)} (h:uq tr G) (i:Nat) (k:Nat × Nat):uq (tr++[(i,k)]) (fV G k ((eZ G k).getD []++[i])):=by
 refine⟨aCW h.nd _ _,fun x l hm=>?_,fun x=>?_⟩
 ·rcases (aJV h.nd).1 hm with ⟨rfl,rfl⟩|⟨bJ,gv⟩
  ·rw [h.bj,List.filter_append,List.map_append];simp
  ·rw [h.val x l gv,List.filter_append,List.map_append]
   have:¬ k=x:=fun e=>bJ e.symm
   simp [this]
 ·rw [a7q,h.key]
  simp only [List.mem_append,List.mem_singleton]
  constructor
  ·rintro (rfl|⟨t,ht,e⟩)
   ·exact⟨(i,x),.inr rfl,rfl⟩
   ·exact⟨t,.inl ht,e⟩
  ·rintro⟨t,ht|rfl,e⟩
   ·exact .inr ⟨t,ht,e⟩
   ·exact .inl e.symm
structure xb {ν:Type} (f:Nat→ν) (tr:List Step) (D:List ((Nat × Nat) × ν)):Prop where
 nd:(D.map (·.1)).Nodup
 val:∀ k d,(k,d) ∈ D→∃ t ∈ tr,t.2=k∧d=f t.1
 key:∀ k,k ∈ D.map (·.1)↔∃ t ∈ tr,t.2=k
theorem xb.nil {ν:Type} (f:Nat→ν):xb f [] []:=⟨by simp,by simp,by simp⟩
theorem xb.step {ν:Type} {f:Nat→ν} {tr:List Step} {D:List ((Nat × Nat) × ν)} (h:xb f tr D) (i:Nat) (k:Nat × Nat):xb f (tr++[(i,k)]) (fV D k (f i)):=by
 refine⟨aCW h.nd _ _,fun x d hm=>?_,fun x=>?_⟩
 ·rcases (aJV h.nd).1 hm with ⟨rfl,rfl⟩|⟨bJ,gv⟩
  ·exact⟨(i,x),by simp,rfl,rfl⟩
  ·obtain⟨t,ht,e⟩:=h.val x d gv
   exact⟨t,by simp [ht],e⟩
 ·rw [a7q,h.key]
  simp only [List.mem_append,List.mem_singleton]
  constructor
  ·rintro (rfl|⟨t,ht,e⟩)
   ·exact⟨(i,x),.inr rfl,rfl⟩
   ·exact⟨t,.inl ht,e⟩
  ·rintro⟨t,ht|rfl,e⟩
   ·exact .inr ⟨t,ht,e⟩
   ·exact .inl e.symm
structure rC (V:List Pt) (pp:List (List Pt)) (i k:Nat) (tr:List Step):Prop where
 mem:∀ j u v,(j,(u,v)) ∈ tr↔∃ q,(j<i∨(j=i∧q+1<k))∧∃ l a b,pp[j]? = some l∧l[q]? = some a∧l[q+1]? = some b∧V[u]? = some a∧V[v]? = some b
 ord:tr.Pairwise (fun s t=>s.1<t.1∨(s.1=t.1∧s.2≠t.2))
theorem rC.nil (V:List Pt) (pp:List (List Pt)):rC V pp 0 1 []:=⟨fun j u v=>by simp,List.Pairwise.nil⟩
theorem rC.next {V:List Pt} {pp:List (List Pt)} {i k:Nat} {tr:List Step} {l:List Pt} (h:rC V pp i k tr) (hl:pp[i]? = some l) (hk:l.length≤k):rC V pp (i+1) 1 tr:=by
 refine⟨fun j u v=>?_,h.ord⟩;rw [h.mem]
 constructor
 ·rintro⟨q,hq,l',a,b,h1,h2,h3,h4⟩
  exact⟨q,by omega,l',a,b,h1,h2,h3,h4⟩
 ·rintro⟨q,hq,l',a,b,h1,h2,h3,h4⟩
  refine⟨q,?_,l',a,b,h1,h2,h3,h4⟩
  rcases Nat.lt_or_ge j i with h5|h5
  ·exact .inl h5
  ·have:j=i:=by omega
   subst this;rw [hl] at h1;cases h1;have:=(List.getElem?_eq_some_iff.1 h3).1;exact .inr ⟨rfl,by omega⟩
theorem aCP {V:List Pt} (hV:V.Pairwise Pt.lt) {u v:Nat} {p:Pt} (h1:V[u]? = some p) (h2:V[v]? = some p):u=v:=by
 obtain⟨a1,a2⟩:=List.getElem?_eq_some_iff.1 h1;obtain⟨b1,b2⟩:=List.getElem?_eq_some_iff.1 h2
 rcases Nat.lt_trichotomy u v with h|h|h
 ·have:=List.pairwise_iff_getElem.1 hV u v a1 b1 h
  rw [a2,b2] at this;exact absurd this (Pt.lt_irrefl _)
 ·exact h
 ·have:=List.pairwise_iff_getElem.1 hV v u b1 a1 h
  rw [a2,b2] at this;exact absurd this (Pt.lt_irrefl _)
theorem rC.step {V:List Pt} {pp:List (List Pt)} {i q u v:Nat} {tr:List Step} {l:List Pt} {a b:Pt} (hV:V.Pairwise Pt.lt) (h:rC V pp i (q+1) tr) (hl:pp[i]? = some l) (fq:l.Pairwise Pt.lt) (ha:l[q]? = some a) (hb:l[q+1]? = some b) (hu:V[u]? = some a) (hv:V[v]? = some b):rC V pp i (q+2) (tr++[(i,(u,v))]):=by
 refine⟨fun j x y=>?_,?_⟩
 ·rw [List.mem_append,h.mem,List.mem_singleton]
  constructor
  ·rintro (⟨r,hr,l',a',b',h1,h2⟩|h1)
   ·exact⟨r,by omega,l',a',b',h1,h2⟩
   ·simp only [Prod.mk.injEq] at h1
    obtain⟨rfl,rfl,rfl⟩:=h1;exact⟨q,.inr ⟨rfl,by omega⟩,l,a,b,hl,ha,hb,hu,hv⟩
  ·rintro⟨r,hr,l',a',b',h1,h2,h3,h4,h5⟩
   by_cases hjr:j=i∧r=q
   ·obtain⟨rfl,rfl⟩:=hjr
    rw [hl] at h1;cases h1;rw [ha] at h2;cases h2;rw [hb] at h3;cases h3
    right
    rw [aCP hV h4 hu,aCP hV h5 hv]
   ·exact .inl ⟨r,by omega,l',a',b',h1,h2,h3,h4,h5⟩
 ·refine List.pairwise_append.2 ⟨h.ord,List.pairwise_singleton _ _,fun s hs t ht=>?_⟩
  rw [List.mem_singleton] at ht;subst ht;obtain⟨j,x,y⟩:=s;obtain⟨r,hr,l',a',b',h1,h2,h3,h4,h5⟩:=(h.mem j x y).1 hs
  rcases hr with hr|⟨rfl,hr⟩
  ·exact .inl hr
  ·refine .inr ⟨rfl,fun e=>?_⟩
   simp only [Prod.mk.injEq] at e;obtain⟨rfl,rfl⟩:=e;rw [hl] at h1;cases h1;rw [h4] at hu;cases hu;have:=aCP fq h2 ha;omega
structure bK where
 k:Nat × Nat
 ad:Option Addr
 n:Nat
 c:Nat
 is:List Nat
def sv (s:Option Addr × Nat × Nat):Value:=.slice s.1 s.2.1 s.2.2
def gvv (g:Gp):Value:=.agg #[.int .i64 g.x,.int .i64 g.y]
def bK.s (r:bK):(Nat × Nat) × (Option Addr × Nat × Nat):=(r.k,(r.ad,r.n,r.c))
def bK.ch (T:TypeId) (r:bK):Chunk:=.row (.slice r.ad r.n r.c) T 1 r.n (iv (zs r.is))
theorem aA.aAU {w0 w:World} (L R:List Chunk) (x:Chunk) (h:aA w0 w (L++(R++[x]))):aA w0 w (L++(x::R)) :=
 h.perm (List.Perm.append_left L (by
  have:=List.perm_append_comm (l₁:=[x]) (l₂:=R)
  simpa using this))
theorem aA.aE1 {w0 w:World} (L:List Chunk):∀ (R:List Chunk) {F:Nat→Prop} {wr:World},aA w0 w (.aH F wr::(L++R)) →
 aA w0 w (.aH (fun k=>F k∨∃ c ∈ R,c.has k) w::L)
 | [],F,wr,h=>by
  have h1:=h.freeze 0 rfl;simp only [List.append_nil,List.set_cons_zero] at h1;have e:(Chunk.aH F wr).has=fun k=>F k∨∃ c ∈ ([]:List Chunk),c.has k:=by funext k;simp [Chunk.has]
  rw [e] at h1;exact h1
 | c::R,F,wr,h=>by
  have h1:aA w0 w (.aH F wr::c::(L++R)):=h.perm (by
   refine List.Perm.cons _ ?_;exact (List.perm_middle (a:=c) (l₁:=L) (l₂:=R)).symm)
  have h2:=(h1.freeze 1 rfl);have h3:=aA.join h2;have h4:=aA.aE1 L R h3
  have e:(fun k=>(F k∨c.has k)∨∃ c ∈ R,c.has k)=fun k=>F k∨∃ c' ∈ c::R,c'.has k:=by
   funext k;simp [or_assoc]
  rw [e] at h4;exact h4
theorem aA.aEE {w0 w wr:World} {L R:List Chunk} {F S0 S:Nat→Prop} (hS:aA w0 w (.aH F wr::(L++R))) (hO:∀ k,Old w0 k→F k) (hF:∀ k,S k→F k) (hp:Pure w0 S0 wr S):Pure w0 S0 w (fun k=>S k∨∃ c ∈ R,c.has k):=by
 have h1:=hp.step hS hO hF;refine⟨h1.below,h1.drawn,fun k hk=>.inl (h1.sub k hk),fun k hk=>?_⟩
 rcases hk with hk|⟨c,hc,hk⟩
 ·exact h1.new k hk
 ·refine .inr ⟨?_,Chunk.lt (hS.ok c (by simp [hc])) hk⟩
  rcases Nat.lt_or_ge k w0.heap.size with aW|gB
  ·exact absurd hk ((List.pairwise_cons.1 hS.apart).1 c (by simp [hc]) k (hO k aW))
  ·exact gB
theorem a7i {ν:Type} {l1 l2:List ((Nat × Nat) × ν)} {k:Nat × Nat} {u v:ν} (h:k ∉ l1.map (·.1)):fV (l1++(k,u)::l2) k v=l1++(k,v)::l2∧eZ (l1++(k,u)::l2) k=some u:=by
 induction l1 with
 | nil=>simp [fV,tE]
 | cons p l1 ih =>
  obtain⟨x,y⟩:=p;simp only [List.map_cons,List.mem_cons,not_or] at h;have bJ:¬ x=k:=fun e=>h.1 e.symm
  obtain⟨i1,i2⟩:=ih h.2;simp only [List.cons_append,fV,if_neg bJ,i1,tE,i2];exact⟨trivial,trivial⟩
theorem a9g {ν:Type} {l:List ((Nat × Nat) × ν)} {k:Nat × Nat} {v:ν} (h:k ∉ l.map (·.1)):fV l k v=l++[(k,v)]∧eZ l k=none:=⟨a7t (aC6 h) v,aC6 h⟩
section
variable {P:Program} {ops:Array Oper} {Q:Exit→Act→World→Prop} {rest:List Oper} {a:Act} {w w0:World} {H:List Chunk}
variable {dst:Option Tmp} {ty T E Tb:TypeId} {pos:String} {ak:Array Edge} {x y:Operand}
theorem aML {n:Nat} {xv:Int} (hS:aA w0 w H) (hu:P.underlying T=some (.slice E)) (ky:(P.info? E).map (fun i=>(i.zero,i.size,i.bytes))=some (some (.slice none 0 0),1,24))
 (hx:a.eval x=.int .i64 xv) (hy:a.eval y=.int .i64 xv) (fL:xv=(n:Int)) (hn:n≤65536)
 (hk:∀ b w',aA w0 w' (H++[.aB b (.cells (List.replicate n (.slice none 0 0)).toArray E (0,0))])→wpList P ops Q rest (a.put dst (.slice (some ⟨b,0,none⟩) n n)) w') :
 wpList P ops Q (⟨dst,.makeSlice T x y,ty,pos,ak,none⟩::rest) a w:=by
 subst fL;obtain⟨i,hi,hz,dJ,jm⟩:=info_parts ky;have hr:=run_make (P:=P) w T E i _ hu hi hz .i64 .i64 n n (by omega) (by omega) (by rw [jm];omega) (by omega)
 have hc:madeCells (Value.slice none 0 0).cells ((n:Int).toNat*i.size)=(List.replicate n (.slice none 0 0)).toArray:=by
  rw [dJ,Int.toNat_natCast,Nat.mul_one];apply Array.ext
  ·simp [madeCells]
  ·intro j h1 h2
   simp [madeCells,Value.cells,Nat.mod_one]
 rw [hc,Int.toNat_natCast] at hr;refine lx (w':=w.alloc (.cells (List.replicate n (.slice none 0 0)).toArray E (0,0))) (v:=.slice (some ⟨w.heap.size,0,none⟩) n n) rfl ?_ (hk _ _ (hS.alloc _));simp only [execOp,hx,hy];simp [hr,go_sem]
theorem aSq {vs:List Value} {b k:Nat} {u:Value} (j:Nat) (hS:aA w0 w H) (hx:a.eval x=.pointer (some ⟨b,k,none⟩)) (hy:a.eval y=u) (hj:H[j]? = some (.aB b (.cells vs.toArray Tb (0,0))))
 (hT:∀ w,(sizeOf T).run P w=.ok 1 w) (hc:u.cells=#[u]) (h1:u.oneCell'=true) (hi:k<vs.length)
 (hk:∀ w',aA w0 w' (H.set j (.aB b (.cells (vs.set k u).toArray Tb (0,0))))→wpList P ops Q rest (a.put dst undef) w') :
 wpList P ops Q (⟨dst,.store T x y,ty,pos,ak,none⟩::rest) a w:=by
 refine aAm (u:=u) j hS hx hy hj (by rw [hc];exact hT) (by rw [hc];simp [h1]) (by rw [hc];simp;omega) (fun w' fY=>hk w' ?_)
 have e:vs.set k u=vs.take k++u.cells.toList++vs.drop (k+u.cells.size):=by
  rw [hc,List.set_eq_take_append_cons_drop,if_pos hi];simp
 rw [e];exact fY
end
theorem tQ:(prog.info? 3).map (fun i=>(i.zero,i.size,i.bytes))=some (some (.int .i64 0),1,8):=by kernel_rfl
theorem aRj:(prog.info? 31).map (fun i=>(i.zero,i.size,i.bytes))=some (some (.slice none 0 0),1,24):=by kernel_rfl
theorem aD2:tP prog 84 pk:=by
 refine aI9 underlying84 (fun k=>⟨_,rfl⟩) (fun e k w=>?_) (fun k x w=>?_) (fun k=>?_)
 ·have a3:=isAgg3
  have z3:=sizeOf3;have jM:∀ (n:Nat) (a:Int) (w:World),(Instr.checkKey e (n+1) 3 (.int .i64 a)).run prog w=.ok () w:=fun n a w=>MapKept.run_checkKey (k:=.int .i64 a) underlying3 (show IntKind.i64=IntKind.i64 from rfl) e n
  rw [show (10000:Nat)=9998+1+1 from rfl,Instr.checkKey];simp only [pk];generalize 9998=n;simp [run_underlying underlying84,part,a3,z3,jM];simp [List.range',a3,z3,jM]
 ·have u3:=underlying3
  have a3:=isAgg3;have z3:=sizeOf3;obtain⟨i,hi,_⟩:=info_parts tQ;have hc:prog.cellsOf 3=1:=by kernel_rfl
  unfold Op.equal;simp only [pk];rw [show Op.maxDepth=9998+1+1 from rfl,run_equalIn_array w (9998+1) _ _ underlying84 hi,hc]
  have hcell:∀ (a b:Int),(Op.equalIn (9998+1) 3 (.int .i64 a) (.int .i64 b)).run prog w=.ok (decide (a=b)) w:=fun a b=>by
   have:=run_equalIn_int (P:=prog) w 9998 3 .i64 .i64 a b underlying3;rw [this]
   by_cases h:a=b <;> simp [h]
  generalize 9998=n at hcell;rw [show List.range 2=[0,1] from rfl];simp only [Op.eqItems];simp [part,a3,z3,hcell,hc]
  by_cases h1:k.fst=x.fst <;> by_cases h2:k.snd=x.snd <;> simp [h1,h2,Prod.ext_iff]
  all_goals first|omega
 ·rw [show (10000:Nat)=9999+1 from rfl]
  simp [pk,Instr.sameBits]
theorem aTK {x y:Nat × Nat} (h:pk x=pk y):x=y:=by
 obtain⟨a,b⟩:=x;obtain⟨c,d⟩:=y;simp [pk] at h
 ext <;> simp <;> omega
theorem aWA {w0 wr w:World} {F S:Nat→Prop} {A:List Chunk} {ad:Option Addr} {n c:Nat} {prs:List PR} {l:List Pt}
 (hS:aA w0 w (.aH F wr::(A++[.row (.slice ad n c) 56 8 n (prs.flatMap pc)]))) (hF:∀ k,S k→F k) (dL:ez wr S prs l) (hs:l.Pairwise Pt.le) (hn:n≤1000000) :
 Calls prog 73 #[.slice ad n c,.func (.func 74) #[] #[]] w fun e w'=>∃ n' nJ l',e=.returned (.slice ad n' c)∧aA w0 w' (.aH F wr::(A++[.row (.slice ad n' c) 56 8 n' (nJ.flatMap pc)]))∧ez wr S nJ l'∧l'.Pairwise Pt.lt∧(∀ x,x ∈ l'↔x ∈ l)∧n'≤n:=by
 have dw:=aA.split (A:=.aH F wr::A) hS;refine (aNC ad n c prs l _ S w dw (fun k hk=>Rest.of hS (hF k hk)) (dL.at hS hF) hs hn).mono ?_;rintro e w' ⟨n',nJ,l',rfl,fY,h1,h2,h3⟩;have cK:=aA.su (A:=.aH F wr::A) hS fY
 exact⟨n',nJ,l',rfl,cK,h1.move (fun k hk=>by
  rw [← cK.da hF k hk];have:=(fY.ok (.aH _ w) (by simp) k (Rest.of hS (hF k hk))).2;exact this),h2,h3⟩
def a7w:Value:=.slice none 0 0
def pP (os:List Sz) (i:Nat):List Sz:=os.take i++os.drop (i+1)
structure pV (w:World) (S:Nat→Prop) (os:List Sz) (gs:List Gp) (vs:List Value) (pp:List (List Pt)):Prop where
 vl:vs.length=os.length
 pl:pp.length≤os.length
 el:∀ i,i<pp.length→∃ ad n c prs,nth a7w vs i=.slice ad n c∧PL w S (.slice ad n c) prs (nth [] pp i)
 ok:∀ i,i<pp.length→yU (nth s0 os i) (pP os i) gs (nth [] pp i)
theorem pV.grow {w w':World} {S S':Nat→Prop} {os:List Sz} {gs:List Gp} {vs:List Value} {pp:List (List Pt)} (h:pV w S os gs vs pp) (hp:Pure w S w' S'):pV w' S' os gs vs pp :=
 ⟨h.vl,h.pl,fun i hi=>by obtain⟨ad,n,c,prs,h1,h2⟩:=h.el i hi;exact⟨ad,n,c,prs,h1,h2.grow hp⟩,h.ok⟩
theorem pV.at {w0 w wr:World} {H:List Chunk} {F S:Nat→Prop} {os:List Sz} {gs:List Gp} {vs:List Value} {pp:List (List Pt)} (h:pV wr S os gs vs pp) (hS:aA w0 w (.aH F wr::H)) (hF:∀ k,S k→F k):pV w S os gs vs pp :=
 ⟨h.vl,h.pl,fun i hi=>by obtain⟨ad,n,c,prs,h1,h2⟩:=h.el i hi;exact⟨ad,n,c,prs,h1,h2.at hS hF⟩,h.ok⟩
theorem pV.start (w:World) (S:Nat→Prop) (os:List Sz) (gs:List Gp):pV w S os gs (List.replicate os.length a7w) []:=⟨by simp,by simp,fun i hi=>by simp at hi,fun i hi=>by simp at hi⟩
theorem pV.step {w:World} {S:Nat→Prop} {os:List Sz} {gs:List Gp} {vs:List Value} {pp:List (List Pt)} (h:pV w S os gs vs pp) (aW:pp.length<os.length) {ad:Option Addr} {n c:Nat} {prs:List PR} {l:List Pt} (hl:PL w S (.slice ad n c) prs l) (hp:yU (nth s0 os pp.length) (pP os pp.length) gs l):pV w S os gs (vs.set pp.length (.slice ad n c)) (pp++[l]):=by
 have lP:=h.vl;refine⟨by simp [lP],by simp;omega,fun i hi=>?_,fun i hi=>?_⟩
 ·simp only [List.length_append,List.length_singleton] at hi
  rcases Nat.lt_or_ge i pp.length with h1|h1
  ·rw [ju _ _ _ _ h1,aAX _ _ _ _ _ (by omega),if_neg (by omega)]
   exact h.el i h1
  ·obtain rfl:i=pp.length:=by omega
   rw [uE,aAX _ _ _ _ _ (by omega),if_pos rfl];exact⟨ad,n,c,prs,rfl,hl⟩
 ·simp only [List.length_append,List.length_singleton] at hi
  rcases Nat.lt_or_ge i pp.length with h1|h1
  ·rw [ju _ _ _ _ h1];exact h.ok i h1
  ·obtain rfl:i=pp.length:=by omega
   rw [uE];exact hp
theorem yU.two {s:Sz} {os:List Sz} {gs:List Gp} {l:List Pt} (h:yU s os gs l) (bJ:s.a≠s.b):2≤l.length:=by
 have ha:=(h.mem s.a.pt).2 (.inl rfl);have hb:=(h.mem s.b.pt).2 (.inr (.inl rfl));have bV:s.a.pt≠s.b.pt:=fun e=>bJ (Gp.aBa.1 e)
 match l with
 | []=>cases ha
 | [x] =>
  simp only [List.mem_singleton] at ha hb;exact absurd (ha.trans hb.symm) bV
 | _::_::_=>simp
theorem aF9 {os:List Sz} {i:Nat} (h:i<os.length):(pP os i).length=os.length - 1:=by
 unfold pP;rw [List.length_append,List.length_take,List.length_drop];omega
theorem aMK {os:List Sz} {i:Nat} {t:Sz} (h:t ∈ pP os i):t ∈ os:=by
 unfold pP at h
 rcases List.mem_append.1 h with h|h
 ·exact List.mem_of_mem_take h
 ·exact List.mem_of_mem_drop h
structure eu (os:List Sz) (gs:List Gp) (V:List Pt) (es:List Ed):Prop where
 arr:qG (os.map Sz.sg) (gs.map Gp.pt) V (es.map fun e=>(e.a,e.b))
 of:∀ e ∈ es,∀ i,i ∈ e.of↔∃ s,os[i]? = some s∧kX V s.sg e.a e.b
 ofs:∀ e ∈ es,e.of.Pairwise (· < ·)
 dir:∀ e ∈ es,∃ s ∈ os,kX V s.sg e.a e.b∧e.dir=fN s
structure aF0 (w:World) (S:Nat→Prop) (sg pt v e:Option Addr × Nat × Nat) (os:List Sz) (gs:List Gp) (V:List Pt) (es:List Ed):Prop where
 aY2:bN w S 4 (sv sg) os.length (os.flatMap sc)
 pts:bN w S 2 (sv pt) gs.length (gs.flatMap gc)
 vs:∃ prs,PL w S (sv v) prs V
 es:∃ rs,bN w S 5 (sv e) es.length (rs.flatMap ec)∧kP w S rs es
def aQz (w:World) (S:Nat→Prop) (os:List Sz) (gs:List Gp) (e:Ending) (w':World):Prop :=
 ∃ (sg pt v ee:Option Addr × Nat × Nat) (S':Nat→Prop) (V:List Pt) (es:List Ed),e=.returned (.tuple #[.agg #[sv sg,sv pt,sv v,sv ee],.int .i64 0])∧Pure w S w' S'∧aF0 w' S' sg pt v ee os gs V es∧eu os gs V es
def bK.g (r:bK):(Nat × Nat) × List Nat:=(r.k,r.is)
theorem pV.weaken {w:World} {S T:Nat→Prop} {os:List Sz} {gs:List Gp} {vs:List Value} {pp:List (List Pt)} (h:pV w S os gs vs pp) (iU:∀ k,S k→T k):pV w T os gs vs pp :=
 ⟨h.vl,h.pl,fun i hi=>by obtain⟨ad,n,c,prs,h1,h2⟩:=h.el i hi;exact⟨ad,n,c,prs,h1,h2.weaken iU⟩,h.ok⟩
structure aBF (R:List bK) (key:Nat × Nat) (R1:List bK) (r:bK) (R2:List bK):Prop where
 rk:r.k=key
 put:∀ v,fV (R.map bK.s) key v=R1.map bK.s++(key,v)::R2.map bK.s
 get:(eZ (R.map bK.s) key).getD (none,0,0)=(r.ad,r.n,r.c)
 aPN:∀ l,fV (R.map bK.g) key l=R1.map bK.g++(key,l)::R2.map bK.g
 aJM:(eZ (R.map bK.g) key).getD []=r.is
theorem aRH {w0 w:World} {L:List Chunk} {T:TypeId} {R:List bK} (hS:aA w0 w (L++R.map (bK.ch T))) (hnd:((R.map bK.g).map (·.1)).Nodup) (key:Nat × Nat) :
 ∃ R1 r R2,aBF R key R1 r R2∧aA w0 w (L++(R1++r::R2).map (bK.ch T)):=by
 have hks:(R.map bK.s).map (·.1)=R.map (·.k):=by rw [List.map_map];rfl
 have hkg:(R.map bK.g).map (·.1)=R.map (·.k):=by rw [List.map_map];rfl
 by_cases hk:key ∈ R.map (·.k)
 ·obtain⟨r,hr,rfl⟩:=List.mem_map.1 hk
  obtain⟨R1,R2,rfl⟩:=List.append_of_mem hr;rw [hkg,List.map_append,List.map_cons,List.nodup_append] at hnd;have h1:r.k ∉ R1.map (·.k):=fun h=>hnd.2.2 _ h _ (List.mem_cons_self) rfl
  have h1s:r.k ∉ (R1.map bK.s).map (·.1):=by rw [List.map_map];exact h1
  have h1g:r.k ∉ (R1.map bK.g).map (·.1):=by rw [List.map_map];exact h1
  refine⟨R1,r,R2,⟨rfl,fun v=>?_,?_,fun l=>?_,?_⟩,hS⟩
  ·rw [List.map_append,List.map_cons];exact (a7i (u:=(r.ad,r.n,r.c)) h1s).1
  ·rw [List.map_append,List.map_cons]
   have:=(a7i (l2:=R2.map bK.s) (u:=(r.ad,r.n,r.c)) (v:=(none,0,0)) h1s).2;unfold bK.s at this ⊢;rw [this];rfl
  ·rw [List.map_append,List.map_cons];exact (a7i (u:=r.is) h1g).1
  ·rw [List.map_append,List.map_cons]
   have:=(a7i (l2:=R2.map bK.g) (u:=r.is) (v:=[]) h1g).2;unfold bK.g at this ⊢;rw [this];rfl
 ·have hs:key ∉ (R.map bK.s).map (·.1):=by rw [hks];exact hk
  have hg:key ∉ (R.map bK.g).map (·.1):=by rw [hkg];exact hk
  refine⟨R,⟨key,none,0,0,[]⟩,[],⟨rfl,fun v=>?_,?_,fun l=>?_,?_⟩,?_⟩
  ·rw [(a9g hs).1];rfl
  ·rw [(a9g (v:=(none,0,0)) hs).2];rfl
  ·rw [(a9g hg).1];rfl
  ·rw [(a9g (v:=([]:List Nat)) hg).2];rfl
  ·have:=hS.iB T 1
   rw [List.append_assoc] at this;rw [List.map_append];exact this
section
variable {P:Program} {ops:Array Oper} {Q:Exit→Act→World→Prop} {rest:List Oper} {a:Act} {w w0:World}
variable {dst:Option Tmp} {ty T E:TypeId} {pos:String} {ak:Array Edge} {x y:Operand}
theorem aHT {L:List Chunk} {R1 R2:List bK} {r:bK} {i b:Nat} {Tb:TypeId} {bytes:Nat} (hS:aA w0 w (L++((R1++r::R2).map (bK.ch E)++[.aB b (.cells #[.int .i64 (i:Int)] Tb (0,0))]))) (ht:P.underlying T=some (.slice E)) (ky:(P.info? E).map (fun i=>(i.zero,i.size,i.bytes))=some (some (.int .i64 0),1,bytes)) (hb8:bytes=8)
 (hx:a.eval x=.slice r.ad r.n r.c) (hy:a.eval y=.slice (some ⟨b,0,none⟩) 1 1) (hn:r.n≤100000000)
 (hk:∀ ad c w',aA w0 w' (L++(R1++(⟨r.k,ad,r.n+1,c,r.is++[i]⟩:bK)::R2).map (bK.ch E))→wpList P ops Q rest (a.put dst (.slice ad (r.n+1) c)) w') :
 wpList P ops Q (⟨dst,.call ⟨.builtin .append,#[x,y],#[T,T]⟩,ty,pos,ak,none⟩::rest) a w:=by
 subst hb8;rw [← List.append_assoc] at hS
 have hj:(L++(R1++r::R2).map (bK.ch E))[L.length+R1.length]? = some (.row (.slice r.ad r.n r.c) E 1 r.n (iv (zs r.is))):=by
  rw [List.getElem?_append_right (by omega),List.map_append,List.map_cons,List.getElem?_append_right (by simp)];simp [bK.ch]
 refine fw (t:=T) (L.length+R1.length) hS ht ky rfl (by decide) hx hy hj (by simp) (by simp [Value.oneCell']) (by omega) (by unfold maxLen;omega) (fun ad c w' fY=>hk ad c w' ?_)
 have e:(L++(R1++r::R2).map (bK.ch E)).set (L.length+R1.length) (.row (.slice ad (r.n+1) c) E 1 (r.n+1) (iv (zs r.is)++#[Value.int .i64 (i:Int)].toList))=L++(R1++(⟨r.k,ad,r.n+1,c,r.is++[i]⟩:bK)::R2).map (bK.ch E):=by
  rw [List.set_append_right _ _ (by omega),List.map_append,List.map_cons,List.map_append,List.map_cons,List.set_append_right _ _ (by simp)];simp only [List.length_map,Nat.add_sub_cancel_left,Nat.sub_self,List.set_cons_zero]
  congr 3
  simp [bK.ch,zs,iv]
 rw [← e];exact fY
end
theorem aBF.step {R R1 R2:List bK} {r:bK} {key:Nat × Nat} (h:aBF R key R1 r R2) {ad:Option Addr} {c i:Nat} :
 fV (R.map bK.s) key (ad,r.n+1,c)=(R1++(⟨r.k,ad,r.n+1,c,r.is++[i]⟩:bK)::R2).map bK.s∧fV (R.map bK.g) key ((eZ (R.map bK.g) key).getD []++[i])=(R1++(⟨r.k,ad,r.n+1,c,r.is++[i]⟩:bK)::R2).map bK.g:=by
 constructor
 ·rw [h.put,List.map_append,List.map_cons]
  unfold bK.s;rw [h.rk]
 ·rw [h.aPN,h.aJM,List.map_append,List.map_cons]
  unfold bK.g;rw [h.rk]
theorem vw.at {V:List Pt} {q:Pt} {i:Nat} (h:vw V q i) (hs:V.Pairwise Pt.lt) (hq:q ∈ V):V[i]? = some q:=by
 obtain⟨j,hj,rfl⟩:=List.mem_iff_getElem.1 hq;obtain⟨h1,h2,h3⟩:=h
 rcases Nat.lt_trichotomy i j with h4|h4|h4
 ·exfalso
  apply h3 i (Nat.le_refl _) (by omega);rw [bS au V i (by omega)];exact List.pairwise_iff_getElem.1 hs i j (by omega) hj h4
 ·subst h4;exact List.getElem?_eq_getElem hj
 ·exfalso
  have:=h2 j h4;rw [bS au V j hj] at this;exact Pt.lt_irrefl _ this
def a9j (w:World) (b:Nat):Nat:=match w.heap[b]? with|some (.mapIter _ _ seen _)=>seen.size|_=>0
theorem a7C {κ ν:Type} {ek:κ→Value} {ev:ν→Value} {b bi:Nat} {o oi:Obj} {l d:List (κ × ν)} (h:pA ek ev b o oi l d) {w:World} (hb:w.heap[bi]? = some oi):a9j w bi=d.length:=by
 obtain⟨es,clock,f,rfl,rfl,_⟩:=h;simp [a9j,hb]
theorem a7X {κ ν:Type} [DecidableEq κ] {ek:κ→Value} {ev:ν→Value} {b:Nat} {o oi:Obj} {l d:List (κ × ν)} (h:pA ek ev b o oi l d):d.length≤l.length:=by
 obtain⟨es,clock,f,rfl,rfl,_,_,_,h1,h2,h3,_⟩:=h;have n2:(d.map (·.1)).Nodup:=h2
 have zQ:d.map (·.1) ⊆ l.map (·.1):=by
  intro x hx;obtain⟨p,hp,rfl⟩:=List.mem_map.1 hx;exact List.mem_map.2 ⟨p,h1 p hp,rfl⟩
 have:=n2.length_le_of_subset zQ
 simpa using this
theorem aVZ {κ ν:Type} {ek:κ→Value} {ev:ν→Value} {b:Nat} {o oi:Obj} {l d:List (κ × ν)} (h:pA ek ev b o oi l d):(d.map (·.1)).Nodup∧∀ p ∈ d,p ∈ l:=by
 obtain⟨es,clock,f,rfl,rfl,_,_,_,h1,h2,h3,_⟩:=h;exact⟨h2,h1⟩
theorem aPs {w0 w:World} {L:List Chunk} {T:TypeId} {R:List bK} (hS:aA w0 w (L++R.map (bK.ch T))) {r:bK} (hr:r ∈ R) (hb:∀ x ∈ r.is,x≤9223372036854775807):jZ w (fun k=>∃ c ∈ R.map (bK.ch T),c.has k) (.slice r.ad r.n r.c) r.is:=by
 have hm:r.ch T ∈ R.map (bK.ch T):=List.mem_map.2 ⟨r,hr,rfl⟩;have bG:(r.ch T).ok w:=hS.ok _ (by simp only [List.mem_append];exact .inr hm);have bh:bN w _ 1 (.slice r.ad r.n r.c) r.n (iv (zs r.is)):=bN.ofRow bG
 have hn:r.n=(zs r.is).length:=by
  have:=bh.1;rw [tK] at this;omega
 refine⟨?_,fun x hx=>?_⟩
 ·rw [← hn]
  exact bh.weaken fun k h=>⟨r.ch T,hm,h⟩
 ·obtain⟨n,fx,rfl⟩:=List.mem_map.1 hx
  have:=hb n fx;unfold bQ;omega
instance :Inhabited ER:=⟨jk⟩
section
open Go.RowKit Go.Hp Go.Sort Go.Shelf
def a1H (x y:ER):Int:=if cR x.a y.a≠0 then cR x.a y.a else cR x.b y.b
theorem a89 (x y:ER):a1H x y<0↔mY (x.a,x.b) (y.a,y.b):=by
 unfold a1H mY cR;simp only
 split <;> split <;> (try split) <;> (try split) <;> omega
theorem aT4:SWO (Proofs.ltOf a1H) where
 irrefl x:=by unfold Proofs.ltOf;rw [decide_eq_false_iff_not,a89];exact a5w _
 trans x y z h1 h2:=by
  unfold Proofs.ltOf at *;rw [decide_eq_true_iff,a89] at *;exact aGW h1 h2
 ntrans x y z h1 h2:=by
  unfold Proofs.ltOf at *;rw [decide_eq_false_iff_not,a89] at *;unfold mY at *;simp only at *;omega
theorem aNa (x y:ER) (w:World):Calls prog 78 #[.agg (ec x).toArray,.agg (ec y).toArray] w fun e w'=>e=.returned (.int .i64 (a1H x y))∧Pure w (fun _=>False) w' (fun _=>False):=by
 obtain⟨a,b,ad,n,c,d⟩:=x;obtain⟨a2,b2,dU,n2,c2,d2⟩:=y;obtain⟨r,hr⟩:∃ r,a1H ⟨a,b,ad,n,c,d⟩ ⟨a2,b2,dU,n2,c2,d2⟩=r:=⟨_,rfl⟩;rw [hr];unfold a1H at hr;simp only at hr;obtain⟨r1,h1⟩:∃ r1,cR a a2=r1:=⟨_,rfl⟩;obtain⟨r2,h2⟩:∃ r2,cR b b2=r2:=⟨_,rfl⟩;rw [h1,h2] at hr;replace h1:=Hd h1;replace h2:=Hd h2;have mL:=fun b w S hv=>aG6 b r1 r2 r hr w S hv
 clear hr;have hS:=aA.start w;simp only [ec]
 go_enter func78,ntmps78
 go_wp2_with (with_reducible refine cI hS fun bx cu hS=>?_)
 refine dB [.p 0,.r 1,.p 2,.r 3,.p 5,.r 6,.p 7,.r 8,.e 4,.e 9,.e 10,.e 11,.p 12] [] hS fun w1 hS=>?_
 have hC:=hS
 repeat (with_reducible first|refine cZ 1 isAgg3 ?_|refine cZ 2 isAgg3 ?_|refine bU ?_)
 refine aZ ?_
 go_wp2_with (fail)
 refine (a0S a a2 _).mono ?_;rintro e w' ⟨rfl,rfl⟩;simp only [];go_step;rw [h1.out];refine aX hC ?_;refine aM ?_;refine aZ ?_
 go_wp2_with (fail)
 refine (a0S b b2 _).mono ?_;rintro e w' ⟨rfl,rfl⟩;simp only [];go_step;rw [h2.out];refine aX hC ?_;refine aM ?_;refine aZ ?_
 ((with_reducible refine dV (T:=22) ?_);refine nc (k:=1) (z:=.int .i64 0) (len:=2) hS underlying22 sizeOf3 zeroValue3 (by decide) (by decide) (a8x _ _) (fun bl fX hS=>?_);simp only [aD];simp only [aK] at hS)
 refine aX hS.sb ?_;refine aM ?_;refine aZ ?_
 go_wp2_with (fail)
 refine (mL bl _ _ (bN.ve (k:=1) (n:=2) hS (bW (i:=3) rfl) rfl (by decide))).mono ?_;rintro e w' ⟨rfl,rfl⟩;simp only [];go_step;refine aX hS.sb ?_;refine aM ?_;refine bE ?_;go_wp2;go_ret;exact⟨rfl,hS.pure _⟩
theorem aTn {w0 w:World} {H:List Chunk} {ad:Option Addr} {n c:Nat} {T:TypeId} {rs:List ER} (j:Nat) (hS:aA w0 w H) (hj:H[j]? = some (.row (.slice ad n c) T 5 n (rs.flatMap ec))) (hl:n≤100000000) :
 Calls prog 77 #[.slice ad n c,.func (.func 78) #[] #[]] w fun e w'=>e=.returned (.tuple #[])∧∃ zX:List ER,zX.Perm rs∧zX.Pairwise (fun x y=>¬ mY (y.a,y.b) (x.a,x.b))∧aA w0 w' (H.set j (.row (.slice ad n c) T 5 n (zX.flatMap ec))):=by
 refine (aBE aSu (by decide) isAgg101 sizeOf101 ec (fun x=>rfl) (fun x v hv=>aVn [x] v (by simpa using hv)) a1H aT4 78 #[] j hS hj hl (Proofs.enters_of func78 (by kernel_rfl) rfl) ?_).mono ?_
 ·intro W hW x y
  exact (aNa x y W).mono fun e w' ⟨he,hq⟩=>⟨he,hq.below,hq.drawn⟩
 ·rintro e w' ⟨he,zX,hp,hs,fY⟩
  refine⟨he,zX,hp,?_,fY⟩;refine hs.imp fun {x y} h=>?_
  unfold Proofs.ltOf at h
  rwa [decide_eq_false_iff_not,a89] at h
end
def vF (G:List ((Nat × Nat) × List Nat)) (D:List ((Nat × Nat) × Gp)) (k:Nat × Nat):Ed:=⟨k.1,k.2,(eZ G k).getD [],(eZ D k).getD g0⟩
theorem aOQ {ν:Type} {l:List ((Nat × Nat) × ν)} {k:Nat × Nat} (h:k ∈ l.map (·.1)):∃ v,eZ l k=some v:=by
 cases hg:eZ l k with
 | some v=>exact⟨v,rfl⟩
 | none =>
  exfalso
  induction l with
  | nil=>simp at h
  | cons p l ih =>
   obtain⟨x,u⟩:=p;rw [tE] at hg
   split at hg
   ·cases hg
   ·rename_i bJ
    rcases List.mem_cons.1 h with h1|h1
    ·exact bJ h1.symm
    ·exact ih h1 hg
theorem zk {α:Type} {d:α} {l:List α} {i:Nat} {s:α} (h:l[i]? = some s):nth d l i=s:=by
 unfold nth;simp [List.getD_eq_getElem?_getD,h]
theorem aEX {α:Type} {d:α} {l:List α} {i:Nat} (h:i<l.length):l[i]? = some (nth d l i):=by
 rw [bS d l i h];exact List.getElem?_eq_getElem h
theorem yU.vt {os:List Sz} {gs:List Gp} {i:Nat} {s:Sz} {l:List Pt} (h:yU s (pP os i) gs l) (cJ:∀ t ∈ os,t.ok) (hi:os[i]? = some s) (x:Pt):x ∈ l↔vt (os.map Sz.sg) (gs.map Gp.pt) i s.sg x:=by
 have bJ:∀ t ∈ os.map Sz.sg,t.a≠t.b:=by
  intro t ht;obtain⟨u,hu,rfl⟩:=List.mem_map.1 ht;exact fun e=>(cJ u hu).2.2 (Gp.aBa.1 e)
 have mg:(os.map Sz.sg)[i]? = some s.sg:=by rw [List.getElem?_map,hi];rfl
 rw [aUR mg bJ,h.mem];have e:(os.map Sz.sg).take i++(os.map Sz.sg).drop (i+1)=(pP os i).map Sz.sg:=by unfold pP;rw [List.map_append,List.map_take,List.map_drop]
 rw [e];refine or_congr Iff.rfl (or_congr Iff.rfl (or_congr ?_ ?_))
 ·constructor
  ·rintro⟨t,ht,h⟩;exact⟨t.sg,List.mem_map.2 ⟨t,ht,rfl⟩,h⟩
  ·rintro⟨t,ht,h⟩
   obtain⟨u,hu,rfl⟩:=List.mem_map.1 ht;exact⟨u,hu,h⟩
 ·constructor
  ·rintro⟨g,hg,rfl,h⟩;exact⟨List.mem_map.2 ⟨g,hg,rfl⟩,h⟩
  ·rintro⟨hg,h⟩
   obtain⟨g,qK,rfl⟩:=List.mem_map.1 hg;exact⟨g,qK,rfl,h⟩
theorem aPt {os:List Sz} {gs:List Gp} {pp:List (List Pt)} (cJ:∀ t ∈ os,t.ok) (hlen:pp.length=os.length) (bG:∀ i,i<pp.length→yU (nth s0 os i) (pP os i) gs (nth [] pp i)) {x:Pt} (hx:x ∈ gs.map Gp.pt∨∃ l ∈ pp,x ∈ l):mB (os.map Sz.sg) (gs.map Gp.pt) x:=by
 rw [aI8]
 rcases hx with h|⟨l,hl,h⟩
 ·exact .inl h
 ·obtain⟨i,hi⟩:=List.mem_iff_getElem?.1 hl
  have dj:=(List.getElem?_eq_some_iff.1 hi).1;have hs:os[i]? = some (nth s0 os i):=aEX (by omega);have hk:=bG i dj;rw [zk hi] at hk;exact .inr ⟨i,(nth s0 os i).sg,by rw [List.getElem?_map,hs];rfl,(hk.vt cJ hs x).1 h⟩
theorem eu.aMZ {os:List Sz} {gs:List Gp} {V:List Pt} {pp:List (List Pt)} {tr:List Step} {G:List ((Nat × Nat) × List Nat)} {D:List ((Nat × Nat) × Gp)} {es:List Ed} (cJ:∀ t ∈ os,t.ok) (hlen:pp.length=os.length)
 (bG:∀ i,i<pp.length→yU (nth s0 os i) (pP os i) gs (nth [] pp i)) (hV:V.Pairwise Pt.lt) (hVm:∀ x,x ∈ V↔x ∈ gs.map Gp.pt∨∃ l ∈ pp,x ∈ l) (hT:rC V pp os.length 1 tr) (hG:uq tr G) (hD:xb (fun i=>fN (nth s0 os i)) tr D)
 (dW:∀ e,e ∈ es↔∃ k ∈ G.map (·.1),e=vF G D k) (qW:(es.map fun e=>(e.a,e.b)).Pairwise mY):eu os gs V es:=by
 have bJ:∀ t ∈ os.map Sz.sg,t.a≠t.b:=by
  intro t ht;obtain⟨u,hu,rfl⟩:=List.mem_map.1 ht;exact fun e=>(cJ u hu).2.2 (Gp.aBa.1 e)
 have aCa:∀ l ∈ pp,l.Pairwise Pt.lt:=by
  intro l hl;obtain⟨i,hi⟩:=List.mem_iff_getElem?.1 hl;have dj:=(List.getElem?_eq_some_iff.1 hi).1;have:=bG i dj;rw [zk hi] at this;exact this.sorted
 have hE:∀ u v,(u,v) ∈ es.map (fun e=>(e.a,e.b))↔∃ l ∈ pp,∃ k p q,l[k]? = some p∧l[k+1]? = some q∧V[u]? = some p∧V[v]? = some q:=by
  intro u v
  have h1:(u,v) ∈ es.map (fun e=>(e.a,e.b))↔(u,v) ∈ G.map (·.1):=by
   rw [List.mem_map]
   constructor
   ·rintro⟨e,he,h⟩
    obtain⟨k,hk,rfl⟩:=(dW e).1 he;simp only [vF,Prod.mk.injEq] at h;obtain⟨rfl,rfl⟩:=h;exact hk
   ·intro h
    exact⟨_,(dW _).2 ⟨_,h,rfl⟩,rfl⟩
  rw [h1,hG.key]
  constructor
  ·rintro⟨⟨j,x,y⟩,ht,h⟩
   simp only [Prod.mk.injEq] at h;obtain⟨rfl,rfl⟩:=h;obtain⟨q,hq,l,a,b,h1,h2,h3,h4,h5⟩:=(hT.mem j x y).1 ht;exact⟨l,bW h1,q,a,b,h2,h3,h4,h5⟩
  ·rintro⟨l,hl,q,a,b,h2,h3,h4,h5⟩
   obtain⟨j,hj⟩:=List.mem_iff_getElem?.1 hl;have gX:=(List.getElem?_eq_some_iff.1 hj).1;exact⟨(j,(u,v)),(hT.mem j u v).2 ⟨q,.inl (by omega),l,a,b,hj,h2,h3,h4,h5⟩,rfl⟩
 have aEj:=qG.aMY (ss:=os.map Sz.sg) (ps:=gs.map Gp.pt) (parts:=pp) (V:=V) (E:=es.map fun e=>(e.a,e.b)) bJ (by simp [hlen]) aCa (fun i s l hi hl p=>by
  rw [List.getElem?_map,Option.map_eq_some_iff] at hi;obtain⟨t,ht,rfl⟩:=hi;have dj:=(List.getElem?_eq_some_iff.1 hl).1;have:=bG i dj;rw [zk hl,zk ht] at this;exact this.vt cJ ht p) hV hVm qW hE
 have rP:∀ j u v,(j,(u,v)) ∈ tr↔∃ s,os[j]? = some s∧kX V s.sg u v:=by
  intro j u v;rw [hT.mem]
  constructor
  ·rintro⟨q,hq,l,a,b,h1,h2,h3,h4,h5⟩
   have gX:j<os.length:=by omega
   refine⟨nth s0 os j,aEX gX,?_⟩;exact (a6X hV (aCa l (bW h1)) (aEj.2 j _ l (by rw [List.getElem?_map,aEX (d:=s0) gX];rfl) h1) u v).2 ⟨q,a,b,h2,h3,h4,h5⟩
  ·rintro⟨s,hs,hn⟩
   have gX:=(List.getElem?_eq_some_iff.1 hs).1;obtain⟨l,hl⟩:∃ l,pp[j]? = some l:=⟨_,List.getElem?_eq_getElem (by omega)⟩;obtain⟨q,a,b,h2,h3,h4,h5⟩:=(a6X hV (aCa l (bW hl)) (aEj.2 j _ l (by rw [List.getElem?_map,hs];rfl) hl) u v).1 hn;exact⟨q,.inl gX,l,a,b,hl,h2,h3,h4,h5⟩
 refine⟨aEj.1,fun e he i=>?_,fun e he=>?_,fun e he=>?_⟩
 ·obtain⟨k,hk,rfl⟩:=(dW e).1 he
  rw [← rP];simp only [vF];rw [hG.bj,List.mem_map]
  constructor
  ·rintro⟨⟨j,x⟩,ht,rfl⟩
   rw [List.mem_filter] at ht;obtain⟨h1,h2⟩:=ht;simp only [decide_eq_true_eq] at h2;rw [← h2];exact h1
  ·intro h
   exact⟨(i,k),List.mem_filter.2 ⟨h,by simp⟩,rfl⟩
 ·obtain⟨k,hk,rfl⟩:=(dW e).1 he
  simp only [vF];rw [hG.bj,List.pairwise_map];have h1:(tr.filter (fun t=>decide (t.2=k))).Pairwise (fun s t=>s.1<t.1∨(s.1=t.1∧s.2≠t.2)):=hT.ord.sublist List.filter_sublist;refine List.Pairwise.imp_of_mem ?_ h1;intro s t hs ht h;rw [List.mem_filter] at hs ht;have e1:=of_decide_eq_true hs.2;have e2:=of_decide_eq_true ht.2
  rcases h with h|⟨_,h⟩
  ·exact h
  ·exact absurd (e1.trans e2.symm) h
 ·obtain⟨k,hk,rfl⟩:=(dW e).1 he
  have hkD:k ∈ D.map (·.1):=by rw [hD.key,← hG.key];exact hk
  obtain⟨d,hd⟩:=aOQ hkD;obtain⟨⟨j,x⟩,ht,h1,h2⟩:=hD.val k d (a6u hd);simp only at h1 h2;subst h1;obtain⟨s,hs,hn⟩:=(rP j x.1 x.2).1 ht;refine⟨s,bW hs,hn,?_⟩;simp only [vF,hd,Option.getD_some,h2];rw [zk hs]
end Go.Hp
