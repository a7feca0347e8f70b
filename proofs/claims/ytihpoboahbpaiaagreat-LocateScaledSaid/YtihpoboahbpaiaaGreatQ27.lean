/- Texts for the walk of the law: SK E10 E11. -/
import Derived.Test.YtihpoboahbpaiaaGreatQ26
set_option maxRecDepth 100000
set_option maxHeartbeats 16000000
set_option linter.unusedVariables false
set_option linter.unusedSimpArgs false
namespace Go.Hp
open Go Go.RowKit Go.Sort Go.Shelf Go.Proofs
theorem grow_of_below {w w':World} (h:Go.RowKit.Below w.heap.size w w') (hd:w.drawn≤w'.drawn):∃ q os',w'=grow (w.drewN q) os':=by
 refine⟨w'.drawn - w.drawn,w'.heap.extract w.heap.size w'.heap.size,?_⟩;obtain⟨h1,h2,h3,h4,h5⟩:=h;cases w;cases w';simp only at *;subst h1 h2 h3;unfold grow World.drewN;simp only [World.mk.injEq];refine⟨?_,trivial,by omega,trivial,trivial⟩;apply Array.ext_getElem?;intro k;rw [Array.getElem?_append]
 split
 ·rename_i hk;exact h5 k hk
 ·rename_i hk
  rw [Array.getElem?_extract];have:∀ n m:Nat,n+(k - n)=k∨k<n:=fun n m=>by omega
  split
  ·congr 1;omega
  ·rw [Array.getElem?_eq_none (by omega)]
theorem heap_sortG {w:World} {g n:Nat} {os:Array Obj} {cur:Array Value} {e:TypeId} {fr:Nat × Nat} (d:Array Value) (hb:w.heap[g]? = some (.cells cur e fr)) :
 (grow (putRow id (Sort.ahead w n) g 0 d) os).heap[g]? = some (.cells (putCells id 0 d cur) e fr):=by
 have hg:g<w.heap.size:=(Array.getElem?_eq_some_iff.1 hb).1;rw [heap_grow_old _ _ (by simpa using hg)];simp [putRow,mapBlock,Sort.ahead,Array.getElem?_modify,hb,onCells]
theorem grownBy_sortG {w:World} {g n:Nat} {os:Array Obj} (d:Array Value):w.grownBy (grow (putRow id (Sort.ahead w n) g 0 d) os) (some g):=by
 refine⟨rfl,rfl,rfl,by simp,fun k hk hne=>?_⟩;rw [heap_grow_old _ _ (by simpa using hk)];have:g≠k:=fun e=>hne (by rw [e])
 simp [putRow,mapBlock,Sort.ahead,Array.getElem?_modify,this]
theorem drawn_sortG {w:World} {g n:Nat} {os:Array Obj} (d:Array Value):w.drawn≤(grow (putRow id (Sort.ahead w n) g 0 d) os).drawn:=by
 simp [grow,putRow,mapBlock,Sort.ahead]
theorem take_putG (cur:Array Value) (ts:List Value) (h:ts.length≤cur.size):(putCells id 0 ts.toArray cur).toList.take ts.length=ts:=by
 apply List.ext_getElem?;intro j
 by_cases hj:j<ts.length
 ·rw [List.getElem?_take_of_lt hj,Array.getElem?_toList]
  simp [putCells,hj,show j<cur.size by omega]
 ·rw [List.getElem?_take_eq_none (by omega),List.getElem?_eq_none (by omega)]
theorem holds_blockG {w:World} {g:Nat} {cur:Array Value} {e:TypeId} {ss:List Value} (hb:w.heap[g]? = some (.cells cur e (0,0))) (ht:cur.toList.take ss.length=ss):Holds id w g 0 ss.toArray:=by
 intro j hj;have hj':j<ss.length:=by simpa using hj
 refine⟨?_,by simp [World.frozen?,hb]⟩;have h1:(cur.toList.take ss.length)[j]? = ss[j]?:=by rw [ht]
 rw [List.getElem?_take_of_lt hj'] at h1;simp only [World.cell?,hb,Nat.zero_add];simp only [Option.isSome_none,Bool.false_eq_true,if_false];rw [← Array.getElem?_toList,h1,List.getElem?_eq_getElem hj'];simp [hj']
theorem flatK_list {α:Type} [Inhabited α] {enc:α→List Value} {k:Nat} (hk:∀ x,(enc x).length=k) (hk0:0<k) (ts:List α):flatK enc k ts.toArray=(ts.flatMap enc).toArray:=by
 have hl:=flat_len hk ts;apply Array.ext
 ·simp only [List.size_toArray,hl]
  unfold flatK;simp
 ·intro t h1 h2
  have h1':t<ts.length*k:=by simpa [hl] using h2
  have hg:=get_flatK enc k ts.toArray t (by simpa using h1');rw [getElem!_pos _ t h1] at hg;rw [hg];have hi:t / k<ts.length:=by rw [Nat.div_lt_iff_lt_mul hk0];exact h1'
  have hc:=flat_cell hk (default:α) (l:=ts) (i:=t / k) hi;have hd:ts.toArray[t / k]! = nth default ts (t / k):=by rw [getElem!_pos _ _ (by simpa using hi),nth_eq _ _ _ hi];simp
  have hm:t % k<k:=Nat.mod_lt _ hk0;have hdm:t / k*k+t % k=t:=by rw [Nat.mul_comm];exact Nat.div_add_mod t k
  rw [hd,← hc,getElem!_pos _ _ (by simp [hl];omega)];simp only [List.getElem_take,List.getElem_drop,List.getElem_toArray]
  congr 1
variable {P:Program} {ρ:Ren} {α:Type} [Inhabited α]
def Beside (w:World) (c:Chunk) (W:World):Prop:=w.heap.size≤W.heap.size∧∀ k,k<w.heap.size→¬ c.has k→W.heap[k]? = w.heap[k]?
theorem sortK_row (L:SlLaysF0.n6 P ρ) {k:Nat} (hk0:0<k) (aE:∀ w,(isAgg (ρ.t 24)).run P w=.ok true w) (zE:∀ w,(Go.sizeOf (ρ.t 24)).run P w=.ok k w) (enc:α→List Value) (hk:∀ x,(enc x).length=k) (h1:∀ x,∀ v ∈ enc x,v.oneCell'=true) (cf:α→α→Int) (hO:SWO (ltOf cf)) (g:Nat) (cb:Array Value)
 {w0 w:World} {H:List Chunk} {ad:Option Addr} {n cap:Nat} {T:TypeId} {ts:List α} (j:Nat) (hS:Heap w0 w H) (hj:H[j]? = some (.row (.slice ad n cap) T k n (ts.flatMap enc))) (hl:n≤100000000) (eg:∀ args w,(callFunc g args).run P w=.ok (.enter g args) w)
 (hcmp:∀ W,Beside w (.row (.slice ad n cap) T k n (ts.flatMap enc)) W→∀ x y,Calls P g (#[.agg (enc x).toArray,.agg (enc y).toArray]++cb) W fun e w'=>e=.returned (.int .i64 (cf x y))∧Go.RowKit.Below W.heap.size W w'∧W.drawn≤w'.drawn) :
 Calls P (ρ.f 6) #[.slice ad n cap,.func (.func g) #[] cb] w fun e w'=>e=.returned (.tuple #[])∧∃ ts':List α,ts'.Perm ts∧ts'.Pairwise (fun x y=>ltOf cf y x=false)∧Heap w0 w' (H.set j (.row (.slice ad n cap) T k n (ts'.flatMap enc))):=by
 have hown:=hS.ok _ (List.mem_of_getElem? hj);obtain⟨hlen,hor⟩:=hown;rw [flat_len hk] at hlen;have hlen':ts.length=n:=Nat.eq_of_mul_eq_mul_right hk0 hlen;subst hlen'
 rcases hor with ⟨hv,hn⟩|⟨b,cap',cur,hv,hb,hg,hnc,hcm,hcs,htake⟩
 ·simp only [Value.slice.injEq] at hv
  obtain⟨rfl,hx,rfl⟩:=hv;have hxs:ts=[]:=List.eq_nil_of_length_eq_zero hx;subst hxs;refine (AnyF.slices_SortFunc_none L none 0 _ w).mono fun e w' ⟨he,hw⟩=>⟨he,[],List.Perm.refl _,List.Pairwise.nil,?_⟩
  subst hw
  have:H.set j (.row (.slice none 0 0) T k 0 ([].flatMap enc))=H:=by
   apply List.ext_getElem?;intro i;rw [List.getElem?_set]
   split
   ·rename_i h;subst h
    obtain⟨hlt,hq⟩:=List.getElem?_eq_some_iff.1 hj;rw [if_pos hlt,List.getElem?_eq_getElem hlt,hq]
    rfl
   ·rfl
  show Heap w0 w' (H.set j (.row (.slice none 0 0) T k 0 ([].flatMap enc)));rw [this];exact hS
 ·simp only [Value.slice.injEq] at hv
  obtain⟨rfl,-,rfl⟩:=hv;have htl:=flat_len hk ts;have htake':cur.toList.take (ts.flatMap enc).length=ts.flatMap enc:=by rw [htl];exact htake
  have hH:HoldsK enc k w b 0 ts.toArray:=by
   unfold HoldsK;rw [flatK_list hk hk0];exact holds_blockG hg htake'
  have hbl:=(Array.getElem?_eq_some_iff.1 hg).1
  have hlays:CmpLays P g cb enc k cf b 0 ts.toArray.size w:=by
   intro m os dk hdk x y
   have hW:Beside w (.row (.slice (some ⟨b,0,none⟩) ts.length cap) T k ts.length (ts.flatMap enc)) (sortWorldK enc k w b 0 m dk os):=by
    have hgr:=grownBy_sortG (w:=w) (g:=b) (n:=m) (os:=os) (flatK enc k dk);exact⟨hgr.size,fun i hi hni=>hgr.block i hi (fun e=>hni (by simp only [Chunk.has,Value.ownBlock];exact e.symm))⟩
   refine (hcmp _ hW x y).mono fun e w' ⟨he,hbw,hd⟩=>⟨he,grow_of_below hbw hd⟩
  have hcon:=AnyQ.slices_SortFunc L k aE zE enc hk h1 cf hO g cb b 0 cap ts.toArray w eg hlays hH hbl (by simp;omega);rw [List.size_toArray] at hcon;refine hcon.mono fun e w' ⟨he,d',m,os,hperm,hsort,hw⟩=>⟨he,d'.toList,?_,?_,?_⟩
  ·obtain⟨hsz,_,hp⟩:=hperm
   have e1:d'.extract 0 ts.length=d':=by
    have:d'.size=ts.length:=by simpa using hsz
    rw [← this];exact Array.extract_size
   have e2:ts.toArray.extract 0 ts.length=ts.toArray:=by
    simp
   rw [e1,e2] at hp
   simpa using hp
  ·have hsz:d'.size=ts.length:=by simpa using hperm.1
   rw [List.pairwise_iff_getElem];intro i q hi hq hiq;have hi':i<d'.size:=by simpa using hi
   have hq':q<d'.size:=by simpa using hq
   have:=hsort i q (Nat.zero_le _) hiq (by omega);rw [getElem!_pos d' q hq',getElem!_pos d' i hi'] at this
   simpa using this
  ·have hsz:d'.size=ts.length:=by simpa using hperm.1
   have hdl:(d'.toList.flatMap enc).length=ts.length*k:=by rw [flat_len hk,show d'.toList.length=ts.length by simpa using hsz]
   have hfl:flatK enc k d'=(d'.toList.flatMap enc).toArray:=by
    have:=flatK_list hk hk0 d'.toList
    simpa using this
   have hw2:w'=grow (putRow id (Sort.ahead w m) b 0 (d'.toList.flatMap enc).toArray) os:=by
    rw [hw,← hfl]
    rfl
   clear hw;subst hw2;have hgr:=grownBy_sortG (w:=w) (g:=b) (n:=m) (os:=os) (d'.toList.flatMap enc).toArray;refine hS.turn j hj hgr.os hgr.tape hgr.output (drawn_sortG _) hgr.size ?_ (fun k hk=>.inl hk) (fun k hk hnk=>hgr.block k hk (fun e=>hnk (by simp only [Chunk.has,Value.ownBlock];exact e.symm)));refine⟨hdl,.inr ⟨b,cap,_,rfl,Nat.zero_le _,heap_sortG _ hg,hnc,hcm,?_,?_⟩⟩
   ·simp [Go.Sort.putCells,hcs]
   ·rw [← hdl]
    have hm:ts.length*k≤cap*k:=Nat.mul_le_mul_right k hnc;exact take_putG cur _ (by rw [hdl,hcs];exact hm)
end Go.Hp
namespace Go.Hp
open Go.Proofs.Tryz
open Go Go.RowKit Go.Sort Go.Shelf Go.Proofs
theorem Bsd.keep {w0 w wr W:World} {H:List Chunk} {F S:Nat→Prop} {c:Chunk} (hS:Heap w0 w (.frz F wr::H)) (hF:∀ k,S k→F k) {j:Nat} (hj:H[j]? = some c) (hW:Beside w c W):∀ k,S k→W.heap[k]? = w.heap[k]?:=fun k hk =>
 hW.2 k (hS.ok (.frz F wr) (by simp) k (hF k hk)).1 ((List.pairwise_cons.1 hS.apart).1 _ (List.mem_of_getElem? hj) k (hF k hk))
theorem Bsd.liv {w0 w wr W:World} {H:List Chunk} {F S:Nat→Prop} {c:Chunk} (hS:Heap w0 w (.frz F wr::H)) (hF:∀ k,S k→F k) (hW:Beside w c W):Liv W S:=fun k hk =>
 Nat.lt_of_lt_of_le (hS.ok (.frz F wr) (by simp) k (hF k hk)).1 hW.1
theorem Lim_one:1<Lim:=by
 rw [Lim_eq]
 exact Nat.lt_of_lt_of_le (by rw [WB_eq];omega:1<WB) (by
  have:=Nat.pow_le_pow_right WB_pos (show 1≤512 by omega)
  rwa [Nat.pow_one] at this)
theorem IsF.zero (w:World) (S:Nat→Prop):IsF w S ⟨⟨false,none,0,0⟩,⟨false,none,0,0⟩⟩ 0:=⟨IsI.zero w S,IsI.zero w S,Lim_one⟩
theorem IsP.zero (w:World) (S:Nat→Prop):IsP w S p0 pt0:=⟨IsF.zero w S,IsF.zero w S⟩
def PAt (w:World) (S:Nat→Prop):Type:={ x:PR × Pt // IsP w S x.1 x.2 }
theorem IsPs.zip {w:World} {S:Nat→Prop} {prs:List PR} {l:List Pt} (h:IsPs w S prs l):∃ ts:List (PAt w S),ts.map (·.1.1)=prs∧ts.map (·.1.2)=l:=by
 obtain⟨f,hf1,hf2⟩:∃ f:Fin l.length→PAt w S,(∀ i,(f i).1.1=nth p0 prs i)∧∀ i,(f i).1.2=nth pt0 l i:=⟨fun i=>⟨(nth p0 prs i,nth pt0 l i),h.el i i.2⟩,fun i=>rfl,fun i=>rfl⟩;have hlen:=h.len;refine⟨List.ofFn f,?_,?_⟩
 ·apply nth_ext p0
  ·rw [List.length_map,List.length_ofFn,hlen]
  ·intro i hi
   have hi':i<l.length:=by rw [List.length_map,List.length_ofFn] at hi;exact hi
   rw [nth_eq _ _ _ hi,List.getElem_map,List.getElem_ofFn];exact hf1 ⟨i,hi'⟩
 ·apply nth_ext pt0
  ·rw [List.length_map,List.length_ofFn]
  ·intro i hi
   have hi':i<l.length:=by rw [List.length_map,List.length_ofFn] at hi;exact hi
   rw [nth_eq _ _ _ hi,List.getElem_map,List.getElem_ofFn];exact hf2 ⟨i,hi'⟩
theorem IsPs.ofZip {w:World} {S:Nat→Prop} (ts:List (PAt w S)):IsPs w S (ts.map (·.1.1)) (ts.map (·.1.2)):=by
 refine⟨by simp,fun i hi=>?_⟩;have hi':i<ts.length:=by simpa using hi
 rw [nth_eq _ _ _ (by simpa using hi'),nth_eq _ _ _ hi];simp only [List.getElem_map];exact (ts[i]).2
end Go.Hp
namespace Go.Proofs
open Go.Proofs.Tryz
open Go.RowKit Go.Hp Go.Sort Go.Shelf
theorem cmpP_swo (w:World) (S:Nat→Prop):SWO (ltOf (fun x y:PAt w S=>cmpP x.1.2 y.1.2)) where
 irrefl x:=by unfold ltOf;rw [decide_eq_false_iff_not,cmpP_lt];exact Pt.lt_irrefl _
 trans x y z h1 h2:=by
  unfold ltOf at *;rw [decide_eq_true_iff,cmpP_lt] at *;exact Pt.lt_trans h1 h2
 ntrans x y z h1 h2:=by
  unfold ltOf at *;rw [decide_eq_false_iff_not,cmpP_lt,Pt.not_lt] at *;exact Pt.le_trans h2 h1
theorem sortP_any {w0 w wr:World} {H:List Chunk} {F S:Nat→Prop} {ad:Option Addr} {n c:Nat} {T:TypeId} {prs:List PR} {l:List Pt} (j:Nat) (hS:Heap w0 w (.frz F wr::H)) (hF:∀ k,S k→F k) (hps:IsPs wr S prs l) (hj:H[j]? = some (.row (.slice ad n c) T 8 n (prs.flatMap pc))) (hl:n≤1000000) :
 Calls Tryz.prog 72 #[.slice ad n c,.func (.func 70) #[] #[]] w fun e w'=>e=.returned (.tuple #[])∧∃ prs' l',Heap w0 w' (.frz F wr::H.set j (.row (.slice ad n c) T 8 n (prs'.flatMap pc)))∧IsPs wr S prs' l'∧l'.Perm l∧l'.Pairwise Pt.le:=by
 obtain⟨ts,h1,h2⟩:=(hps.at hS hF).zip
 haveI:Inhabited (PAt w S):=⟨⟨(p0,pt0),IsP.zero w S⟩⟩
 have hfl:∀ ts:List (PAt w S),ts.flatMap (fun x=>pc x.1.1)=(ts.map (·.1.1)).flatMap pc:=fun ts=>by rw [List.flatMap_map]
 have hj':(Chunk.frz F wr::H)[j+1]? = some (.row (.slice ad n c) T 8 n (ts.flatMap (fun x=>pc x.1.1))):=by
  rw [hfl,h1];exact hj
 refine (sortK_row Tryz.sortP (by decide) isAgg56 sizeOf56 (fun x:PAt w S=>pc x.1.1) (fun x=>rfl) (fun x v hv=>pc_one [x.1.1] v (by simpa using hv)) (fun x y=>cmpP x.1.2 y.1.2) (cmpP_swo w S) 70 #[] (j+1) hS hj' (by omega) (enters_of func70 (by kernel_rfl) rfl) ?_).mono ?_
 ·intro W hW x y
  have hkeep:=Bsd.keep hS hF (j:=j) (by rw [hj,hfl,h1]) hW;exact (pcompare_any x.1.1 y.1.1 x.1.2 y.1.2 W S (x.2.move hkeep) (y.2.move hkeep) (Bsd.liv hS hF hW)).mono fun e w' ⟨he,hq⟩=>⟨he,hq.below,hq.drawn⟩
 ·rintro e w' ⟨he,ts',hp,hs,hS'⟩
  have hS2:Heap w0 w' (.frz F wr::H.set j (.row (.slice ad n c) T 8 n ((ts'.map (·.1.1)).flatMap pc))):=by rw [← hfl];exact hS'
  refine⟨he,_,_,hS2,(IsPs.ofZip ts').move (fun k hk=>(hS.keep hF k hk).symm),?_,?_⟩
  ·rw [← h2];exact hp.map _
  ·rw [List.pairwise_map]
   refine hs.imp fun {x y} h=>?_
   unfold ltOf at h;rw [decide_eq_false_iff_not,cmpP_lt,Pt.not_lt] at h;exact h
end Go.Proofs
namespace Go.Hp
open Go Go.RowKit
theorem flat_at {prs:List PR} {z:List Value} {i:Nat} (hi:i<prs.length):((prs.flatMap pc++z).drop (i*8)).take 8=pc (nth p0 prs i):=by
 have h:=flat_cell pc_len p0 hi;have hl:=flat_len pc_len prs;rw [List.drop_append_of_le_length (by omega),List.take_append_of_le_length (by rw [List.length_drop];omega)];exact h
theorem flat_put {prs:List PR} {z:List Value} {i:Nat} {p:PR} (hi:i<prs.length):(prs.flatMap pc++z).take (i*8)++pc p++(prs.flatMap pc++z).drop (i*8+8)=(prs.set i p).flatMap pc++z:=by
 have hl:=flat_len pc_len prs;rw [List.take_append_of_le_length (by omega),List.drop_append_of_le_length (by omega),show i*8+8=(i+1)*8 by omega,flat_take pc_len,flat_drop pc_len,← List.append_assoc]
 congr 1
 rw [List.set_eq_take_append_cons_drop,if_pos hi];simp
theorem IsPs.set {w:World} {S:Nat→Prop} {prs:List PR} {l:List Pt} (h:IsPs w S prs l) {i:Nat} {p:PR} {q:Pt} (hp:IsP w S p q) (hi:i<l.length):IsPs w S (prs.set i p) (l.set i q):=by
 have hl:=h.len;refine⟨by simp [hl],fun j hj=>?_⟩;rw [List.length_set] at hj;unfold nth;simp only [List.getD_eq_getElem?_getD,List.getElem?_set]
 by_cases e:i=j
 ·subst e;simp [hi,hl];exact hp
 ·rw [if_neg e,if_neg e];have:=h.el j hj;unfold nth at this;simpa [List.getD_eq_getElem?_getD] using this
theorem IsPs.take {w:World} {S:Nat→Prop} {prs:List PR} {l:List Pt} (h:IsPs w S prs l) (k:Nat):IsPs w S (prs.take k) (l.take k):=by
 have hl:=h.len;refine⟨by simp [hl],fun j hj=>?_⟩;rw [List.length_take] at hj;rw [nth_take _ _ (by omega),nth_take _ _ (by omega)];exact h.el j (by omega)
structure Cmp1 (l ls:List Pt) (K m:Nat):Prop where
 len:ls.length=l.length
 lo:1≤K
 hi:K+1≤m
 ml:m≤l.length
 rest:∀ i,m - 1≤i→nth pt0 ls i=nth pt0 l i
 sorted:(ls.take K).Pairwise Pt.lt
 mem:∀ x,x ∈ ls.take K↔x ∈ l.take m
theorem mem_take_nth {l:List Pt} {m:Nat} (hm:m≤l.length) {x:Pt}:x ∈ l.take m↔∃ i,i<m∧nth pt0 l i=x:=by
 constructor
 ·intro h
  obtain⟨i,hi,rfl⟩:=List.mem_iff_getElem.1 h;have hi':i<m:=by rw [List.length_take] at hi;omega
  exact⟨i,hi',by rw [nth_eq _ _ _ (by omega)];simp⟩
 ·rintro⟨i,hi,rfl⟩
  rw [nth_eq _ _ _ (by omega)];exact List.mem_iff_getElem.2 ⟨i,by rw [List.length_take];omega,by simp⟩
theorem nth_le {l:List Pt} (hs:l.Pairwise Pt.le) {i j:Nat} (hij:i≤j) (hj:j<l.length):(nth pt0 l i).le (nth pt0 l j):=by
 rcases Nat.lt_or_eq_of_le hij with h|h
 ·rw [nth_eq _ _ _ (by omega),nth_eq _ _ _ hj]
  exact List.pairwise_iff_getElem.1 hs i j (by omega) hj h
 ·subst h;exact Pt.le_refl _
theorem Cmp1.start {l:List Pt} {k:Nat} (hk:1≤k) (hkl:k<l.length) (hs:(l.take k).Pairwise Pt.lt) (he:nth pt0 l k=nth pt0 l (k - 1)):Cmp1 l l k (k+1):=by
 refine⟨rfl,hk,Nat.le_refl _,hkl,fun _ _=>rfl,hs,fun x=>?_⟩;rw [mem_take_nth (by omega),mem_take_nth (by omega)]
 constructor
 ·rintro⟨i,hi,h⟩;exact⟨i,by omega,h⟩
 ·rintro⟨i,hi,h⟩
  by_cases hik:i=k
  ·subst hik;exact⟨i - 1,by omega,by rw [← he];exact h⟩
  ·exact⟨i,by omega,h⟩
theorem Cmp1.skip {l ls:List Pt} {K m:Nat} (h:Cmp1 l ls K m) (hm:m<l.length) (he:nth pt0 ls m=nth pt0 ls (m - 1)):Cmp1 l ls K (m+1):=by
 have hm2:=h.hi;have e1:=h.rest m (by omega);have e2:=h.rest (m - 1) (by omega);refine⟨h.len,h.lo,by omega,hm,fun i hi=>h.rest i (by omega),h.sorted,fun x=>?_⟩;rw [h.mem,mem_take_nth (by omega),mem_take_nth (by omega)]
 constructor
 ·rintro⟨i,hi,h⟩;exact⟨i,by omega,h⟩
 ·rintro⟨i,hi,h3⟩
  by_cases hik:i=m
  ·subst hik
   have:=h.lo;exact⟨i - 1,by omega,by rw [← e2,← he,e1];exact h3⟩
  ·exact⟨i,by omega,h3⟩
theorem nth_put {α:Type} (d x:α) (l:List α) (i j:Nat) (hi:i<l.length):nth d (l.set i x) j=if j=i then x else nth d l j:=by
 unfold nth;simp only [List.getD_eq_getElem?_getD,List.getElem?_set]
 by_cases h:i=j
 ·subst h;simp [hi]
 ·rw [if_neg h,if_neg (fun e=>h e.symm)]
theorem Cmp1.take {l ls:List Pt} {K m:Nat} (h:Cmp1 l ls K m) (hs:l.Pairwise Pt.le) (hm:m<l.length) (he:nth pt0 ls m≠nth pt0 ls (m - 1)):Cmp1 l (ls.set K (nth pt0 ls m)) (K+1) (m+1):=by
 have h1:=h.hi;have h2:=h.lo;have h3:=h.len;have e1:=h.rest m (by omega);have e2:=h.rest (m - 1) (by omega)
 have hlt:(nth pt0 l (m - 1)).lt (nth pt0 l m):=by
  rcases Pt.le_iff.1 (nth_le hs (show m - 1≤m by omega) hm) with h|h
  ·exact h
  ·exact absurd (by rw [e1,e2];exact h.symm) he
 have htk:(ls.set K (nth pt0 ls m)).take (K+1)=ls.take K++[nth pt0 ls m]:=by
  rw [take_snoc pt0 _ _ (by rw [List.length_set];omega),nth_put _ _ _ _ _ (by omega),if_pos rfl,List.take_set_of_le (Nat.le_refl _)]
 refine⟨by rw [List.length_set];exact h3,by omega,by omega,hm,fun i hi=>?_,?_,fun x=>?_⟩
 ·rw [nth_put _ _ _ _ _ (by omega),if_neg (by omega)]
  exact h.rest i (by omega)
 ·rw [htk]
  refine List.pairwise_append.2 ⟨h.sorted,List.pairwise_singleton _ _,fun a ha b hb=>?_⟩;rw [List.mem_singleton] at hb;subst hb;obtain⟨i,hi,rfl⟩:=(mem_take_nth (by omega)).1 ((h.mem a).1 ha);rw [e1];have:=nth_le hs (show i≤m - 1 by omega) (by omega)
  rcases Pt.le_iff.1 this with h4|h4
  ·exact Pt.lt_trans h4 hlt
  ·rw [h4];exact hlt
 ·rw [htk,List.mem_append,h.mem,List.mem_singleton,mem_take_nth (by omega),mem_take_nth (by omega)]
  constructor
  ·rintro (⟨i,hi,h⟩|h)
   ·exact⟨i,by omega,h⟩
   ·exact⟨m,by omega,by rw [← e1];exact h.symm⟩
  ·rintro⟨i,hi,h5⟩
   by_cases hik:i=m
   ·subst hik;exact .inr (by rw [e1];exact h5.symm)
   ·exact .inl ⟨i,by omega,h5⟩
theorem strict_snoc {l:List Pt} (hs:l.Pairwise Pt.le) {k:Nat} (hk:1≤k) (hkl:k<l.length) (h:(l.take k).Pairwise Pt.lt) (he:nth pt0 l k≠nth pt0 l (k - 1)):(l.take (k+1)).Pairwise Pt.lt:=by
 rw [take_snoc pt0 _ _ hkl]
 have hlt:(nth pt0 l (k - 1)).lt (nth pt0 l k):=by
  rcases Pt.le_iff.1 (nth_le hs (show k - 1≤k by omega) hkl) with h|h
  ·exact h
  ·exact absurd h.symm he
 refine List.pairwise_append.2 ⟨h,List.pairwise_singleton _ _,fun a ha b hb=>?_⟩;rw [List.mem_singleton] at hb;subst hb;obtain⟨i,hi,rfl⟩:=(mem_take_nth (by omega)).1 ha
 rcases Pt.le_iff.1 (nth_le hs (show i≤k - 1 by omega) (by omega)) with h4|h4
 ·exact Pt.lt_trans h4 hlt
 ·rw [h4];exact hlt
section
variable {P:Program} {ops:Array Oper} {Q:Exit→Act→World→Prop} {rest:List Oper} {a:Act} {w w0:World} {H:List Chunk}
variable {dst:Option Tmp} {ty T E Tb:TypeId} {pos:String} {aft:Array Edge} {x:Operand}
theorem g_clear {args:Array Operand} {ts:Array TypeId} {gd:Option (Nat × Bool)} (h:wpList P ops Q (⟨dst,.call ⟨.builtin .clear,args,ts⟩,ty,pos,aft,gd⟩::rest) a w):wpList P ops Q (⟨dst,.call ⟨.builtin .clear,args,ts⟩,ty,pos,aft,gd⟩::rest) a w:=h
theorem seq_clear_k {k n c o g:Nat} {cur:Array Value} {z:Value} (j:Nat) (hS:Heap w0 w H) (hu:P.underlying T=some (.slice E)) (hzv:∀ w,(zeroValue E).run P w=.ok z w) (hzk:z.cells.size=k) (h1:∀ v ∈ z.cells.toList,v.oneCell'=true) (hk0:0<k) (hn:0<n)
 (hx:a.eval x=.slice (some ⟨g,o,none⟩) n c) (hj:H[j]? = some (.blk g (.cells cur Tb (0,0)))) (hfit:o+n*k≤cur.size)
 (hk:∀ w' arr,arr.size=cur.size→arr.toList.take o=cur.toList.take o→Heap w0 w' (H.set j (.blk g (.cells arr Tb (0,0))))→wpList P ops Q rest (a.put dst (.tuple #[])) w') :
 wpList P ops Q (⟨dst,.call ⟨.builtin .clear,#[x],#[T]⟩,ty,pos,aft,none⟩::rest) a w:=by
 have hg:=hS.blk (List.mem_of_getElem? hj);obtain⟨m,rfl⟩:∃ m,n=m+1:=⟨n - 1,by omega⟩;have hzl:(Builtin.zeroCells z.cells (m+1)).toList.length=(m+1)*k:=by simp [Builtin.zeroCells,hzk]
 have hz1:∀ v ∈ (Builtin.zeroCells z.cells (m+1)).toList,v.oneCell'=true:=by
  intro v hv;simp only [Builtin.zeroCells,Array.toList_map,List.mem_map] at hv;obtain⟨i,_,rfl⟩:=hv;have hlt:i % z.cells.size<z.cells.size:=Nat.mod_lt _ (by omega);rw [getElem!_pos z.cells (i % z.cells.size) hlt];exact h1 _ (by simp)
 have hst:=run_storeCells_at (P:=P) g o Tb (Builtin.zeroCells z.cells (m+1)).toList 0 cur w hg (by simpa [hzl] using hfit) hz1;simp only [Nat.add_zero] at hst
 have hr:(Builtin.clear_ #[T] ty #[.slice (some ⟨g,o,none⟩) (m+1) c]).run P w=.ok (.tuple #[]) (w.setRow g (cur.toList.take o++(Builtin.zeroCells z.cells (m+1)).toList++cur.toList.drop (o+(Builtin.zeroCells z.cells (m+1)).toList.length)).toArray):=by
  simp [Builtin.clear_,run_underlying hu,hzv,hst]
 refine seq_heap (w':=w.setRow g (cur.toList.take o++(Builtin.zeroCells z.cells (m+1)).toList++cur.toList.drop (o+(Builtin.zeroCells z.cells (m+1)).toList.length)).toArray) (v:=.tuple #[]) rfl ?_ (hk _ (cur.toList.take o++(Builtin.zeroCells z.cells (m+1)).toList++cur.toList.drop (o+(Builtin.zeroCells z.cells (m+1)).toList.length)).toArray ?_ ?_ (hS.write (o':=.cells _ Tb (0,0)) j hj rfl rfl rfl (Nat.le_refl _) (by simp [World.setRow]) (setRow_heap w g cur _ _ _ hg) (fun k _ hkb=>by simp [World.setRow,Array.getElem?_modify,Ne.symm hkb])))
 ·generalize a.eval=ρ at hx
  simp [execOp,resolve,invoke,builtin,hx,hr,go_sem]
 ·simp only [List.size_toArray,List.length_append,List.length_take,List.length_drop,hzl,Array.length_toList];omega
 ·rw [List.append_assoc,List.take_append_of_le_length (by simp;omega),List.take_take,Nat.min_self]
variable {K:Act→Prop} {g:Option (Nat × Bool)}
theorem stp_loadk_to {b off k:Nat} {arr:Array Value} {fr:Nat × Nat} {cs:List Value} (j:Nat) (hag:∀ w,(isAgg T).run P w=.ok true w) (hz:∀ w,(sizeOf T).run P w=.ok k w) (hx:a.eval x=.pointer (some ⟨b,off,none⟩)) (hj:H[j]? = some (Chunk.blk b (.cells arr Tb fr))) (h0:off+k≤arr.size)
 (hc:(arr.toList.drop off).take k=cs) (hk:K (a.put dst (.agg cs.toArray))):Stp P w0 H ⟨dst,.load T x,ty,pos,aft,g⟩ a K:=by
 subst hc;exact stp_loadk_blk j hag hz hx hj h0 hk
theorem seq_store_flat {qs:List PR} {z:List Value} {p:PR} {b k:Nat} {y:Operand} (j:Nat) (hS:Heap w0 w H) (hx:a.eval x=.pointer (some ⟨b,k*8,none⟩)) (hy:a.eval y=.agg (pc p).toArray) (hj:H[j]? = some (.blk b (.cells (qs.flatMap pc++z).toArray Tb (0,0))))
 (hT:∀ w,(sizeOf T).run P w=.ok 8 w) (hi:k<qs.length)
 (hk:∀ w',Heap w0 w' (H.set j (.blk b (.cells ((qs.set k p).flatMap pc++z).toArray Tb (0,0))))→wpList P ops Q rest (a.put dst undef) w') :
 wpList P ops Q (⟨dst,.store T x y,ty,pos,aft,none⟩::rest) a w:=by
 have hl:=flat_len pc_len qs;refine seq_store (u:=.agg (pc p).toArray) j hS hx hy hj hT ?_ ?_ (fun w' hS'=>hk w' ?_)
 ·simp [Value.cells,pc,Value.oneCell']
 ·show k*8+8≤_
  rw [List.size_toArray,List.length_append];omega
 ·rw [← flat_put hi]
  exact hS'
end
end Go.Hp
