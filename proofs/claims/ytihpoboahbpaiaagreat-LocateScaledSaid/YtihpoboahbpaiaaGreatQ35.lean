/- Texts for the walk of the law: FL FG KR FF. -/
import Derived.Sort.OwnSortedInts
import Derived.Test.YtihpoboahbpaiaaGreatQ33
set_option maxRecDepth 100000
set_option maxHeartbeats 16000000
set_option linter.unusedVariables false
set_option linter.unusedSimpArgs false
namespace Go.Hp
open Go Go.RowKit
theorem FI.L1_nil (x:FI):x.L1 []=List.replicate x.N.length (-1):=by
 refine nth_ext 0 (by rw [x.L1_length,List.length_replicate]) (fun k hk=>?_);rw [x.L1_length] at hk;rw [x.nth_L1 _ hk,nth_eq _ _ _ (by rw [List.length_replicate];exact hk)];simp [FI.around]
theorem FI.L1_step (x:FI) (hp:IsPerm x.N) (d:List Nat) (v:Nat) (hr:nth 0 x.root v=v) (ho:x.out v<x.N.length):x.L1 (d++[v])=setAll (x.L1 d) (orb x.N (x.out v)) (-2):=by
 refine nth_ext 0 (by rw [setAll_length,x.L1_length,x.L1_length]) (fun k hk=>?_);rw [x.L1_length] at hk;rw [nth_setAll _ _ _ (fun q hq=>by rw [x.L1_length];exact orb_lt hp ho hq),x.nth_L1 _ hk,x.nth_L1 _ hk]
 have e:x.around (d++[v]) k=(x.around d k || (orb x.N (x.out v)).contains k):=by
  unfold FI.around;rw [List.any_append];simp [hr]
 rw [e]
 by_cases h:k ∈ orb x.N (x.out v)
 ·rw [if_pos h,if_pos (by simp [h])]
 ·rw [if_neg h]
  have:(orb x.N (x.out v)).contains k=false:=by simp [h]
  rw [this,Bool.or_false]
theorem FI.L1_skip (x:FI) (d:List Nat) (v:Nat) (hr:nth 0 x.root v≠v):x.L1 (d++[v])=x.L1 d:=by
 have e:∀ k,x.around (d++[v]) k=x.around d k:=fun k=>by
  unfold FI.around;rw [List.any_append];simp [hr]
 unfold FI.L1;simp only [e]
theorem FI.L1_mem (x:FI) {d d':List Nat} (h:∀ v,v ∈ d↔v ∈ d'):x.L1 d=x.L1 d':=by
 have e:∀ k,x.around d k=x.around d' k:=fun k=>by
  rw [Bool.eq_iff_iff];unfold FI.around;rw [List.any_eq_true,List.any_eq_true];exact⟨fun ⟨v,a,b⟩=>⟨v,(h v).1 a,b⟩,fun ⟨v,a,b⟩=>⟨v,(h v).2 a,b⟩⟩
 unfold FI.L1;simp only [e]
def FI.named (x:FI) (d:List Nat) (l:List (Int × Int)):Prop:=∀ v:Nat,getL l (v:Int)=if v ∈ d∧nth 0 x.root v=v then some (leastF x.N (x.out v):Int) else none
end Go.Hp
namespace Go.Hp
open Go Go.RowKit
theorem FI.named_nil (x:FI):x.named [] []:=fun v=>by simp [getL]
theorem FI.named_skip (x:FI) {d:List Nat} {l:List (Int × Int)} (h:x.named d l) (v:Nat) (hr:nth 0 x.root v≠v):x.named (d++[v]) l:=fun u=>by
 rw [h u]
 by_cases e:u=v
 ·subst e
  rw [if_neg (fun h=>hr h.2),if_neg (fun h=>hr h.2)]
 ·simp [e]
theorem FI.named_step (x:FI) {d:List Nat} {l:List (Int × Int)} (h:x.named d l) (v:Nat) (hr:nth 0 x.root v=v):x.named (d++[v]) (putL l (v:Int) (leastF x.N (x.out v):Int)):=fun u=>by
 rw [getL_putL,h u]
 by_cases e:(v:Int)=(u:Int)
 ·have e':v=u:=by omega
  subst e';rw [if_pos e,if_pos ⟨by simp,hr⟩]
 ·have e':u≠v:=fun h=>e (by rw [h])
  rw [if_neg e];simp [e']
end Go.Hp
namespace Go.Hp
open Go Go.RowKit
def srtN (l:List Nat):List Nat:=l.mergeSort fun x y=>decide (x≤y)
theorem srtN_perm (l:List Nat):(srtN l).Perm l:=List.mergeSort_perm _ _
theorem srtN_len (l:List Nat):(srtN l).length=l.length:=(srtN_perm l).length_eq
theorem nth_map_srtN (I:List (List Nat)) (i:Nat):nth [] (I.map srtN) i=srtN (nth [] I i):=by
 simp only [nth,List.getD_eq_getElem?_getD,List.getElem?_map];cases I[i]? with
 | none=>simp [srtN]
 | some l=>rfl
theorem count_map_srtN (y:Nat):∀ I:List (List Nat),(I.map srtN).flatten.count y=I.flatten.count y
 | []=>rfl
 | l::I=>by
  rw [List.map_cons,List.flatten_cons,List.flatten_cons,List.count_append,List.count_append,count_map_srtN y I,(srtN_perm l).count_eq]
structure FRec where
 N:List Nat
 L:List Int
 O:List Int
 I:List (List Nat)
 A:List (List Nat)
structure FGood (m n:Nat) (org:Nat→Nat) (hasE:Nat→Bool) (f:FRec):Prop where
 nlen:f.N.length=2*m
 perm:IsPerm f.N
 llen:f.L.length=2*m
 opos:0<f.O.length
 olen:f.O.length≤2*m+1
 ilen:f.I.length=f.O.length
 alen:f.A.length=f.O.length
 lr:∀ k,k<2*m→∃ i:Nat,i<f.O.length∧nth 0 f.L k=(i:Int)
 o0:nth 0 f.O 0 = -1
 on:∀ i,0<i→i<f.O.length→∃ q:Nat,nth 0 f.O i=(q:Int)∧q<2*m∧leastF f.N q=q∧nth 0 f.L q=(i:Int)∧∀ j,j<f.O.length→q ∉ nth [] f.I j
 im:∀ i,i<f.O.length→∀ y ∈ nth [] f.I i,y<2*m∧leastF f.N y=y∧nth 0 f.L y=(i:Int)
 icount:∀ y,f.I.flatten.count y≤1
 am:∀ i,i<f.O.length→∀ u ∈ nth [] f.A i,u<n
 acount:∀ u,u<n→f.A.flatten.count u=if hasE u=true then 0 else 1
 cyc:∀ k,k<2*m→nth 0 f.L (nth 0 f.N k)=nth 0 f.L k
 nxorg:∀ k,k<2*m→org (nth 0 f.N k)=org (tw k)
 named:∀ k,k<2*m→leastF f.N k=k→(∃ i,0<i∧i<f.O.length∧nth 0 f.O i=(k:Int))∨∃ i,i<f.O.length∧k ∈ nth [] f.I i
def FI.fr (x:FI):FRec:=⟨x.N,(x.ph3 x.n).L,x.O,(x.ph3 x.n).I.map srtN,(x.ph3 x.n).A⟩
theorem FI.Ok.good {x:FI} {org:Nat→Nat} (hx:x.Ok org):FGood x.m x.n org x.hasE x.fr:=by
 have p2:=hx.p2;have p3:=hx.ph3 x.n (Nat.le_refl _);have hN:=hx.len;have hrn:∀ k,k<x.N.length→nth 0 x.root (org k)<x.n:=fun k hk=>Nat.lt_of_le_of_lt (hx.root_le _ (hx.org_lt k hk)) (hx.org_lt k hk)
 unfold FI.fr;generalize x.ph3 x.n=s at p3;obtain⟨L,I,A⟩:=s
 have hleast:∀ k,k<x.N.length→nth 0 L (leastF x.N k)=nth 0 L k:=fun k hk=>by
  by_cases hw:x.W k
  ·obtain⟨i,a,b,c⟩:=p3.lowW k hk hw (hrn k hk)
   rw [b];exact (p3.im i a _ c).2.2.2.2
  ·obtain⟨i,i0,i1,e,e2⟩:=p2.low k hk hw (leastF_lt hx.perm hk)
   obtain⟨q,f1,f2,f3,f4,f5⟩:=p2.outs i i0 i1;obtain rfl:q=leastF x.N k:=by rw [e2] at f1;omega
   rw [p3.nw k hk hw,e];exact (p3.nw _ f2 f4).trans f5
 refine⟨hN,hx.perm,p3.len.trans hN,p2.pos,by have:=p2.many;simp only;omega,by simp only [List.length_map];exact p3.ilen,p3.alen,fun k hk=>?_,p2.zero,fun i i0 i1=>?_,fun i hi y hy=>?_,fun y=>?_,fun i hi u hu=>?_,fun u hu=>?_,fun k hk=>?_,fun k hk=>hx.next_org k (by omega),fun k hk hl=>?_⟩
 ·have hk':k<x.N.length:=by omega
  by_cases hw:x.W k
  ·obtain⟨i,a,b,_⟩:=p3.lowW k hk' hw (hrn k hk')
   exact⟨i,a,b⟩
  ·obtain⟨i,_,i1,e,_⟩:=p2.low k hk' hw (leastF_lt hx.perm hk')
   exact⟨i,i1,(p3.nw k hk' hw).trans e⟩
 ·obtain⟨q,f1,f2,f3,f4,f5⟩:=p2.outs i i0 i1
  refine⟨q,f1,by omega,f3,(p3.nw q f2 f4).trans f5,fun j hj hm=>?_⟩;rw [nth_map_srtN,(srtN_perm _).mem_iff] at hm;exact f4 (p3.im j hj q hm).2.2.1
 ·rw [nth_map_srtN,(srtN_perm _).mem_iff] at hy
  obtain⟨a,b,_,_,e⟩:=p3.im i hi y hy;exact⟨by omega,b,e⟩
 ·show (I.map srtN).flatten.count y≤1
  rw [count_map_srtN];exact p3.icount y
 ·exact p3.am i hi u hu
 ·show A.flatten.count u=_
  have:=p3.acount u;simp only at this;rw [this]
  by_cases he:x.hasE u=true
  ·rw [if_pos he,if_neg (fun h=>by rw [he] at h;exact absurd h.2.2 (by simp))]
  ·have he2:x.hasE u=false:=by simpa using he
   rw [if_neg he,if_pos ⟨hu,hx.alone u hu he2,he2⟩]
 ·have hk':k<x.N.length:=by omega
  show nth 0 L (nth 0 x.N k)=nth 0 L k;rw [← hleast k hk',← hleast _ (hx.perm.lt k hk'),leastF_next hx.perm hk']
 ·have hk':k<x.N.length:=by omega
  have hl':leastF x.N k=k:=hl
  by_cases hw:x.W k
  ·obtain⟨i,a,_,c⟩:=p3.lowW k hk' hw (hrn k hk')
   refine .inr ⟨i,a,?_⟩;rw [nth_map_srtN,(srtN_perm _).mem_iff];rw [hl'] at c;exact c
  ·obtain⟨i,i0,i1,_,e2⟩:=p2.low k hk' hw (leastF_lt hx.perm hk')
   rw [hl'] at e2;exact .inl ⟨i,i0,i1,e2⟩
theorem len_le_of_count:∀ (n:Nat) (l:List Nat),(∀ x ∈ l,x<n)→(∀ x,l.count x≤1)→l.length≤n
 | 0,l,h,_=>by
  cases l with
  | nil=>simp
  | cons a t=>exact absurd (h a (by simp)) (by omega)
 | n+1,l,h,hc=>by
  have e:=List.length_eq_countP_add_countP (fun x=>x == n) (l:=l);have h1:l.countP (fun x=>x == n)≤1:=hc n
  have h2:=len_le_of_count n (l.filter fun x=>!(x == n)) (fun x hx=>by
   rw [List.mem_filter] at hx;have h3:=h x hx.1;have h4:x≠n:=by simpa using hx.2
   omega) (fun x=>Nat.le_trans ((List.filter_sublist).count_le x) (hc x))
  rw [← List.countP_eq_length_filter] at h2
  have h5:l.countP (fun a=>decide ¬(a == n)=true)=l.countP (fun x=>!(x == n)):=by
   congr 1;funext a;by_cases h6:a=n <;> simp [h6]
  omega
theorem row_mem {I:List (List Nat)} {i:Nat} (hi:i<I.length):nth [] I i ∈ I:=nth_mem [] I i hi
theorem FGood.ilen_le {m n:Nat} {org:Nat→Nat} {hasE:Nat→Bool} {f:FRec} (h:FGood m n org hasE f) {i:Nat} (hi:i<f.O.length):(nth [] f.I i).length≤2*m :=
 len_le_of_count _ _ (fun x hx=>(h.im i hi x hx).1) (fun x=>Nat.le_trans ((List.sublist_flatten_of_mem (row_mem (by rw [h.ilen];exact hi))).count_le x) (h.icount x))
theorem FGood.alen_le {m n:Nat} {org:Nat→Nat} {hasE:Nat→Bool} {f:FRec} (h:FGood m n org hasE f) {i:Nat} (hi:i<f.O.length):(nth [] f.A i).length≤n :=
 len_le_of_count _ _ (fun x hx=>h.am i hi x hx) (fun x=>by
  by_cases hx:x<n
  ·refine Nat.le_trans ((List.sublist_flatten_of_mem (row_mem (by rw [h.alen];exact hi))).count_le x) ?_
   rw [h.acount x hx];split <;> omega
  ·rw [List.count_eq_zero.2 (fun hm=>hx (h.am i hi x hm))];omega)
end Go.Hp
namespace Go.Proofs
open Go.RowKit Go.Shelf Go.Hp
def srt (xs:List Int):List Int:=xs.mergeSort fun x y=>decide (x≤y)
theorem sort_row {w0 w:World} {H:List Chunk} {ad:Option Addr} {n cap:Nat} {T:TypeId} {xs:List Int} (j:Nat) (hS:Heap w0 w H) (hj:H[j]? = some (.row (.slice ad n cap) T 1 n (iv xs))) (hl:n≤1000000) :
 Calls Tryz.prog 86 #[.slice ad n cap] w fun e w'=>e=.returned (.tuple #[])∧Heap w0 w' (H.set j (.row (.slice ad n cap) T 1 n (iv (srt xs)))):=by
 have hown:=hS.ok _ (List.mem_of_getElem? hj);obtain⟨hlen,hor⟩:=hown;rw [iv_length] at hlen;have hlen':xs.length=n:=by omega
 subst hlen';have hperm:(srt xs).length=xs.length:=(List.mergeSort_perm _ _).length_eq
 rcases hor with ⟨hv,hn⟩|⟨g,cap',cur,hv,hb,hg,hnc,hcm,hcs,htake⟩
 ·simp only [Value.slice.injEq] at hv
  obtain⟨rfl,hx,rfl⟩:=hv;have hxs:xs=[]:=List.eq_nil_of_length_eq_zero hx;subst hxs;refine (Tryz.slices_Sort_int_none none 0 w).mono fun e w' ⟨he,hw⟩=>⟨he,?_⟩
  subst hw
  have:H.set j (.row (.slice none 0 0) T 1 0 (iv (srt [])))=H:=by
   apply List.ext_getElem?;intro i;rw [List.getElem?_set]
   split
   ·rename_i h;subst h
    obtain⟨hlt,hq⟩:=List.getElem?_eq_some_iff.1 hj;rw [if_pos hlt,List.getElem?_eq_getElem hlt,hq,show srt []=[] by simp [srt]]
    rfl
   ·rfl
  simp only [List.length_nil];rw [this];exact hS
 ·simp only [Value.slice.injEq] at hv
  obtain⟨rfl,-,rfl⟩:=hv;have htake':cur.toList.take xs.length=xs.map (Value.int .i64):=by simpa [iv] using htake
  refine (Tryz.slices_Sort_int g 0 cap xs w (holds_of_blockI hg htake') (Array.getElem?_eq_some_iff.1 hg).1 (by omega)).mono fun e w' ⟨he,m,os,hw⟩=>⟨he,?_⟩
  subst hw;have hgr:=grownBy_sortedI (w:=w) (g:=g) (n:=m) (os:=os) (xs.mergeSort fun x y=>decide (x≤y)).toArray;refine hS.turn j hj hgr.os hgr.tape hgr.output (by first|exact Nat.le_add_right _ _|simp [Go.Sort.grow,Go.Sort.putRow,Go.Sort.ahead]) hgr.size ?_ (fun k hk=>.inl hk) (fun k hk hnk=>hgr.block k hk (fun e=>hnk (by simp only [Chunk.has,Value.ownBlock];exact e.symm)));have hc2:(srt xs).length≤cur.size:=by rw [hperm,hcs];omega
  refine⟨by rw [iv_length,hperm,Nat.mul_one],.inr ⟨g,cap,_,rfl,Nat.zero_le _,heap_sortedI _ hg,hnc,hcm,?_,?_⟩⟩
  ·simp [Go.Sort.putCells,hcs]
  ·rw [Nat.mul_one,← hperm]
   exact take_putCellsI cur (srt xs) hc2
theorem srt_sorted (xs:List Int):(srt xs).Pairwise (· ≤ ·):=by
 have ht:∀ (a b c:Int),decide (a≤b)=true→decide (b≤c)=true→decide (a≤c)=true:=by intro a b c;simp;omega
 have hT:∀ (a b:Int),(decide (a≤b) || decide (b≤a))=true:=by intro a b;simp;omega
 exact (List.pairwise_mergeSort ht hT xs).imp (fun h=>by simpa using h)
theorem srt_len (xs:List Int):(srt xs).length=xs.length:=(List.mergeSort_perm _ _).length_eq
end Go.Proofs
namespace Go.Hp
open Go Go.RowKit
def belO (V:List Pt) (es:List Ed) (v:Nat):Option Nat:=if belTo V es v es.length<0 then none else some (belTo V es v es.length).toNat
def faceIn (V:List Pt) (es:List Ed) (RL:List (List Nat)) (out:Nat→Nat):FI:=⟨nxTo es.length RL V.length,es.length,V.length,comps (endsL es) V.length,out,fun v=>decide (nth [] RL v≠[]),belO V es⟩
theorem belTo_skip {V:List Pt} {es:List Ed} {v:Nat}:∀ {k:Nat},0≤belTo V es v k→skipV V es v (belTo V es v k).toNat=false∧(belTo V es v k).toNat<k
 | 0,h=>by unfold belTo at h;omega
 | k+1,h=>by
  have ih:=@belTo_skip V es v k;have hnx:belTo V es v (k+1)=if skipV V es v k then belTo V es v k else if belTo V es v k<0 then (k:Int) else if higherV V es k (belTo V es v k).toNat then (k:Int) else belTo V es v k:=rfl
  rw [hnx] at h ⊢
  by_cases hs:skipV V es v k=true
  ·rw [if_pos hs] at h ⊢
   exact⟨(ih h).1,Nat.lt_succ_of_lt (ih h).2⟩
  ·rw [if_neg hs] at h ⊢
   have hs2:skipV V es v k=false:=by simpa using hs
   by_cases hb:belTo V es v k<0
   ·rw [if_pos hb];exact⟨by simpa using hs2,by simp⟩
   ·rw [if_neg hb] at h ⊢
    by_cases hh:higherV V es k (belTo V es v k).toNat=true
    ·rw [if_pos hh];exact⟨by simpa using hs2,by simp⟩
    ·rw [if_neg hh] at h ⊢
     exact⟨(ih h).1,Nat.lt_succ_of_lt (ih h).2⟩
theorem sorted_lt {V:List Pt} (hV:V.Pairwise Pt.lt) {a b:Nat} (ha:a<V.length) (hb:b<V.length) (h:(nth pt0 V a).lt (nth pt0 V b)):a<b:=by
 rcases Nat.lt_trichotomy a b with h1|h1|h1
 ·exact h1
 ·subst h1;exact absurd h (Pt.lt_irrefl _)
 ·have:=List.pairwise_iff_getElem.1 hV b a hb ha h1
  rw [← nth_eq pt0 V b hb,← nth_eq pt0 V a ha] at this;exact absurd h (Pt.lt_asymm this)
theorem below_lex {a b p:Pt} (h1:a.x≤p.x) (h2:¬ b.x≤p.x) (h3:¬ cmpQ (area a b p) 0≤0):a.lt p:=by
 have h4:¬ area a b p≤0:=fun h=>h3 (cmpQ_le.2 h)
 unfold Pt.lt
 by_cases e:a.x<p.x
 ·exact .inl e
 ·have e2:a.x=p.x:=by grind
  refine .inr ⟨e2,?_⟩;have hbx:0<b.x - a.x:=by grind
  have hA:area a b p=(b.x - a.x)*(p.y - a.y):=by unfold area;rw [e2];grind
  have hpos:0<(b.x - a.x)*(p.y - a.y):=by rw [← hA];grind
  have:=rpos_of hbx hpos
  grind
theorem belO_ok {V:List Pt} {es:List Ed} (hV:V.Pairwise Pt.lt) (hab:∀ e ∈ es,e.a<V.length∧e.b<V.length) {v e:Nat} (hv:v<V.length) (h:belO V es v=some e):e<es.length∧orgE es (2*e)<v:=by
 unfold belO at h
 split at h
 ·cases h
 ·rename_i hb
  obtain⟨h1,h2⟩:=@belTo_skip V es v es.length (by omega);have h3:=Option.some.inj h;rw [h3] at h1 h2;refine⟨h2,?_⟩;have ha:=(hab _ (nth_mem ed0 es e h2)).1
  have hae:orgE es (2*e)=(nth ed0 es e).a:=by
   unfold orgE;have e1:2*e / 2=e:=by omega
   have e2:2*e % 2=0:=by omega
   rw [if_pos e2,e1]
  rw [hae];unfold skipV xleV sdV at h1;simp only [Bool.or_eq_false_iff,decide_eq_false_iff_not,Bool.not_eq_false',decide_eq_true_eq] at h1;exact sorted_lt hV ha hv (below_lex h1.1.1.2 h1.1.2 h1.2)
theorem isEnd_half {es:List Ed} {u:Nat} (h:isEnd (endsL es) u):∃ k,k<2*es.length∧orgE es k=u:=by
 obtain⟨p,hp,hu⟩:=h;obtain⟨i,hi,rfl⟩:=List.getElem_of_mem hp;have hi2:i<es.length:=by simpa [endsL] using hi
 have e1:(endsL es)[i]=((nth ed0 es i).a,(nth ed0 es i).b):=by rw [← nth_ends hi2,nth_eq _ _ _ hi]
 rw [e1] at hu
 rcases hu with hu|hu
 ·refine⟨2*i,by omega,?_⟩
  unfold orgE;have e1:2*i / 2=i:=by omega
  have e2:2*i % 2=0:=by omega
  rw [if_pos e2,e1];exact hu
 ·refine⟨2*i+1,by omega,?_⟩
  unfold orgE;have e1:(2*i+1) / 2=i:=by omega
  have e2:¬ (2*i+1) % 2=0:=by omega
  rw [if_neg e2,e1];exact hu
theorem comp_edge {es:List Ed} {h:Nat} (hh:h<2*es.length):comp (endsL es) es.length (orgE es h)=comp (endsL es) es.length (orgE es (tw h)):=by
 have hl:(endsL es).length=es.length:=by simp [endsL]
 have hc:=(compOk (endsL es) es.length (by omega)).edge (h / 2) (by omega);rw [nth_ends (show h / 2<es.length by omega)] at hc;simp only at hc;unfold orgE;rw [tw_div,tw_mod];have:h % 2=0∨h % 2=1:=by omega
 rcases this with e|e
 ·rw [e,if_pos rfl,if_neg (by decide)];exact hc
 ·rw [e,if_neg (by decide),if_pos rfl];exact hc.symm
theorem faceIn_ok {V:List Pt} {es:List Ed} {RL:List (List Nat)} {out:Nat→Nat} (hV:V.Pairwise Pt.lt) (hab:∀ e ∈ es,e.a<V.length∧e.b<V.length) (hR:RLok es V.length RL) (hout:∀ v,v<V.length→nth [] RL v≠[]→out v ∈ nth [] RL v):(faceIn V es RL out).Ok (orgE es):=by
 obtain⟨h1,h2⟩:=next_perm hR hab;have hl:(endsL es).length=es.length:=by simp [endsL]
 have hco:=compOk (endsL es) es.length (by omega);have hcl:∀ v,v<V.length→nth 0 (comps (endsL es) V.length) v=comp (endsL es) es.length v:=fun v hv=>by rw [nth_comps hv,hl]
 have hcv:∀ v,v<V.length→comp (endsL es) es.length v<V.length:=fun v hv=>Nat.lt_of_le_of_lt (hco.le v) hv
 have hhas:∀ k,k<2*es.length→nth [] RL (orgE es k)≠[]:=fun k hk e=>by
  have:=(hR.mem _ k (orgE_lt hab hk)).2 ⟨hk,rfl⟩;rw [e] at this;cases this
 refine⟨h1,nxTo_length _ _ _,fun h hh=>?_,fun h hh=>?_,fun v hv=>?_,fun v hv=>?_,fun h hh=>?_,fun v hv he=>?_,fun v hv he=>?_,fun h hh=>?_,fun v hv he=>?_,fun v hv he=>?_,fun v e hv hb=>belO_ok hV hab hv hb⟩
 ·exact orgE_lt hab (by simpa [faceIn,nxTo_length] using hh)
 ·exact h2 h (by simpa [faceIn,nxTo_length] using hh)
 ·show nth 0 (comps (endsL es) V.length) v≤v
  rw [hcl v hv];exact hco.le v
 ·show nth 0 (comps (endsL es) V.length) (nth 0 (comps (endsL es) V.length) v)=nth 0 (comps (endsL es) V.length) v
  rw [hcl v hv,hcl _ (hcv v hv)];exact hco.idem v
 ·have hh2:h<2*es.length:=by simpa [faceIn,nxTo_length] using hh
  show nth 0 (comps (endsL es) V.length) (orgE es h)=nth 0 (comps (endsL es) V.length) (orgE es (tw h));rw [hcl _ (orgE_lt hab hh2),hcl _ (orgE_lt hab (tw_lt hh2))];exact comp_edge hh2
 ·have:=((hR.mem v _ hv).1 (hout v hv (by simpa [faceIn] using he))).1
  simpa [faceIn,nxTo_length] using this
 ·exact ((hR.mem v _ hv).1 (hout v hv (by simpa [faceIn] using he))).2
 ·have hh2:h<2*es.length:=by simpa [faceIn,nxTo_length] using hh
  simpa [faceIn] using hhas h hh2
 ·have hv':v<V.length:=hv
  show decide (nth [] RL (nth 0 (comps (endsL es) V.length) v)≠[])=true;rw [hcl v hv']
  rcases hco.ends v with h|⟨_,h⟩
  ·rw [h];exact he
  ·obtain⟨k,hk,hk2⟩:=isEnd_half h
   rw [← hk2];simpa using hhas k hk
 ·have hv':v<V.length:=hv
  show nth 0 (comps (endsL es) V.length) v=v;rw [hcl v hv']
  rcases hco.ends v with h|⟨h,_⟩
  ·exact h
  ·obtain⟨k,hk,hk2⟩:=isEnd_half h
   exfalso
   have:=hhas k hk;rw [hk2] at this;have he2:decide (nth [] RL v≠[])=false:=he;simp [this] at he2
end Go.Hp
