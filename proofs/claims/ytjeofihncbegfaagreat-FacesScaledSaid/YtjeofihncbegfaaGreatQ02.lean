/- Texts for the walk of the law: FA FB FL FG. -/
import Derived.Test.YtjeofihncbegfaaGreatQ01
set_option maxRecDepth 100000
set_option maxHeartbeats 16000000
set_option linter.unusedVariables false
set_option linter.unusedSimpArgs false
namespace Go.Hp
open Go Go.RowKit
def tw (h:Nat):Nat:=if h % 2=0 then h+1 else h - 1
theorem tw_tw (h:Nat):tw (tw h)=h:=by unfold tw;split <;> split <;> omega
theorem tw_lt {h m:Nat} (hh:h<2*m):tw h<2*m:=by unfold tw;split <;> omega
theorem tw_div (h:Nat):tw h / 2=h / 2:=by unfold tw;split <;> omega
theorem tw_mod (h:Nat):tw h % 2=1 - h % 2:=by unfold tw;split <;> omega
theorem tw_inj {h k:Nat} (e:tw h=tw k):h=k:=by rw [← tw_tw h,e,tw_tw]
def it (N:List Nat):Nat→Nat→Nat
 | 0,h=>h
 | j+1,h=>nth 0 N (it N j h)
structure IsPerm (N:List Nat):Prop where
 lt:∀ h,h<N.length→nth 0 N h<N.length
 inj:∀ h k,h<N.length→k<N.length→nth 0 N h=nth 0 N k→h=k
theorem it_lt {N:List Nat} (hp:IsPerm N) {h:Nat} (hh:h<N.length):∀ j,it N j h<N.length
 | 0=>hh
 | j+1=>hp.lt _ (it_lt hp hh j)
theorem it_add (N:List Nat) (i h:Nat):∀ j,it N (i+j) h=it N j (it N i h)
 | 0=>rfl
 | j+1=>by show nth 0 N (it N (i+j) h)=nth 0 N (it N j (it N i h));rw [it_add N i h j]
theorem it_inj {N:List Nat} (hp:IsPerm N) {h k:Nat} (hh:h<N.length) (hk:k<N.length):∀ j,it N j h=it N j k→h=k
 | 0,e=>e
 | j+1,e=>it_inj hp hh hk j (hp.inj _ _ (it_lt hp hh j) (it_lt hp hk j) e)
theorem pigeon:∀ (n:Nat) (f:Nat→Nat),(∀ i,i≤n→f i<n)→∃ i j,i<j∧j≤n∧f i=f j
 | 0,f,h=>absurd (h 0 (Nat.le_refl _)) (by omega)
 | n+1,f,h=>by
  by_cases hx:∃ i,i≤n∧f i=f (n+1)
  ·obtain⟨i,hi,e⟩:=hx
   exact⟨i,n+1,by omega,Nat.le_refl _,e⟩
  ·obtain⟨i,j,hij,hj,e⟩:=pigeon n (fun i=>if f i=n then f (n+1) else f i) (fun i hi=>by
    have h1:=h i (by omega);have h2:=h (n+1) (Nat.le_refl _);have h3:f i≠f (n+1):=fun e=>hx ⟨i,hi,e⟩
    show (if f i=n then f (n+1) else f i)<n
    split <;> omega)
   refine⟨i,j,hij,by omega,?_⟩;have hi':f i≠f (n+1):=fun e=>hx ⟨i,by omega,e⟩
   have hj':f j≠f (n+1):=fun e=>hx ⟨j,hj,e⟩
   try dsimp only at e
   split at e <;> split at e <;> omega
theorem period_ex {N:List Nat} (hp:IsPerm N) {h:Nat} (hh:h<N.length):∃ p,p<N.length∧it N (p+1) h=h:=by
 obtain⟨i,j,hij,hj,e⟩:=pigeon N.length (fun j=>it N j h) (fun i _=>it_lt hp hh i);refine⟨j - i - 1,by omega,?_⟩;have e1:j=(j - i - 1+1)+i:=by omega
 try dsimp only at e
 rw [e1,it_add] at e;have e2:it N i h=it N i (it N (j - i - 1+1) h):=e;exact (it_inj hp hh (it_lt hp hh _) i e2).symm
def per (N:List Nat) (h:Nat):Nat:=((List.range N.length).find? (fun j=>it N (j+1) h == h)).getD 0+1
theorem per_spec {N:List Nat} (hp:IsPerm N) {h:Nat} (hh:h<N.length):0<per N h∧per N h≤N.length∧it N (per N h) h=h∧∀ j,0<j→j<per N h→it N j h≠h:=by
 obtain⟨p,hpl,hpe⟩:=period_ex hp hh;unfold per;cases hf:(List.range N.length).find? (fun j=>it N (j+1) h == h) with
 | none =>
  have:=List.find?_eq_none.1 hf p (by simpa using hpl);simp [hpe] at this
 | some q =>
  have h1:=List.find?_some hf;have h2:=List.mem_of_find?_eq_some hf;simp only [beq_iff_eq] at h1;rw [List.mem_range] at h2;refine⟨by simp,by simp;omega,by simpa using h1,fun j hj0 hj=>?_⟩;simp only [Option.getD_some] at hj;have h3:=List.find?_range_eq_some.1 hf;have h4:=h3.2.2 (j - 1) (by omega);have e:j - 1+1=j:=by omega
  rw [e] at h4
  simpa using h4
theorem it_mod {N:List Nat} {h p:Nat} (hp0:0<p) (hpe:it N p h=h):∀ j,it N j h=it N (j % p) h:=by
 intro j
 induction j using Nat.strongRecOn with
 | _ j ih =>
  by_cases hj:j<p
  ·rw [Nat.mod_eq_of_lt hj]
  ·have e1:j=p+(j - p):=by omega
   have e2:j % p=(j - p) % p:=by
    conv=>lhs;rw [e1]
    rw [Nat.add_mod_left]
   rw [e2,← ih (j - p) (by omega)]
   conv=>lhs;rw [e1,it_add,hpe]
def orb (N:List Nat) (h:Nat):List Nat:=(List.range (per N h)).map (fun j=>it N j h)
theorem mem_orb {N:List Nat} (hp:IsPerm N) {h:Nat} (hh:h<N.length) (k:Nat):k ∈ orb N h↔∃ j,it N j h=k:=by
 obtain⟨h1,h2,h3,h4⟩:=per_spec hp hh;unfold orb;rw [List.mem_map]
 constructor
 ·rintro⟨j,_,e⟩;exact⟨j,e⟩
 ·rintro⟨j,e⟩
  exact⟨j % per N h,by rw [List.mem_range];exact Nat.mod_lt _ h1,by rw [← it_mod h1 h3];exact e⟩
theorem orb_self {N:List Nat} (hp:IsPerm N) {h:Nat} (hh:h<N.length):h ∈ orb N h:=(mem_orb hp hh h).2 ⟨0,rfl⟩
theorem orb_lt {N:List Nat} (hp:IsPerm N) {h:Nat} (hh:h<N.length) {k:Nat} (hk:k ∈ orb N h):k<N.length:=by
 obtain⟨j,rfl⟩:=(mem_orb hp hh k).1 hk;exact it_lt hp hh j
theorem orb_trans {N:List Nat} (hp:IsPerm N) {h k l:Nat} (hh:h<N.length) (h1:k ∈ orb N h) (h2:l ∈ orb N k):l ∈ orb N h:=by
 have hk:=orb_lt hp hh h1;obtain⟨i,rfl⟩:=(mem_orb hp hh _).1 h1;obtain⟨j,rfl⟩:=(mem_orb hp hk _).1 h2;exact (mem_orb hp hh _).2 ⟨i+j,it_add N i h j⟩
theorem orb_symm {N:List Nat} (hp:IsPerm N) {h k:Nat} (hh:h<N.length) (h1:k ∈ orb N h):h ∈ orb N k:=by
 have hk:=orb_lt hp hh h1;obtain⟨p0,p1,p2,p3⟩:=per_spec hp hh;unfold orb at h1;obtain⟨j,hj,e⟩:=List.mem_map.1 h1;rw [List.mem_range] at hj;refine (mem_orb hp hk _).2 ⟨per N h - j,?_⟩;rw [← e,← it_add];have:j+(per N h - j)=per N h:=by omega
 rw [this,p2]
theorem orb_next {N:List Nat} (hp:IsPerm N) {h k:Nat} (hh:h<N.length) (h1:k ∈ orb N h):nth 0 N k ∈ orb N h:=by
 obtain⟨j,rfl⟩:=(mem_orb hp hh _).1 h1;exact (mem_orb hp hh _).2 ⟨j+1,rfl⟩
theorem orb_iff {N:List Nat} (hp:IsPerm N) {h k:Nat} (hh:h<N.length) (h1:k ∈ orb N h) (l:Nat):l ∈ orb N k↔l ∈ orb N h :=
 ⟨orb_trans hp hh h1,fun h2=>orb_trans hp (orb_lt hp hh h1) (orb_symm hp hh h1) h2⟩
theorem foldl_min_le (l:List Nat):∀ d,l.foldl min d≤d∧∀ x ∈ l,l.foldl min d≤x:=by
 induction l with
 | nil=>intro d;simp
 | cons y t ih =>
  intro d;obtain⟨h1,h2⟩:=ih (min d y);simp only [List.foldl_cons];refine⟨by omega,fun x hx=>?_⟩
  rcases List.mem_cons.1 hx with rfl|hx
  ·omega
  ·exact h2 x hx
theorem foldl_min_mem (l:List Nat):∀ d,l.foldl min d=d∨l.foldl min d ∈ l:=by
 induction l with
 | nil=>intro d;simp
 | cons y t ih =>
  intro d;simp only [List.foldl_cons]
  rcases ih (min d y) with h|h
  ·rw [h]
   rcases Nat.le_total d y with h2|h2
   ·rw [Nat.min_eq_left h2];exact .inl rfl
   ·rw [Nat.min_eq_right h2];exact .inr (by simp)
  ·exact .inr (List.mem_cons_of_mem _ h)
def leastF (N:List Nat) (h:Nat):Nat:=(orb N h).foldl min h
theorem leastF_spec {N:List Nat} (hp:IsPerm N) {h:Nat} (hh:h<N.length):leastF N h ∈ orb N h∧∀ k ∈ orb N h,leastF N h≤k:=by
 unfold leastF;refine⟨?_,(foldl_min_le (orb N h) h).2⟩
 rcases foldl_min_mem (orb N h) h with e|e
 ·rw [e];exact orb_self hp hh
 ·exact e
theorem leastF_le {N:List Nat} (hp:IsPerm N) {h:Nat} (hh:h<N.length):leastF N h≤h:=(leastF_spec hp hh).2 h (orb_self hp hh)
theorem leastF_lt {N:List Nat} (hp:IsPerm N) {h:Nat} (hh:h<N.length):leastF N h<N.length:=Nat.lt_of_le_of_lt (leastF_le hp hh) hh
theorem leastF_of {N:List Nat} (hp:IsPerm N) {h k:Nat} (hh:h<N.length) (h1:k ∈ orb N h):leastF N k=leastF N h:=by
 have hk:=orb_lt hp hh h1;obtain⟨a1,a2⟩:=leastF_spec hp hh;obtain⟨b1,b2⟩:=leastF_spec hp hk;have c1:=a2 _ ((orb_iff hp hh h1 _).1 b1);have c2:=b2 _ ((orb_iff hp hh h1 _).2 a1);omega
theorem orb_least {N:List Nat} (hp:IsPerm N) {h:Nat} (hh:h<N.length) (k:Nat):k ∈ orb N (leastF N h)↔k ∈ orb N h:=orb_iff hp hh (leastF_spec hp hh).1 k
theorem least_least {N:List Nat} (hp:IsPerm N) {h:Nat} (hh:h<N.length):leastF N (leastF N h)=leastF N h:=leastF_of hp hh (leastF_spec hp hh).1
theorem orb_of_least {N:List Nat} (hp:IsPerm N) {h k:Nat} (hh:h<N.length) (hk:k<N.length) (e:leastF N h=leastF N k):k ∈ orb N h:=by
 rw [← orb_least hp hh,e,orb_least hp hk];exact orb_self hp hk
theorem leastF_next {N:List Nat} (hp:IsPerm N) {h:Nat} (hh:h<N.length):leastF N (nth 0 N h)=leastF N h:=leastF_of hp hh (orb_next hp hh (orb_self hp hh))
def setAll (L:List Int) (ks:List Nat) (f:Int):List Int:=ks.foldl (fun L k=>L.set k f) L
theorem setAll_length (f:Int):∀ (ks:List Nat) (L:List Int),(setAll L ks f).length=L.length
 | [],L=>rfl
 | k::t,L=>by show (setAll (L.set k f) t f).length=_;rw [setAll_length f t,List.length_set]
theorem nth_setG {α:Type} (d:α) (L:List α) (i k:Nat) (f:α) (hi:i<L.length):nth d (L.set i f) k=if k=i then f else nth d L k:=by
 simp only [nth,List.getD_eq_getElem?_getD,List.getElem?_set]
 by_cases h:k=i
 ·subst h;simp [hi]
 ·rw [if_neg (fun e=>h e.symm),if_neg h]
theorem nth_setAll (f:Int):∀ (ks:List Nat) (L:List Int),(∀ k ∈ ks,k<L.length)→∀ k,nth 0 (setAll L ks f) k=if k ∈ ks then f else nth 0 L k
 | [],L,_,k=>by simp [setAll]
 | a::t,L,h,k=>by
  show nth 0 (setAll (L.set a f) t f) k=_;rw [nth_setAll f t _ (fun k hk=>by rw [List.length_set];exact h k (List.mem_cons_of_mem _ hk)),nth_setG _ _ _ _ _ (h a (by simp))]
  by_cases h1:k ∈ t
  ·rw [if_pos h1,if_pos (List.mem_cons_of_mem _ h1)]
  ·rw [if_neg h1]
   by_cases h2:k=a
   ·rw [if_pos h2,if_pos (by rw [h2];simp)]
   ·rw [if_neg h2,if_neg (by simp [h1,h2])]
end Go.Hp
namespace Go.Hp
open Go Go.RowKit
structure FI where
 N:List Nat
 m:Nat
 n:Nat
 root:List Nat
 out:Nat→Nat
 hasE:Nat→Bool
 bel:Nat→Option Nat
def FI.around (x:FI) (d:List Nat) (k:Nat):Bool:=d.any fun v=>nth 0 x.root v == v && (orb x.N (x.out v)).contains k
def FI.L1 (x:FI) (d:List Nat):List Int:=(List.range x.N.length).map fun k=>if x.around d k then -2 else -1
def FI.keys (x:FI):List Nat:=(List.range x.n).filter x.hasE
def FI.ph2 (x:FI):Nat→List Int × List Int
 | 0=>(x.L1 x.keys,[-1])
 | h+1=>if nth 0 (x.ph2 h).1 h = -1 then (setAll (x.ph2 h).1 (orb x.N h) (x.ph2 h).2.length,(x.ph2 h).2++[(leastF x.N h:Int)]) else x.ph2 h
def FI.L2 (x:FI):List Int:=(x.ph2 x.N.length).1
def FI.O (x:FI):List Int:=(x.ph2 x.N.length).2
def FI.face (x:FI) (L:List Int) (v:Nat):Int:=match x.bel v with|none=>0|some e=>nth 0 L (2*e)
def addAt (I:List (List Nat)) (i y:Nat):List (List Nat):=I.set i (nth [] I i++[y])
structure F3 where
 L:List Int
 I:List (List Nat)
 A:List (List Nat)
def FI.step3 (x:FI) (s:F3) (v:Nat):F3 :=
 if nth 0 x.root v=v then
  if x.hasE v=true then ⟨setAll s.L (orb x.N (x.out v)) (x.face s.L v),addAt s.I (x.face s.L v).toNat (leastF x.N (x.out v)),s.A⟩
  else ⟨s.L,s.I,addAt s.A (x.face s.L v).toNat v⟩
 else s
def FI.ph3 (x:FI):Nat→F3
 | 0=>⟨x.L2,List.replicate x.O.length [],List.replicate x.O.length []⟩
 | v+1=>x.step3 (x.ph3 v) v
structure FI.Ok (x:FI) (org:Nat→Nat):Prop where
 perm:IsPerm x.N
 len:x.N.length=2*x.m
 org_lt:∀ h,h<x.N.length→org h<x.n
 next_org:∀ h,h<x.N.length→org (nth 0 x.N h)=org (tw h)
 root_le:∀ v,v<x.n→nth 0 x.root v≤v
 root_idem:∀ v,v<x.n→nth 0 x.root (nth 0 x.root v)=nth 0 x.root v
 root_edge:∀ h,h<x.N.length→nth 0 x.root (org h)=nth 0 x.root (org (tw h))
 out_lt:∀ v,v<x.n→x.hasE v=true→x.out v<x.N.length
 out_org:∀ v,v<x.n→x.hasE v=true→org (x.out v)=v
 hasE_of:∀ h,h<x.N.length→x.hasE (org h)=true
 root_has:∀ v,v<x.n→x.hasE v=true→x.hasE (nth 0 x.root v)=true
 alone:∀ v,v<x.n→x.hasE v=false→nth 0 x.root v=v
 bel_ok:∀ v e,v<x.n→x.bel v=some e→e<x.m∧org (2*e)<v
def FI.W (x:FI) (k:Nat):Prop:=x.around x.keys k=true
instance (x:FI) (k:Nat):Decidable (x.W k):=by unfold FI.W;infer_instance
section
variable {x:FI} {org:Nat→Nat} (hx:x.Ok org)
theorem FI.W_iff (x:FI) (k:Nat):x.W k↔∃ v,v<x.n∧x.hasE v=true∧nth 0 x.root v=v∧k ∈ orb x.N (x.out v):=by
 unfold FI.W FI.around FI.keys;simp only [List.any_eq_true,List.mem_filter,List.mem_range,Bool.and_eq_true,beq_iff_eq,List.contains_iff_mem]
 constructor
 ·rintro⟨v,⟨a,b⟩,c,d⟩;exact⟨v,a,b,c,d⟩
 ·rintro⟨v,a,b,c,d⟩;exact⟨v,⟨a,b⟩,c,d⟩
 include hx
theorem FI.Ok.comp_next {h:Nat} (hh:h<x.N.length):nth 0 x.root (org (nth 0 x.N h))=nth 0 x.root (org h):=by
 rw [hx.next_org h hh,hx.root_edge h hh]
theorem FI.Ok.comp_it {h:Nat} (hh:h<x.N.length):∀ j,nth 0 x.root (org (it x.N j h))=nth 0 x.root (org h)
 | 0=>rfl
 | j+1=>by
  show nth 0 x.root (org (nth 0 x.N (it x.N j h)))=_;rw [hx.comp_next (it_lt hx.perm hh j),FI.Ok.comp_it hh j]
theorem FI.Ok.comp_orb {h k:Nat} (hh:h<x.N.length) (hk:k ∈ orb x.N h):nth 0 x.root (org k)=nth 0 x.root (org h):=by
 obtain⟨j,rfl⟩:=(mem_orb hx.perm hh k).1 hk;exact hx.comp_it hh j
theorem FI.Ok.W_orb {h k:Nat} (hh:h<x.N.length) (hk:k ∈ orb x.N h):x.W k↔x.W h:=by
 rw [x.W_iff,x.W_iff];have hkl:=orb_lt hx.perm hh hk
 constructor
 ·rintro⟨v,a,b,c,d⟩
  exact⟨v,a,b,c,orb_trans hx.perm (hx.out_lt v a b) d (orb_symm hx.perm hh hk)⟩
 ·rintro⟨v,a,b,c,d⟩
  exact⟨v,a,b,c,orb_trans hx.perm (hx.out_lt v a b) d hk⟩
theorem FI.Ok.W_least {h:Nat} (hh:h<x.N.length):x.W (leastF x.N h)↔x.W h:=hx.W_orb hh (leastF_spec hx.perm hh).1
theorem FI.Ok.W_own {k:Nat} (hk:k<x.N.length) (h:x.W k):nth 0 x.root (org k)<x.n∧x.hasE (nth 0 x.root (org k))=true∧nth 0 x.root (nth 0 x.root (org k))=nth 0 x.root (org k)∧k ∈ orb x.N (x.out (nth 0 x.root (org k))):=by
 obtain⟨v,a,b,c,d⟩:=(x.W_iff k).1 h;have e:=hx.comp_orb (hx.out_lt v a b) d;rw [hx.out_org v a b,c] at e;rw [e];exact⟨a,b,c,d⟩
theorem FI.Ok.W_out {v:Nat} (hv:v<x.n) (hr:nth 0 x.root v=v) (he:x.hasE v=true) {k:Nat} (hk:k<x.N.length):k ∈ orb x.N (x.out v)↔x.W k∧nth 0 x.root (org k)=v:=by
 constructor
 ·intro h
  refine⟨(x.W_iff k).2 ⟨v,hv,he,hr,h⟩,?_⟩;rw [hx.comp_orb (hx.out_lt v hv he) h,hx.out_org v hv he,hr]
 ·rintro⟨h1,h2⟩
  have:=(hx.W_own hk h1).2.2.2
  rwa [h2] at this
structure Ph2 (x:FI) (h:Nat) (L O:List Int):Prop where
 len:L.length=x.N.length
 pos:0<O.length
 zero:nth 0 O 0 = -1
 outs:∀ i,0<i→i<O.length→∃ q:Nat,nth 0 O i=(q:Int)∧q<x.N.length∧leastF x.N q=q∧¬ x.W q∧nth 0 L q=(i:Int)
 w:∀ k,k<x.N.length→x.W k→nth 0 L k = -2
 low:∀ k,k<x.N.length→¬ x.W k→leastF x.N k<h→∃ i:Nat,0<i∧i<O.length∧nth 0 L k=(i:Int)∧nth 0 O i=(leastF x.N k:Int)
 high:∀ k,k<x.N.length→¬ x.W k→h≤leastF x.N k→nth 0 L k = -1
 many:O.length≤h+1
 omit hx in
theorem FI.L1_length (x:FI) (d:List Nat):(x.L1 d).length=x.N.length:=by unfold FI.L1;simp
 omit hx in
theorem FI.nth_L1 (x:FI) (d:List Nat) {k:Nat} (hk:k<x.N.length):nth 0 (x.L1 d) k=if x.around d k=true then -2 else -1:=by
  rw [nth_eq _ _ _ (by rw [x.L1_length];exact hk)];unfold FI.L1;simp
theorem FI.Ok.ph2:∀ h,h≤x.N.length→Ph2 x h (x.ph2 h).1 (x.ph2 h).2
 | 0,_=>by
  refine⟨x.L1_length _,by simp [FI.ph2],rfl,fun i h0 hi=>by simp [FI.ph2] at hi;omega,fun k hk hw=>?_,fun k hk hw h0=>by omega,fun k hk hw h0=>?_,by simp [FI.ph2]⟩
  ·show nth 0 (x.L1 x.keys) k = -2
   rw [x.nth_L1 _ hk,if_pos (show x.around x.keys k=true from hw)]
  ·show nth 0 (x.L1 x.keys) k = -1
   rw [x.nth_L1 _ hk,if_neg (show ¬ x.around x.keys k=true from hw)]
 | h+1,hh=>by
  have ih:=FI.Ok.ph2 h (by omega);have hl:h<x.N.length:=by omega
  unfold FI.ph2;generalize x.ph2 h=s at ih;obtain⟨L,O⟩:=s;simp only at ih ⊢
  by_cases h1:nth 0 L h = -1
  ·rw [if_pos h1]
   have hnw:¬ x.W h:=fun hw=>by rw [ih.w h hl hw] at h1;omega
   have hle:leastF x.N h=h:=by
    have h2:=leastF_le hx.perm hl
    by_cases h3:leastF x.N h<h
    ·obtain⟨i,i0,_,e,_⟩:=ih.low h hl hnw h3;omega
    ·omega
   have hmem:∀ k,k<x.N.length→(k ∈ orb x.N h↔leastF x.N k=h):=fun k hk=>by
    constructor
    ·intro hm;rw [leastF_of hx.perm hl hm,hle]
    ·intro e;exact orb_of_least hx.perm hl hk (by rw [hle,e])
   have hset:∀ k,k<x.N.length→nth 0 (setAll L (orb x.N h) O.length) k=if leastF x.N k=h then (O.length:Int) else nth 0 L k:=fun k hk=>by
    rw [nth_setAll _ _ _ (fun k hk=>by rw [ih.len];exact orb_lt hx.perm hl hk)]
    by_cases hm:k ∈ orb x.N h
    ·rw [if_pos hm,if_pos ((hmem k hk).1 hm)]
    ·rw [if_neg hm,if_neg (fun e=>hm ((hmem k hk).2 e))]
   refine⟨by rw [setAll_length];exact ih.len,by simp,by rw [nth_append_left _ _ _ _ ih.pos];exact ih.zero,fun i i0 hi=>?_,fun k hk hw=>?_,fun k hk hw hlow=>?_,fun k hk hw hhigh=>?_,by have:=ih.many;simp;omega⟩
   ·rw [List.length_append,List.length_singleton] at hi
    by_cases hi2:i<O.length
    ·obtain⟨q,e,q1,q2,q3,q4⟩:=ih.outs i i0 hi2
     refine⟨q,by rw [nth_append_left _ _ _ _ hi2];exact e,q1,q2,q3,?_⟩;rw [hset q q1,if_neg ?_]
     ·exact q4
     ·intro e2
      rw [q2] at e2;subst e2;omega
    ·obtain rfl:i=O.length:=by omega
     exact⟨h,by rw [nth_snoc,hle],hl,hle,hnw,by rw [hset h hl,if_pos hle]⟩
   ·rw [hset k hk,if_neg ?_]
    ·exact ih.w k hk hw
    ·intro e
     exact hnw ((hx.W_orb hl ((hmem k hk).2 e)).1 hw)
   ·rw [hset k hk]
    by_cases e:leastF x.N k=h
    ·rw [if_pos e]
     exact⟨O.length,ih.pos,by simp,rfl,by rw [nth_snoc,hle,e]⟩
    ·rw [if_neg e]
     obtain⟨i,i0,i1,i2,i3⟩:=ih.low k hk hw (by omega);exact⟨i,i0,by simp;omega,i2,by rw [nth_append_left _ _ _ _ i1];exact i3⟩
   ·rw [hset k hk,if_neg (by omega)]
    exact ih.high k hk hw (by omega)
  ·rw [if_neg h1]
   refine⟨ih.len,ih.pos,ih.zero,ih.outs,ih.w,fun k hk hw hlow=>?_,fun k hk hw hhigh=>ih.high k hk hw (by omega),Nat.le_succ_of_le ih.many⟩
   by_cases e:leastF x.N k=h
   ·exfalso
    apply h1;have e2:=least_least hx.perm hk;rw [e] at e2;refine ih.high h hl (fun hw2=>hw ?_) (by omega);rw [← hx.W_least hk,e];exact hw2
   ·exact ih.low k hk hw (by omega)
theorem FI.Ok.p2:Ph2 x x.N.length x.L2 x.O:=hx.ph2 _ (Nat.le_refl _)
 omit hx in
theorem count_flatten_set {I:List (List Nat)} {i:Nat} (hi:i<I.length) (y z:Nat):(addAt I i y).flatten.count z=I.flatten.count z+if z=y then 1 else 0:=by
  have e1:I=I.take i++nth [] I i::I.drop (i+1):=by
   rw [nth_eq _ _ _ hi];simp
  have hl:(I.take i).length=i:=by simp;omega
  unfold addAt;generalize nth [] I i=a at e1;generalize I.take i=A at e1 hl;generalize I.drop (i+1)=B at e1;subst e1;subst hl;rw [List.set_append_right _ _ (Nat.le_refl _),Nat.sub_self,List.set_cons_zero];simp only [List.flatten_append,List.flatten_cons,List.count_append,List.count_cons,List.count_nil]
  by_cases h:z=y
  ·subst h;simp;omega
  ·have:¬ y=z:=fun e=>h e.symm
   simp [h,this]
 omit hx in
theorem nth_addAt {I:List (List Nat)} {i:Nat} (hi:i<I.length) (y k:Nat):nth [] (addAt I i y) k=if k=i then nth [] I i++[y] else nth [] I k:=by
  unfold addAt;rw [nth_setG _ _ _ _ _ hi]
 omit hx in
theorem addAt_length (I:List (List Nat)) (i y:Nat):(addAt I i y).length=I.length:=by unfold addAt;simp
structure Ph3 (x:FI) (org:Nat→Nat) (v:Nat) (s:F3):Prop where
 len:s.L.length=x.N.length
 ilen:s.I.length=x.O.length
 alen:s.A.length=x.O.length
 nw:∀ k,k<x.N.length→¬ x.W k→nth 0 s.L k=nth 0 x.L2 k
 lowW:∀ k,k<x.N.length→x.W k→nth 0 x.root (org k)<v→∃ i:Nat,i<x.O.length∧nth 0 s.L k=(i:Int)∧leastF x.N k ∈ nth [] s.I i
 highW:∀ k,k<x.N.length→x.W k→v≤nth 0 x.root (org k)→nth 0 s.L k = -2
 im:∀ i,i<x.O.length→∀ y ∈ nth [] s.I i,y<x.N.length∧leastF x.N y=y∧x.W y∧nth 0 x.root (org y)<v∧nth 0 s.L y=(i:Int)
 icount:∀ y,s.I.flatten.count y≤1
 am:∀ i,i<x.O.length→∀ u ∈ nth [] s.A i,u<v
 acount:∀ u,s.A.flatten.count u=if u<v∧nth 0 x.root u=u∧x.hasE u=false then 1 else 0
theorem FI.Ok.face_ok {v:Nat} {s:F3} (hv:v<x.n) (ih:Ph3 x org v s):∃ i:Nat,i<x.O.length∧x.face s.L v=(i:Int):=by
 unfold FI.face;cases hb:x.bel v with
 | none=>exact⟨0,hx.p2.pos,rfl⟩
 | some e =>
  obtain⟨h1,h2⟩:=hx.bel_ok v e hv hb;have hk:2*e<x.N.length:=by rw [hx.len];omega
  by_cases hw:x.W (2*e)
  ·have h3:=hx.root_le _ (hx.org_lt _ hk)
   obtain⟨i,a,b,_⟩:=ih.lowW _ hk hw (by omega);exact⟨i,a,b⟩
  ·obtain⟨i,a,b,c,_⟩:=hx.p2.low _ hk hw (leastF_lt hx.perm hk)
   exact⟨i,b,(ih.nw _ hk hw).trans c⟩
 omit hx in
theorem mem_flatten_nth {I:List (List Nat)} {y:Nat} (h:y ∈ I.flatten):∃ i,i<I.length∧y ∈ nth [] I i:=by
  obtain⟨l,hl,hy⟩:=List.mem_flatten.1 h;obtain⟨i,hi,rfl⟩:=List.getElem_of_mem hl;exact⟨i,hi,by rw [nth_eq _ _ _ hi];exact hy⟩
theorem FI.Ok.ph3:∀ v,v≤x.n→Ph3 x org v (x.ph3 v)
 | 0,_=>by
  have hp:=hx.p2
  have hrep:∀ i,nth [] (List.replicate x.O.length ([]:List Nat)) i=[]:=fun i=>by
   simp only [nth,List.getD_eq_getElem?_getD,List.getElem?_replicate];split <;> rfl
  refine⟨hp.len,by simp [FI.ph3],by simp [FI.ph3],fun k hk hw=>rfl,fun k hk hw h0=>by omega,fun k hk hw h0=>hp.w k hk hw,fun i hi y hy=>?_,fun y=>?_,fun i hi y hy=>?_,fun u=>?_⟩
  ·simp only [FI.ph3] at hy;rw [hrep] at hy;cases hy
  ·simp [FI.ph3]
  ·simp only [FI.ph3] at hy;rw [hrep] at hy;cases hy
  ·simp [FI.ph3]
 | v+1,hv1=>by
  have hv:v<x.n:=by omega
  have ih:=FI.Ok.ph3 v (by omega);show Ph3 x org (v+1) (x.step3 (x.ph3 v) v);generalize x.ph3 v=s at ih;obtain⟨f,hf,hfe⟩:=hx.face_ok hv ih;unfold FI.step3
  by_cases hr:nth 0 x.root v=v
  ·rw [if_pos hr]
   by_cases he:x.hasE v=true
   ·rw [if_pos he,hfe]
    have hol:=hx.out_lt v hv he
    have hset:∀ k,k<x.N.length→nth 0 (setAll s.L (orb x.N (x.out v)) (f:Int)) k=if x.W k∧nth 0 x.root (org k)=v then (f:Int) else nth 0 s.L k:=fun k hk=>by
     rw [nth_setAll _ _ _ (fun k hk=>by rw [ih.len];exact orb_lt hx.perm hol hk)]
     by_cases hm:k ∈ orb x.N (x.out v)
     ·rw [if_pos hm,if_pos ((hx.W_out hv hr he hk).1 hm)]
     ·rw [if_neg hm,if_neg (fun e=>hm ((hx.W_out hv hr he hk).2 e))]
    obtain⟨y,hy⟩:∃ y,leastF x.N (x.out v)=y:=⟨_,rfl⟩;have hyo:y ∈ orb x.N (x.out v):=by rw [← hy];exact (leastF_spec hx.perm hol).1
    have hyl:=orb_lt hx.perm hol hyo;obtain⟨hyw,hyr⟩:=(hx.W_out hv hr he hyl).1 hyo;have hyy:leastF x.N y=y:=by rw [← hy];exact least_least hx.perm hol
    have hfi:f<s.I.length:=by rw [ih.ilen];exact hf
    rw [hy,Int.toNat_natCast];refine⟨by rw [setAll_length];exact ih.len,by rw [addAt_length];exact ih.ilen,ih.alen,fun k hk hw=>?_,fun k hk hw hlow=>?_,fun k hk hw hhigh=>?_,fun i hi z hz=>?_,fun z=>?_,fun i hi u hu=>Nat.lt_succ_of_lt (ih.am i hi u hu),fun u=>?_⟩
    ·rw [hset k hk,if_neg (fun e=>hw e.1)];exact ih.nw k hk hw
    ·rw [hset k hk]
     by_cases e:nth 0 x.root (org k)=v
     ·rw [if_pos ⟨hw,e⟩]
      refine⟨f,hf,rfl,?_⟩;rw [nth_addAt hfi,if_pos rfl]
      have:leastF x.N k=y:=by
       rw [← hy];exact leastF_of hx.perm hol ((hx.W_out hv hr he hk).2 ⟨hw,e⟩)
      rw [this];simp
     ·rw [if_neg (fun h=>e h.2)]
      obtain⟨i,a,b,c⟩:=ih.lowW k hk hw (by omega);refine⟨i,a,b,?_⟩;rw [nth_addAt hfi]
      split
      ·rename_i e2;subst e2;exact List.mem_append_left _ c
      ·exact c
    ·rw [hset k hk,if_neg (fun h=>by omega)]
     exact ih.highW k hk hw (by omega)
    ·rw [nth_addAt hfi] at hz
     by_cases hfz:i=f
     ·rw [if_pos hfz] at hz
      subst hfz
      rcases List.mem_append.1 hz with h1|h1
      ·obtain⟨a,b,c,d,e⟩:=ih.im i hi z h1
       exact⟨a,b,c,by omega,by rw [hset z a,if_neg (fun h=>by omega)];exact e⟩
      ·rw [List.mem_singleton] at h1
       subst h1;exact⟨hyl,hyy,hyw,by omega,by rw [hset z hyl,if_pos ⟨hyw,hyr⟩]⟩
     ·rw [if_neg hfz] at hz
      obtain⟨a,b,c,d,e⟩:=ih.im i hi z hz;exact⟨a,b,c,by omega,by rw [hset z a,if_neg (fun h=>by omega)];exact e⟩
    ·rw [count_flatten_set hfi]
     by_cases e:z=y
     ·subst e
      rw [if_pos rfl]
      have:List.count z s.I.flatten=0:=by
       rw [List.count_eq_zero];intro hm;obtain⟨i,hi,hm2⟩:=mem_flatten_nth hm;rw [ih.ilen] at hi;have:=(ih.im i hi z hm2).2.2.2.1;omega
      omega
     ·rw [if_neg e];exact ih.icount z
    ·rw [ih.acount u]
     by_cases e:u=v
     ·subst e
      rw [if_neg (by omega),if_neg (by rw [he];simp)]
     ·by_cases h1:u<v∧nth 0 x.root u=u∧x.hasE u=false
      ·rw [if_pos h1,if_pos ⟨by omega,h1.2⟩]
      ·rw [if_neg h1,if_neg (fun h=>h1 ⟨by omega,h.2⟩)]
   ·rw [if_neg he,hfe,Int.toNat_natCast]
    have he2:x.hasE v=false:=by simpa using he
    have hfa:f<s.A.length:=by rw [ih.alen];exact hf
    have hnot:∀ k,k<x.N.length→x.W k→nth 0 x.root (org k)≠v:=fun k hk hw e=>by
     have:=(hx.W_own hk hw).2.1;rw [e] at this;exact he this
    refine⟨ih.len,ih.ilen,by rw [addAt_length];exact ih.alen,ih.nw,fun k hk hw hlow=>ih.lowW k hk hw (by have:=hnot k hk hw;omega),fun k hk hw hhigh=>ih.highW k hk hw (by omega),fun i hi y hy=>?_,ih.icount,fun i hi u hu=>?_,fun u=>?_⟩
    ·obtain⟨a,b,c,d,e⟩:=ih.im i hi y hy
     exact⟨a,b,c,by omega,e⟩
    ·rw [nth_addAt hfa] at hu
     split at hu
     ·rename_i e2
      subst e2
      rcases List.mem_append.1 hu with h1|h1
      ·have:=ih.am i hi u h1;omega
      ·rw [List.mem_singleton] at h1;omega
     ·have:=ih.am i hi u hu;omega
    ·rw [count_flatten_set hfa,ih.acount u]
     by_cases e:u=v
     ·subst e
      rw [if_neg (by omega),if_pos rfl,if_pos ⟨by omega,hr,he2⟩]
     ·rw [if_neg e]
      by_cases h1:u<v∧nth 0 x.root u=u∧x.hasE u=false
      ·rw [if_pos h1,if_pos ⟨by omega,h1.2⟩]
      ·rw [if_neg h1,if_neg (fun h=>h1 ⟨by omega,h.2⟩)]
  ·rw [if_neg hr]
   have hnot:∀ k,k<x.N.length→x.W k→nth 0 x.root (org k)≠v:=fun k hk hw e=>by
    have:=(hx.W_own hk hw).2.2.1;rw [e] at this;exact hr this
   refine⟨ih.len,ih.ilen,ih.alen,ih.nw,fun k hk hw hlow=>ih.lowW k hk hw (by have:=hnot k hk hw;omega),fun k hk hw hhigh=>ih.highW k hk hw (by omega),fun i hi y hy=>?_,ih.icount,fun i hi u hu=>by have:=ih.am i hi u hu;omega,fun u=>?_⟩
   ·obtain⟨a,b,c,d,e⟩:=ih.im i hi y hy
    exact⟨a,b,c,by omega,e⟩
   ·rw [ih.acount u]
    by_cases e:u=v
    ·subst e
     rw [if_neg (by omega),if_neg (fun h=>hr h.2.1)]
    ·by_cases h1:u<v∧nth 0 x.root u=u∧x.hasE u=false
     ·rw [if_pos h1,if_pos ⟨by omega,h1.2⟩]
     ·rw [if_neg h1,if_neg (fun h=>h1 ⟨by omega,h.2⟩)]
end
end Go.Hp
namespace Go.Hp
open Go Go.RowKit
theorem FI.L1_nil (x:FI):x.L1 []=List.replicate x.N.length (-1):=by
 refine nth_ext 0 (by rw [x.L1_length,List.length_replicate]) (fun k hk=>?_);rw [x.L1_length] at hk;rw [x.nth_L1 _ hk,nth_eq _ _ _ (by rw [List.length_replicate];exact hk)];simp [FI.around]
theorem FI.L1_step (x:FI) (hp:IsPerm x.N) (d:List Nat) (v:Nat) (hr:nth 0 x.root v=v) (ho:x.out v<x.N.length):x.L1 (d++[v])=setAll (x.L1 d) (orb x.N (x.out v)) (-2):=by
 refine nth_ext 0 (by rw [setAll_length,x.L1_length,x.L1_length]) (fun k hk=>?_);rw [x.L1_length] at hk;rw [nth_setAll _ _ _ (fun q hq=>by rw [x.L1_length];exact orb_lt hp ho hq),x.nth_L1 _ hk,x.nth_L1 _ hk]
 have e:x.around (d++[v]) k=(x.around d k || (orb x.N (x.out v)).contains k):=by
  unfold FI.around;rw [List.any_append];simp [hr]
 rw [e]
 by_cases h:k ∈ orb x.N (x.out v)
 ·rw [if_pos h,if_pos (by simp [h])]
 ·rw [if_neg h]
  have:(orb x.N (x.out v)).contains k=false:=by simp [h]
  rw [this,Bool.or_false]
theorem FI.L1_skip (x:FI) (d:List Nat) (v:Nat) (hr:nth 0 x.root v≠v):x.L1 (d++[v])=x.L1 d:=by
 have e:∀ k,x.around (d++[v]) k=x.around d k:=fun k=>by
  unfold FI.around;rw [List.any_append];simp [hr]
 unfold FI.L1;simp only [e]
theorem FI.L1_mem (x:FI) {d d':List Nat} (h:∀ v,v ∈ d↔v ∈ d'):x.L1 d=x.L1 d':=by
 have e:∀ k,x.around d k=x.around d' k:=fun k=>by
  rw [Bool.eq_iff_iff];unfold FI.around;rw [List.any_eq_true,List.any_eq_true];exact⟨fun ⟨v,a,b⟩=>⟨v,(h v).1 a,b⟩,fun ⟨v,a,b⟩=>⟨v,(h v).2 a,b⟩⟩
 unfold FI.L1;simp only [e]
def FI.named (x:FI) (d:List Nat) (l:List (Int × Int)):Prop:=∀ v:Nat,getL l (v:Int)=if v ∈ d∧nth 0 x.root v=v then some (leastF x.N (x.out v):Int) else none
end Go.Hp
namespace Go.Hp
open Go Go.RowKit
theorem FI.named_nil (x:FI):x.named [] []:=fun v=>by simp [getL]
theorem FI.named_skip (x:FI) {d:List Nat} {l:List (Int × Int)} (h:x.named d l) (v:Nat) (hr:nth 0 x.root v≠v):x.named (d++[v]) l:=fun u=>by
 rw [h u]
 by_cases e:u=v
 ·subst e
  rw [if_neg (fun h=>hr h.2),if_neg (fun h=>hr h.2)]
 ·simp [e]
theorem FI.named_step (x:FI) {d:List Nat} {l:List (Int × Int)} (h:x.named d l) (v:Nat) (hr:nth 0 x.root v=v):x.named (d++[v]) (putL l (v:Int) (leastF x.N (x.out v):Int)):=fun u=>by
 rw [getL_putL,h u]
 by_cases e:(v:Int)=(u:Int)
 ·have e':v=u:=by omega
  subst e';rw [if_pos e,if_pos ⟨by simp,hr⟩]
 ·have e':u≠v:=fun h=>e (by rw [h])
  rw [if_neg e];simp [e']
end Go.Hp
namespace Go.Hp
open Go Go.RowKit
def srtN (l:List Nat):List Nat:=l.mergeSort fun x y=>decide (x≤y)
theorem srtN_perm (l:List Nat):(srtN l).Perm l:=List.mergeSort_perm _ _
theorem srtN_len (l:List Nat):(srtN l).length=l.length:=(srtN_perm l).length_eq
theorem nth_map_srtN (I:List (List Nat)) (i:Nat):nth [] (I.map srtN) i=srtN (nth [] I i):=by
 simp only [nth,List.getD_eq_getElem?_getD,List.getElem?_map];cases I[i]? with
 | none=>simp [srtN]
 | some l=>rfl
theorem count_map_srtN (y:Nat):∀ I:List (List Nat),(I.map srtN).flatten.count y=I.flatten.count y
 | []=>rfl
 | l::I=>by
  rw [List.map_cons,List.flatten_cons,List.flatten_cons,List.count_append,List.count_append,count_map_srtN y I,(srtN_perm l).count_eq]
structure FRec where
 N:List Nat
 L:List Int
 O:List Int
 I:List (List Nat)
 A:List (List Nat)
structure FGood (m n:Nat) (org:Nat→Nat) (hasE:Nat→Bool) (f:FRec):Prop where
 nlen:f.N.length=2*m
 perm:IsPerm f.N
 llen:f.L.length=2*m
 opos:0<f.O.length
 olen:f.O.length≤2*m+1
 ilen:f.I.length=f.O.length
 alen:f.A.length=f.O.length
 lr:∀ k,k<2*m→∃ i:Nat,i<f.O.length∧nth 0 f.L k=(i:Int)
 o0:nth 0 f.O 0 = -1
 on:∀ i,0<i→i<f.O.length→∃ q:Nat,nth 0 f.O i=(q:Int)∧q<2*m∧leastF f.N q=q∧nth 0 f.L q=(i:Int)∧∀ j,j<f.O.length→q ∉ nth [] f.I j
 im:∀ i,i<f.O.length→∀ y ∈ nth [] f.I i,y<2*m∧leastF f.N y=y∧nth 0 f.L y=(i:Int)
 icount:∀ y,f.I.flatten.count y≤1
 am:∀ i,i<f.O.length→∀ u ∈ nth [] f.A i,u<n
 acount:∀ u,u<n→f.A.flatten.count u=if hasE u=true then 0 else 1
 cyc:∀ k,k<2*m→nth 0 f.L (nth 0 f.N k)=nth 0 f.L k
 nxorg:∀ k,k<2*m→org (nth 0 f.N k)=org (tw k)
 named:∀ k,k<2*m→leastF f.N k=k→(∃ i,0<i∧i<f.O.length∧nth 0 f.O i=(k:Int))∨∃ i,i<f.O.length∧k ∈ nth [] f.I i
def FI.fr (x:FI):FRec:=⟨x.N,(x.ph3 x.n).L,x.O,(x.ph3 x.n).I.map srtN,(x.ph3 x.n).A⟩
theorem FI.Ok.good {x:FI} {org:Nat→Nat} (hx:x.Ok org):FGood x.m x.n org x.hasE x.fr:=by
 have p2:=hx.p2;have p3:=hx.ph3 x.n (Nat.le_refl _);have hN:=hx.len;have hrn:∀ k,k<x.N.length→nth 0 x.root (org k)<x.n:=fun k hk=>Nat.lt_of_le_of_lt (hx.root_le _ (hx.org_lt k hk)) (hx.org_lt k hk)
 unfold FI.fr;generalize x.ph3 x.n=s at p3;obtain⟨L,I,A⟩:=s
 have hleast:∀ k,k<x.N.length→nth 0 L (leastF x.N k)=nth 0 L k:=fun k hk=>by
  by_cases hw:x.W k
  ·obtain⟨i,a,b,c⟩:=p3.lowW k hk hw (hrn k hk)
   rw [b];exact (p3.im i a _ c).2.2.2.2
  ·obtain⟨i,i0,i1,e,e2⟩:=p2.low k hk hw (leastF_lt hx.perm hk)
   obtain⟨q,f1,f2,f3,f4,f5⟩:=p2.outs i i0 i1;obtain rfl:q=leastF x.N k:=by rw [e2] at f1;omega
   rw [p3.nw k hk hw,e];exact (p3.nw _ f2 f4).trans f5
 refine⟨hN,hx.perm,p3.len.trans hN,p2.pos,by have:=p2.many;simp only;omega,by simp only [List.length_map];exact p3.ilen,p3.alen,fun k hk=>?_,p2.zero,fun i i0 i1=>?_,fun i hi y hy=>?_,fun y=>?_,fun i hi u hu=>?_,fun u hu=>?_,fun k hk=>?_,fun k hk=>hx.next_org k (by omega),fun k hk hl=>?_⟩
 ·have hk':k<x.N.length:=by omega
  by_cases hw:x.W k
  ·obtain⟨i,a,b,_⟩:=p3.lowW k hk' hw (hrn k hk')
   exact⟨i,a,b⟩
  ·obtain⟨i,_,i1,e,_⟩:=p2.low k hk' hw (leastF_lt hx.perm hk')
   exact⟨i,i1,(p3.nw k hk' hw).trans e⟩
 ·obtain⟨q,f1,f2,f3,f4,f5⟩:=p2.outs i i0 i1
  refine⟨q,f1,by omega,f3,(p3.nw q f2 f4).trans f5,fun j hj hm=>?_⟩;rw [nth_map_srtN,(srtN_perm _).mem_iff] at hm;exact f4 (p3.im j hj q hm).2.2.1
 ·rw [nth_map_srtN,(srtN_perm _).mem_iff] at hy
  obtain⟨a,b,_,_,e⟩:=p3.im i hi y hy;exact⟨by omega,b,e⟩
 ·show (I.map srtN).flatten.count y≤1
  rw [count_map_srtN];exact p3.icount y
 ·exact p3.am i hi u hu
 ·show A.flatten.count u=_
  have:=p3.acount u;simp only at this;rw [this]
  by_cases he:x.hasE u=true
  ·rw [if_pos he,if_neg (fun h=>by rw [he] at h;exact absurd h.2.2 (by simp))]
  ·have he2:x.hasE u=false:=by simpa using he
   rw [if_neg he,if_pos ⟨hu,hx.alone u hu he2,he2⟩]
 ·have hk':k<x.N.length:=by omega
  show nth 0 L (nth 0 x.N k)=nth 0 L k;rw [← hleast k hk',← hleast _ (hx.perm.lt k hk'),leastF_next hx.perm hk']
 ·have hk':k<x.N.length:=by omega
  have hl':leastF x.N k=k:=hl
  by_cases hw:x.W k
  ·obtain⟨i,a,_,c⟩:=p3.lowW k hk' hw (hrn k hk')
   refine .inr ⟨i,a,?_⟩;rw [nth_map_srtN,(srtN_perm _).mem_iff];rw [hl'] at c;exact c
  ·obtain⟨i,i0,i1,_,e2⟩:=p2.low k hk' hw (leastF_lt hx.perm hk')
   rw [hl'] at e2;exact .inl ⟨i,i0,i1,e2⟩
theorem len_le_of_count:∀ (n:Nat) (l:List Nat),(∀ x ∈ l,x<n)→(∀ x,l.count x≤1)→l.length≤n
 | 0,l,h,_=>by
  cases l with
  | nil=>simp
  | cons a t=>exact absurd (h a (by simp)) (by omega)
 | n+1,l,h,hc=>by
  have e:=List.length_eq_countP_add_countP (fun x=>x == n) (l:=l);have h1:l.countP (fun x=>x == n)≤1:=hc n
  have h2:=len_le_of_count n (l.filter fun x=>!(x == n)) (fun x hx=>by
   rw [List.mem_filter] at hx;have h3:=h x hx.1;have h4:x≠n:=by simpa using hx.2
   omega) (fun x=>Nat.le_trans ((List.filter_sublist).count_le x) (hc x))
  rw [← List.countP_eq_length_filter] at h2
  have h5:l.countP (fun a=>decide ¬(a == n)=true)=l.countP (fun x=>!(x == n)):=by
   congr 1;funext a;by_cases h6:a=n <;> simp [h6]
  omega
theorem row_mem {I:List (List Nat)} {i:Nat} (hi:i<I.length):nth [] I i ∈ I:=nth_mem [] I i hi
theorem FGood.ilen_le {m n:Nat} {org:Nat→Nat} {hasE:Nat→Bool} {f:FRec} (h:FGood m n org hasE f) {i:Nat} (hi:i<f.O.length):(nth [] f.I i).length≤2*m :=
 len_le_of_count _ _ (fun x hx=>(h.im i hi x hx).1) (fun x=>Nat.le_trans ((List.sublist_flatten_of_mem (row_mem (by rw [h.ilen];exact hi))).count_le x) (h.icount x))
theorem FGood.alen_le {m n:Nat} {org:Nat→Nat} {hasE:Nat→Bool} {f:FRec} (h:FGood m n org hasE f) {i:Nat} (hi:i<f.O.length):(nth [] f.A i).length≤n :=
 len_le_of_count _ _ (fun x hx=>h.am i hi x hx) (fun x=>by
  by_cases hx:x<n
  ·refine Nat.le_trans ((List.sublist_flatten_of_mem (row_mem (by rw [h.alen];exact hi))).count_le x) ?_
   rw [h.acount x hx];split <;> omega
  ·rw [List.count_eq_zero.2 (fun hm=>hx (h.am i hi x hm))];omega)
end Go.Hp
