/- Of MA. -/
import Derived.Test.YtjeofihncbegfaaGreatQ43
set_option maxRecDepth 100000
set_option maxHeartbeats 16000000
set_option linter.unusedVariables false
set_option linter.unusedSimpArgs false
namespace Go.Hp
open Go Go.RowKit
def sgAt (os:List Sz) (i:Nat):Sg:=(nth s0 os i).sg
def vP (os:List Sz) (gs:List Gp) (i:Nat) (p:Pt):Prop:=p ∈ gs.map Gp.pt∨(∃ j,j<i∧(p=(sgAt os j).a∨p=(sgAt os j).b))∨∃ j m,m<j∧j<i∧p ∈ cutsL (sgAt os j) (sgAt os m)
def vQ (os:List Sz) (gs:List Gp) (i k:Nat) (p:Pt):Prop:=vP os gs i p∨(p=(sgAt os i).a∨p=(sgAt os i).b)∨∃ m,m<k∧p ∈ cutsL (sgAt os i) (sgAt os m)
theorem vQ_step {os:List Sz} {gs:List Gp} {i:Nat} {p:Pt}:vQ os gs i i p↔vP os gs (i+1) p:=by
 unfold vQ vP
 constructor
 ·rintro ((h|⟨j,h1,h2⟩|⟨j,m,h1,h2,h3⟩)|h|⟨m,h1,h2⟩)
  ·exact .inl h
  ·exact .inr (.inl ⟨j,by omega,h2⟩)
  ·exact .inr (.inr ⟨j,m,h1,by omega,h3⟩)
  ·exact .inr (.inl ⟨i,by omega,h⟩)
  ·exact .inr (.inr ⟨i,m,h1,by omega,h2⟩)
 ·rintro (h|⟨j,h1,h2⟩|⟨j,m,h1,h2,h3⟩)
  ·exact .inl (.inl h)
  ·by_cases e:j=i
   ·subst e;exact .inr (.inl h2)
   ·exact .inl (.inr (.inl ⟨j,by omega,h2⟩))
  ·by_cases e:j=i
   ·subst e;exact .inr (.inr ⟨m,h1,h3⟩)
   ·exact .inl (.inr (.inr ⟨j,m,h1,by omega,h3⟩))
theorem sgAt_some {os:List Sz} {i:Nat} {s:Sg} (h:(os.map Sz.sg)[i]? = some s):i<os.length∧s=sgAt os i:=by
 rw [List.getElem?_map] at h;cases ho:os[i]? with
 | none=>rw [ho] at h;cases h
 | some t =>
  rw [ho] at h;obtain⟨hi,hh⟩:=List.getElem?_eq_some_iff.1 ho;refine⟨hi,?_⟩;unfold sgAt;rw [nth_eq _ _ _ hi,hh];exact (Option.some.inj h).symm
theorem sgAt_get {os:List Sz} {i:Nat} (h:i<os.length):(os.map Sz.sg)[i]? = some (sgAt os i):=by
 unfold sgAt;rw [List.getElem?_map,List.getElem?_eq_getElem h,nth_eq _ _ _ h];rfl
theorem vP_end {os:List Sz} {gs:List Gp} {p:Pt}:vP os gs os.length p↔isVert (os.map Sz.sg) (gs.map Gp.pt) p:=by
 unfold vP isVert
 constructor
 ·rintro (h|⟨j,h1,h2⟩|⟨j,m,h1,h2,h3⟩)
  ·exact .inl h
  ·exact .inr (.inl ⟨sgAt os j,List.mem_of_getElem? (sgAt_get h1),h2⟩)
  ·exact .inr (.inr ⟨j,m,_,_,by omega,sgAt_get h2,sgAt_get (by omega),(cuts_iff _ _ _).1 h3⟩)
 ·rintro (h|⟨s,h1,h2⟩|⟨i,j,s,t,hij,h1,h2,h3⟩)
  ·exact .inl h
  ·obtain⟨j,hj⟩:=List.getElem?_of_mem h1
   obtain⟨a,b⟩:=sgAt_some hj;exact .inr (.inl ⟨j,a,by rw [← b];exact h2⟩)
  ·obtain⟨a,rfl⟩:=sgAt_some h1
   obtain⟨b,rfl⟩:=sgAt_some h2
   rcases Nat.lt_or_ge j i with h|h
   ·exact .inr (.inr ⟨i,j,h,a,(cuts_iff _ _ _).2 h3⟩)
   ·exact .inr (.inr ⟨j,i,by omega,b,(cuts_iff _ _ _).2 (isCut_symm h3)⟩)
theorem nextOn_nth {V:List Pt} {s:Sg} {u v:Nat}:nextOn V s u v↔u<v∧v<V.length∧onS s (nth pt0 V u)∧onS s (nth pt0 V v)∧∀ w,u<w→w<v→¬ onS s (nth pt0 V w):=by
 unfold nextOn
 constructor
 ·rintro⟨huv,p,q,hu,hv,h1,h2,h3⟩
  obtain⟨a,rfl⟩:=List.getElem?_eq_some_iff.1 hu;obtain⟨b,rfl⟩:=List.getElem?_eq_some_iff.1 hv;refine⟨huv,b,by rw [nth_eq _ _ _ a];exact h1,by rw [nth_eq _ _ _ b];exact h2,fun w hw1 hw2=>?_⟩;have hw:w<V.length:=by omega
  rw [nth_eq _ _ _ hw];exact h3 w _ hw1 hw2 (List.getElem?_eq_getElem hw)
 ·rintro⟨huv,b,h1,h2,h3⟩
  have a:u<V.length:=by omega
  rw [nth_eq _ _ _ a] at h1;rw [nth_eq _ _ _ b] at h2;refine⟨huv,_,_,List.getElem?_eq_getElem a,List.getElem?_eq_getElem b,h1,h2,fun w r hw1 hw2 hr=>?_⟩;obtain⟨hw,rfl⟩:=List.getElem?_eq_some_iff.1 hr;have:=h3 w hw1 hw2
  rwa [nth_eq _ _ _ hw] at this
def Last (V:List Pt) (s:Sg) (v:Nat) (l:Int):Prop:=(l = -1∧∀ w,w<v→¬ onS s (nth pt0 V w))∨∃ u:Nat,u<v∧l=(u:Int)∧onS s (nth pt0 V u)∧∀ w,u<w→w<v→¬ onS s (nth pt0 V w)
def EP (os:List Sz) (V:List Pt) (i v:Nat) (e:Nat × Nat):Prop:=(∃ j,j<i∧nextOn V (sgAt os j) e.1 e.2)∨(nextOn V (sgAt os i) e.1 e.2∧e.2<v)
theorem Last.start (V:List Pt) (s:Sg):Last V s 0 (-1):=.inl ⟨rfl,fun w hw=>by omega⟩
theorem Last.skip {V:List Pt} {s:Sg} {v:Nat} {l:Int} (h:Last V s v l) (hn:¬ onS s (nth pt0 V v)):Last V s (v+1) l:=by
 rcases h with ⟨a,b⟩|⟨u,a,b,c,d⟩
 ·exact .inl ⟨a,fun w hw=>(Nat.lt_or_eq_of_le (Nat.lt_succ_iff.1 hw)).elim (b w) (fun e=>e ▸ hn)⟩
 ·exact .inr ⟨u,by omega,b,c,fun w h1 h2=>(Nat.lt_or_eq_of_le (Nat.lt_succ_iff.1 h2)).elim (d w h1) (fun e=>e ▸ hn)⟩
theorem Last.take {V:List Pt} {s:Sg} {v:Nat} (hn:onS s (nth pt0 V v)):Last V s (v+1) (v:Int):=.inr ⟨v,by omega,rfl,hn,fun w h1 h2=>by omega⟩
theorem EP.skip {os:List Sz} {V:List Pt} {i v:Nat} (hn:¬ onS (sgAt os i) (nth pt0 V v)) (e:Nat × Nat):EP os V i (v+1) e↔EP os V i v e:=by
 unfold EP;refine⟨fun h=>?_,fun h=>?_⟩
 ·rcases h with h|⟨h1,h2⟩
  ·exact .inl h
  ·by_cases ee:e.2=v
   ·exact absurd (ee ▸ (nextOn_nth.1 h1).2.2.2.1) hn
   ·exact .inr ⟨h1,by omega⟩
 ·rcases h with h|⟨h1,h2⟩
  ·exact .inl h
  ·exact .inr ⟨h1,by omega⟩
theorem EP.none {os:List Sz} {V:List Pt} {i v:Nat} (hl:Last V (sgAt os i) v (-1)) (e:Nat × Nat):EP os V i (v+1) e↔EP os V i v e:=by
 have hno:∀ w,w<v→¬ onS (sgAt os i) (nth pt0 V w):=by
  rcases hl with ⟨_,b⟩|⟨u,_,b,_,_⟩
  ·exact b
  ·omega
 unfold EP;refine⟨fun h=>?_,fun h=>?_⟩
 ·rcases h with h|⟨h1,h2⟩
  ·exact .inl h
  ·have:=nextOn_nth.1 h1
   by_cases ee:e.2=v
   ·exact absurd this.2.2.1 (hno _ (by omega))
   ·exact .inr ⟨h1,by omega⟩
 ·rcases h with h|⟨h1,h2⟩
  ·exact .inl h
  ·exact .inr ⟨h1,by omega⟩
theorem EP.put {os:List Sz} {V:List Pt} {i v u:Nat} (hv:v<V.length) (hn:onS (sgAt os i) (nth pt0 V v)) (hl:Last V (sgAt os i) v (u:Int)) (e:Nat × Nat):EP os V i (v+1) e↔EP os V i v e∨e=(u,v):=by
 have hu:u<v∧onS (sgAt os i) (nth pt0 V u)∧∀ w,u<w→w<v→¬ onS (sgAt os i) (nth pt0 V w):=by
  rcases hl with ⟨a,_⟩|⟨u',a,b,c,d⟩
  ·omega
  ·have:u'=u:=by omega
   subst this;exact⟨a,c,d⟩
 unfold EP;refine⟨fun h=>?_,fun h=>?_⟩
 ·rcases h with h|⟨h1,h2⟩
  ·exact .inl (.inl h)
  ·by_cases ee:e.2=v
   ·right
    have h3:=nextOn_nth.1 h1;obtain⟨e1,e2⟩:=e;simp only at ee h3;subst ee
    have:e1=u:=by
     rcases Nat.lt_trichotomy e1 u with h|h|h
     ·exact absurd hu.2.1 (h3.2.2.2.2 u h hu.1)
     ·exact h
     ·exact absurd h3.2.2.1 (hu.2.2 e1 h h3.1)
    rw [this]
   ·exact .inl (.inr ⟨h1,by omega⟩)
 ·rcases h with (h|⟨h1,h2⟩)|h
  ·exact .inl h
  ·exact .inr ⟨h1,by omega⟩
  ·subst h
   exact .inr ⟨nextOn_nth.2 ⟨hu.1,hv,hu.2.1,hn,hu.2.2⟩,Nat.lt_succ_self _⟩
theorem EP.next {os:List Sz} {V:List Pt} {i:Nat} (e:Nat × Nat):EP os V i V.length e↔EP os V (i+1) 0 e:=by
 unfold EP;refine⟨fun h=>?_,fun h=>?_⟩
 ·rcases h with ⟨j,h1,h2⟩|⟨h1,h2⟩
  ·exact .inl ⟨j,by omega,h2⟩
  ·exact .inl ⟨i,by omega,h1⟩
 ·rcases h with ⟨j,h1,h2⟩|⟨h1,h2⟩
  ·by_cases ee:j=i
   ·subst ee;exact .inr ⟨h2,(nextOn_nth.1 h2).2.1⟩
   ·exact .inl ⟨j,by omega,h2⟩
  ·omega
theorem EP.end_iff {os:List Sz} {V:List Pt} {u v:Nat}:EP os V os.length 0 (u,v)↔∃ s ∈ os.map Sz.sg,nextOn V s u v:=by
 unfold EP
 constructor
 ·rintro (⟨j,h1,h2⟩|⟨_,h⟩)
  ·exact⟨_,List.mem_of_getElem? (sgAt_get h1),h2⟩
  ·simp at h
 ·rintro⟨s,h1,h2⟩
  obtain⟨j,hj⟩:=List.getElem?_of_mem h1;obtain⟨a,rfl⟩:=sgAt_some hj;exact .inl ⟨j,a,h2⟩
end Go.Hp
