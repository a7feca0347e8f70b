/- Texts for the walk of the law: GB GC D1 D2 D3 D4 D5 D6 D7 D8. -/
import Derived.Test.YtgaejkbkfoaaiaaGreatR05
import Derived.LoopN
set_option maxRecDepth 100000
set_option maxHeartbeats 16000000
set_option linter.unusedVariables false
set_option linter.unusedSimpArgs false
namespace Go.Hp
open Go Go.RowKit Go.Proofs.Tryz
def Sg.lo (s:Sg):Pt:=if s.b.lt s.a then s.b else s.a
def Sg.hi (s:Sg):Pt:=if s.b.lt s.a then s.a else s.b
theorem Sg.lo_le (s:Sg):s.lo.le s.hi:=by
 unfold Sg.lo Sg.hi
 split
 ·rename_i h;exact Pt.le_iff.2 (.inl h)
 ·rename_i h;exact Pt.not_lt.1 h
theorem Sg.a9s (s:Sg):(s.lo=s.a∧s.hi=s.b)∨(s.lo=s.b∧s.hi=s.a):=by
 unfold Sg.lo Sg.hi
 split
 ·exact .inr ⟨rfl,rfl⟩
 ·exact .inl ⟨rfl,rfl⟩
theorem aMQ {a b p:Pt}:cj ⟨a,b⟩ p↔cj ⟨b,a⟩ p:=by
 have h1:bT a b p = -bT b a p:=by unfold bT;grind
 have h2:bT a b p=0↔bT b a p=0:=by rw [h1];grind
 unfold cj sj;simp only [h2]
 grind
theorem aRD {s:Sg} {p:Pt}:cj s p↔cj ⟨s.lo,s.hi⟩ p:=by
 rcases s.a9s with ⟨h1,h2⟩|⟨h1,h2⟩
 ·rw [h1,h2]
 ·rw [h1,h2,← aMQ]
theorem aIS {a b p:Pt} (bV:a.lt b) (h0:bT a b p=0):cj ⟨a,b⟩ p↔a.le p∧p.le b:=by
 unfold bT at h0
 rcases bV with hx|⟨hx,hy⟩
 ·have hd:0<b.x - a.x:=by grind
  have mono:∀ {q:Rat},0≤q*(p.x - a.x)→0≤q*(b.x - p.x)→True:=fun _ _=>trivial
  constructor
  ·rintro⟨_,g1,g2,g3,g4⟩
   simp only at g1 g2 g3 g4
   constructor
   ·unfold Pt.le
    by_cases e:a.x=p.x
    ·right
     have:(b.x - a.x)*(p.y - a.y)=0:=by
      have e2:p.x - a.x=0:=by grind
      rw [e2] at h0;grind
     rcases Rat.mul_eq_zero.1 this with h|h <;> grind
    ·left;grind
   ·unfold Pt.le
    by_cases e:p.x=b.x
    ·right
     have:(b.x - a.x)*(p.y - b.y)=0:=by rw [e] at h0;grind
     rcases Rat.mul_eq_zero.1 this with h|h <;> grind
    ·left;grind
  ·rintro⟨g1,g2⟩
   have k1:a.x≤p.x:=by unfold Pt.le at g1;grind
   have k2:p.x≤b.x:=by unfold Pt.le at g2;grind
   refine⟨h0,by simp only;grind,by simp only;grind,?_,?_⟩
   ·simp only
    rcases sw a.y b.y with hy|hy
    ·have h1:0≤(b.y - a.y)*(p.x - a.x):=oH (by grind) (by grind)
     have h2:=tW (b:=p.y - a.y) hd (by grind)
     grind
    ·have h1:0≤(a.y - b.y)*(b.x - p.x):=oH (by grind) (by grind)
     have h2:=tW (b:=p.y - b.y) hd (by grind)
     grind
   ·simp only
    rcases sw a.y b.y with hy|hy
    ·have h1:0≤(b.y - a.y)*(b.x - p.x):=oH (by grind) (by grind)
     have h2:=tW (b:=b.y - p.y) hd (by grind)
     grind
    ·have h1:0≤(a.y - b.y)*(p.x - a.x):=oH (by grind) (by grind)
     have h2:=tW (b:=a.y - p.y) hd (by grind)
     grind
 ·have e:p.x=a.x:=by
   have:(b.y - a.y)*(p.x - a.x)=0:=by grind
   rcases Rat.mul_eq_zero.1 this with h|h <;> grind
  unfold cj sj Pt.le bT;simp only
  grind
theorem area_rot (a b c:Pt):bT a b c=bT b c a:=by unfold bT;grind
theorem aWz (a b c:Pt):bT a b c = -bT b a c:=by unfold bT;grind
theorem a8O (a b:Pt):bT a b a=0∧bT a b b=0:=by unfold bT;grind
theorem a8i {s:Sg} {p:Pt} (bJ:s.a≠s.b) (h0:bT s.a s.b p=0):cj s p↔s.lo.le p∧p.le s.hi:=by
 rw [aRD]
 rcases s.a9s with ⟨h1,h2⟩|⟨h1,h2⟩
 ·rw [h1,h2]
  refine aIS ?_ h0;have:=s.lo_le;rw [h1,h2] at this
  rcases Pt.le_iff.1 this with h|h
  ·exact h
  ·exact absurd h bJ
 ·rw [h1,h2]
  refine aIS ?_ (by rw [aWz,h0];rfl);have:=s.lo_le;rw [h1,h2] at this
  rcases Pt.le_iff.1 this with h|h
  ·exact h
  ·exact absurd h.symm bJ
theorem aLl {s:Sg}:cj s s.a:=a6Y (u:=0) (by decide) (by decide) (by grind) (by grind)
theorem aJ8 {s:Sg}:cj s s.b:=a6Y (u:=1) (by decide) (by decide) (by grind) (by grind)
def a4S (s t:Sg):List Pt :=
 let f:=if s.lo.lt t.lo then t.lo else s.lo
 let g:=if t.hi.lt s.hi then t.hi else s.hi
 if f=g then [f] else if g.lt f then [] else [f,g]
theorem aM8 {s t:Sg} (h1:bT t.a t.b s.a=0) (h2:bT t.a t.b s.b=0):fJ s t=0:=by rw [← a0b,h1,h2];grind
theorem aRJ {s t:Sg} (ht:t.a≠t.b) (h1:bT t.a t.b s.a=0) (h2:bT t.a t.b s.b=0):bT s.a s.b t.a=0∧bT s.a s.b t.b=0:=by
 unfold bT at *
 by_cases hx:t.a.x=t.b.x
 ·have hy:t.b.y - t.a.y≠0:=fun e=>ht (Pt.ext' hx (by grind))
  have e1:(t.b.y - t.a.y)*(s.a.x - t.a.x)=0:=by grind
  have e2:(t.b.y - t.a.y)*(s.b.x - t.a.x)=0:=by grind
  rcases Rat.mul_eq_zero.1 e1 with e1|e1
  ·exact absurd e1 hy
  rcases Rat.mul_eq_zero.1 e2 with e2|e2
  ·exact absurd e2 hy
  grind
 ·have hx':t.b.x - t.a.x≠0:=by grind
  have e3:(t.b.x - t.a.x)*((s.b.x - s.a.x)*(t.a.y - s.a.y) - (s.b.y - s.a.y)*(t.a.x - s.a.x))=0:=by grind
  have e4:(t.b.x - t.a.x)*((s.b.x - s.a.x)*(t.b.y - s.a.y) - (s.b.y - s.a.y)*(t.b.x - s.a.x))=0:=by grind
  rcases Rat.mul_eq_zero.1 e3 with e3|e3
  ·exact absurd e3 hx'
  rcases Rat.mul_eq_zero.1 e4 with e4|e4
  ·exact absurd e4 hx'
  exact⟨e3,e4⟩
theorem Sg.aLa {s t:Sg} (hs:s.a≠s.b) (ht:t.a≠t.b) (h1:bT t.a t.b s.a=0) (h2:bT t.a t.b s.b=0) {p:Pt} (hp:p=s.a∨p=s.b∨p=t.a∨p=t.b):bT s.a s.b p=0∧bT t.a t.b p=0:=by
 obtain⟨g1,g2⟩:=aRJ ht h1 h2
 rcases hp with rfl|rfl|rfl|rfl
 ·exact⟨(a8O _ _).1,h1⟩
 ·exact⟨(a8O _ _).2,h2⟩
 ·exact⟨g1,(a8O _ _).1⟩
 ·exact⟨g2,(a8O _ _).2⟩
theorem aQM {s t:Sg} (hs:s.a≠s.b) (ht:t.a≠t.b) (h1:bT t.a t.b s.a=0) (h2:bT t.a t.b s.b=0) (p:Pt):p ∈ a4S s t↔mi s t p:=by
 have hd:=aM8 h1 h2
 have ends:(p=s.lo∨p=s.hi∨p=t.lo∨p=t.hi)↔(p=s.a∨p=s.b∨p=t.a∨p=t.b):=by
  rcases s.a9s with ⟨e1,e2⟩|⟨e1,e2⟩ <;> rcases t.a9s with ⟨e3,e4⟩|⟨e3,e4⟩ <;> rw [e1,e2,e3,e4] <;> grind
 have key:mi s t p↔(p=s.lo∨p=s.hi∨p=t.lo∨p=t.hi)∧s.lo.le p∧p.le s.hi∧t.lo.le p∧p.le t.hi:=by
  unfold mi
  constructor
  ·rintro⟨g1,g2,g3⟩
   have g3:p=s.a∨p=s.b∨p=t.a∨p=t.b:=by
    rcases g3 with g3|g3
    ·exact absurd hd g3
    ·exact g3
   obtain⟨f1,f2⟩:=Sg.aLa hs ht h1 h2 g3;have k1:=(a8i hs f1).1 g1;have k2:=(a8i ht f2).1 g2;exact⟨ends.2 g3,k1.1,k1.2,k2.1,k2.2⟩
  ·rintro⟨g3,k1,k2,k3,k4⟩
   have g3:=ends.1 g3;obtain⟨f1,f2⟩:=Sg.aLa hs ht h1 h2 g3;exact⟨(a8i hs f1).2 ⟨k1,k2⟩,(a8i ht f2).2 ⟨k3,k4⟩,.inr g3⟩
 rw [key];clear key ends hd h1 h2;have bh:=s.lo_le;have tj:=t.lo_le;unfold a4S;simp only;generalize s.lo=a at *;generalize s.hi=b at *;generalize t.lo=c at *;generalize t.hi=d at *;obtain⟨f,hf⟩:∃ f,(if a.lt c then c else a)=f:=⟨_,rfl⟩;obtain⟨g,hg⟩:∃ g,(if d.lt b then d else b)=g:=⟨_,rfl⟩;rw [hf,hg]
 have f1:a.le f∧c.le f∧(f=a∨f=c):=by
  rw [← hf];split
  ·rename_i h;exact⟨Pt.le_iff.2 (.inl h),Pt.le_refl _,.inr rfl⟩
  ·rename_i h;exact⟨Pt.le_refl _,Pt.not_lt.1 h,.inl rfl⟩
 have g1:g.le b∧g.le d∧(g=b∨g=d):=by
  rw [← hg];split
  ·rename_i h;exact⟨Pt.le_iff.2 (.inl h),Pt.le_refl _,.inr rfl⟩
  ·rename_i h;exact⟨Pt.le_refl _,Pt.not_lt.1 h,.inl rfl⟩
 clear hf hg
 have aQQ:((p=a∨p=b∨p=c∨p=d)∧a.le p∧p.le b∧c.le p∧p.le d)↔(f.le g∧(p=f∨p=g)):=by
  constructor
  ·rintro⟨k,k1,k2,k3,k4⟩
   have kf:f.le p:=by rcases f1.2.2 with e|e <;> rw [e] <;> assumption
   have kg:p.le g:=by rcases g1.2.2 with e|e <;> rw [e] <;> assumption
   refine⟨Pt.le_trans kf kg,?_⟩
   rcases k with rfl|rfl|rfl|rfl
   ·exact .inl (Pt.le_antisymm f1.1 kf)
   ·exact .inr (Pt.le_antisymm kg g1.1)
   ·exact .inl (Pt.le_antisymm f1.2.1 kf)
   ·exact .inr (Pt.le_antisymm kg g1.2.1)
  ·rintro⟨k,k1⟩
   rcases k1 with rfl|rfl
   ·refine⟨?_,f1.1,Pt.le_trans k g1.1,f1.2.1,Pt.le_trans k g1.2.1⟩
    rcases f1.2.2 with e|e
    ·exact .inl e
    ·exact .inr (.inr (.inl e))
   ·refine⟨?_,Pt.le_trans f1.1 k,g1.1,Pt.le_trans f1.2.1 k,g1.2.1⟩
    rcases g1.2.2 with e|e
    ·exact .inr (.inl e)
    ·exact .inr (.inr (.inr e))
 rw [aQQ]
 by_cases e:f=g
 ·subst e
  simp [Pt.le_refl]
 ·rw [if_neg e]
  by_cases aW:g.lt f
  ·rw [if_pos aW]
   simp only [List.not_mem_nil,false_iff,not_and];intro h;exact absurd aW (Pt.not_lt.2 h)
  ·rw [if_neg aW]
   have:=Pt.not_lt.1 aW;simp [this]
def yc (s t:Sg):Prop:=max (min s.a.x s.b.x) (min t.a.x t.b.x)≤min (max s.a.x s.b.x) (max t.a.x t.b.x)∧max (min s.a.y s.b.y) (min t.a.y t.b.y)≤min (max s.a.y s.b.y) (max t.a.y t.b.y)
instance (s t:Sg):Decidable (yc s t):=by unfold yc;infer_instance
def rT (s t:Sg):List Pt :=
 if ¬ yc s t then [] else
 if bT t.a t.b s.a=0∧bT t.a t.b s.b=0 then a4S s t else
 if 0<bT t.a t.b s.a*bT t.a t.b s.b∨0<bT s.a s.b t.a*bT s.a s.b t.b then [] else [lz s t]
theorem aOq {s t:Sg} {p:Pt} (hs:cj s p) (ht:cj t p):yc s t:=by
 obtain⟨_,a1,a2,a3,a4⟩:=hs;obtain⟨_,b1,b2,b3,b4⟩:=ht;unfold yc
 constructor
 ·generalize min s.a.x s.b.x=x1 at *
  generalize max s.a.x s.b.x=x2 at *;generalize min t.a.x t.b.x=x3 at *;generalize max t.a.x t.b.x=x4 at *
  grind
 ·generalize min s.a.y s.b.y=x1 at *
  generalize max s.a.y s.b.y=x2 at *;generalize min t.a.y t.b.y=x3 at *;generalize max t.a.y t.b.y=x4 at *
  grind
theorem aGq {s t:Sg} (hs:s.a≠s.b) (ht:t.a≠t.b) (p:Pt):p ∈ rT s t↔mi s t p:=by
 unfold rT
 by_cases hb:yc s t
 ·rw [if_neg (by simpa using hb)]
  by_cases hf:bT t.a t.b s.a=0∧bT t.a t.b s.b=0
  ·rw [if_pos hf];exact aQM hs ht hf.1 hf.2 p
  ·rw [if_neg hf]
   have e:=a0b s t
   by_cases hd:fJ s t=0
   ·have heq:bT t.a t.b s.a=bT t.a t.b s.b:=by grind
    have bJ:bT t.a t.b s.b≠0:=fun h=>hf ⟨by rw [heq];exact h,h⟩
    rw [if_pos (by
     left
     rw [heq]
     rcases sw 0 (bT t.a t.b s.b) with h|h
     ·exact a0f (by grind) (by grind)
     ·have:=a0f (a:=-bT t.a t.b s.b) (b:=-bT t.a t.b s.b) (by grind) (by grind);grind)]
    constructor
    ·intro h;cases h
    ·rintro⟨g1,g2,g3⟩
     exfalso
     obtain⟨u,_,_,ax,ay⟩:=a9M hs g1;have k:=g2.1;apply bJ;unfold bT fJ at *;rw [ax,ay] at k
     grind
   ·have hc:=aS2 hs ht hd
    by_cases nG:0<bT t.a t.b s.a*bT t.a t.b s.b∨0<bT s.a s.b t.a*bT s.a s.b t.b
    ·rw [if_pos nG]
     constructor
     ·intro h;cases h
     ·rintro⟨g1,g2,g3⟩
      have e3:=aFq hd g1 g2;have:=hc.2 ⟨e3 ▸ g1,e3 ▸ g2⟩
      rcases nG with h|h
      ·exact absurd h this.1
      ·exact absurd h this.2
    ·rw [if_neg nG]
     have h2:=hc.1 ⟨fun h=>nG (.inl h),fun h=>nG (.inr h)⟩;rw [List.mem_singleton]
     constructor
     ·rintro rfl;exact⟨h2.1,h2.2,.inl hd⟩
     ·rintro⟨g1,g2,g3⟩;exact aFq hd g1 g2
 ·rw [if_pos hb]
  constructor
  ·intro h;cases h
  ·rintro⟨g1,g2,g3⟩;exact absurd (aOq g1 g2) hb
def a5B (s t:Sg):List Pt :=
 if fJ s t≠0 then (if cj s (lz s t)∧cj t (lz s t) then [lz s t] else [])
 else [s.a,s.b,t.a,t.b].filter fun p=>decide (cj s p∧cj t p)
theorem a6g (s t:Sg) (p:Pt):p ∈ a5B s t↔mi s t p:=by
 unfold a5B mi
 by_cases hd:fJ s t=0
 ·rw [if_neg (by simpa using hd)]
  simp only [List.mem_filter,List.mem_cons,List.not_mem_nil,or_false,decide_eq_true_eq]
  constructor
  ·rintro⟨h,g1,g2⟩;exact⟨g1,g2,.inr h⟩
  ·rintro⟨g1,g2,h⟩
   rcases h with h|h
   ·exact absurd hd h
   ·exact⟨h,g1,g2⟩
 ·rw [if_pos hd]
  constructor
  ·intro h
   split at h
   ·rename_i h2
    rw [List.mem_singleton] at h;subst h;exact⟨h2.1,h2.2,.inl hd⟩
   ·cases h
  ·rintro⟨g1,g2,g3⟩
   have:=aFq hd g1 g2;rw [← this,if_pos ⟨g1,g2⟩,List.mem_singleton]
def mB (ss:List Sg) (ps:List Pt) (p:Pt):Prop:=p ∈ ps∨(∃ s ∈ ss,p=s.a∨p=s.b)∨∃ i j:Nat,∃ s t,i≠j∧ss[i]? = some s∧ss[j]? = some t∧mi s t p
def vt (ss:List Sg) (ps:List Pt) (i:Nat) (s:Sg) (p:Pt):Prop:=p=s.a∨p=s.b∨(∃ j t,j≠i∧ss[j]? = some t∧mi s t p)∨(p ∈ ps∧cj s p)
theorem aLZ {r s t:Sg} (hr:r.a≠r.b) (h1:fJ r s=0) (h2:fJ r t=0):fJ s t=0:=by
 unfold fJ at *
 by_cases hx:r.a.x=r.b.x
 ·have hy:r.b.y - r.a.y≠0:=fun e=>hr (Pt.ext' hx (by grind))
  have:(r.b.y - r.a.y)*((s.b.x - s.a.x)*(t.b.y - t.a.y) - (s.b.y - s.a.y)*(t.b.x - t.a.x))=0:=by grind
  rcases Rat.mul_eq_zero.1 this with h|h
  ·exact absurd h hy
  ·exact h
 ·have hx':r.b.x - r.a.x≠0:=by grind
  have:(r.b.x - r.a.x)*((s.b.x - s.a.x)*(t.b.y - t.a.y) - (s.b.y - s.a.y)*(t.b.x - t.a.x))=0:=by grind
  rcases Rat.mul_eq_zero.1 this with h|h
  ·exact absurd h hx'
  ·exact h
theorem aVh {ss:List Sg} {ps:List Pt} {i:Nat} {s:Sg} (hi:ss[i]? = some s) (bJ:∀ s ∈ ss,s.a≠s.b) (p:Pt):vt ss ps i s p↔mB ss ps p∧cj s p:=by
 have hm:s ∈ ss:=bW hi
 constructor
 ·rintro (rfl|rfl|⟨j,t,hj,ht,hc⟩|⟨h1,h2⟩)
  ·exact⟨.inr (.inl ⟨s,hm,.inl rfl⟩),aLl⟩
  ·exact⟨.inr (.inl ⟨s,hm,.inr rfl⟩),aJ8⟩
  ·exact⟨.inr (.inr ⟨i,j,s,t,hj.symm,hi,ht,hc⟩),hc.1⟩
  ·exact⟨.inl h1,h2⟩
 ·rintro⟨hv,ho⟩
  have a6Q:∀ (j:Nat) (t:Sg),ss[j]? = some t→(p=t.a∨p=t.b)→vt ss ps i s p:=by
   intro j t ht he
   by_cases hj:j=i
   ·subst hj
    rw [hi] at ht;cases ht
    rcases he with e|e
    ·exact .inl e
    ·exact .inr (.inl e)
   ·refine .inr (.inr (.inl ⟨j,t,hj,ht,ho,?_,.inr (.inr (.inr he))⟩))
    rcases he with rfl|rfl
    ·exact aLl
    ·exact aJ8
  rcases hv with h|⟨t,ht,he⟩|⟨j,k,t,u,gM,hj,hk,hc⟩
  ·exact .inr (.inr (.inr ⟨h,ho⟩))
  ·obtain⟨j,hj⟩:=List.mem_iff_getElem?.1 ht
   exact a6Q j t hj he
  ·obtain⟨c1,c2,c3⟩:=hc
   by_cases lL:j=i
   ·subst lL
    rw [hi] at hj;cases hj;exact .inr (.inr (.inl ⟨k,u,gM.symm,hk,c1,c2,c3⟩))
   by_cases zL:k=i
   ·subst zL
    rw [hi] at hk;cases hk;exact .inr (.inr (.inl ⟨j,t,lL,hj,aWH ⟨c1,c2,c3⟩⟩))
   by_cases d1:fJ s t=0
   ·by_cases d2:fJ s u=0
    ·have d3:=aLZ (bJ s hm) d1 d2
     rcases c3 with c3|c3|c3|c3|c3
     ·exact absurd d3 c3
     ·exact a6Q j t hj (.inl c3)
     ·exact a6Q j t hj (.inr c3)
     ·exact a6Q k u hk (.inl c3)
     ·exact a6Q k u hk (.inr c3)
    ·exact .inr (.inr (.inl ⟨k,u,zL,hk,ho,c2,.inl d2⟩))
   ·exact .inr (.inr (.inl ⟨j,t,lL,hj,ho,c1,.inl d1⟩))
theorem a5G {α:Type} {lt:α→α→Prop} (irr:∀ x,¬ lt x x) (tr:∀ {x y z},lt x y→lt y z→lt x z):∀ {l m:List α},l.Pairwise lt→m.Pairwise lt→(∀ x,x ∈ l↔x ∈ m)→l=m
 | [],[],_,_,_=>rfl
 | [],b::m,_,_,h=>by have:=(h b).2 (by simp);cases this
 | a::l,[],_,_,h=>by have:=(h a).1 (by simp);cases this
 | a::l,b::m,hl,hm,h=>by
  rw [List.pairwise_cons] at hl hm
  have e:a=b:=by
   have h1:=(h a).1 (by simp);have h2:=(h b).2 (by simp)
   rcases List.mem_cons.1 h1 with e|h1
   ·exact e
   rcases List.mem_cons.1 h2 with e|h2
   ·exact e.symm
   exact absurd (tr (hm.1 _ h1) (hl.1 _ h2)) (irr _)
  subst e
  congr 1
  refine a5G irr tr hl.2 hm.2 fun x=>⟨fun hx=>?_,fun hx=>?_⟩
  ·rcases List.mem_cons.1 ((h x).1 (by simp [hx])) with e|h1
   ·subst e;exact absurd (hl.1 _ hx) (irr _)
   ·exact h1
  ·rcases List.mem_cons.1 ((h x).2 (by simp [hx])) with e|h1
   ·subst e;exact absurd (hm.1 _ hx) (irr _)
   ·exact h1
def mY (x y:Nat × Nat):Prop:=x.1<y.1∨(x.1=y.1∧x.2<y.2)
theorem a5w (x:Nat × Nat):¬ mY x x:=by unfold mY;omega
theorem aGW {x y z:Nat × Nat}:mY x y→mY y z→mY x z:=by unfold mY;omega
def kX (V:List Pt) (s:Sg) (u v:Nat):Prop:=u<v∧∃ p q,V[u]? = some p∧V[v]? = some q∧cj s p∧cj s q∧∀ w r,u<w→w<v→V[w]? = some r→¬ cj s r
structure qG (ss:List Sg) (ps:List Pt) (V:List Pt) (E:List (Nat × Nat)):Prop where
 sv:V.Pairwise Pt.lt
 mv:∀ p,p ∈ V↔mB ss ps p
 se:E.Pairwise mY
 me:∀ u v,(u,v) ∈ E↔∃ s ∈ ss,kX V s u v
theorem qG.unique {ss:List Sg} {ps V V':List Pt} {E E':List (Nat × Nat)} (h:qG ss ps V E) (h':qG ss ps V' E'):V=V'∧E=E':=by
 have e:V=V':=a5G Pt.lt_irrefl Pt.lt_trans h.sv h'.sv fun p=>by rw [h.mv,h'.mv]
 subst e;exact⟨rfl,a5G a5w aGW h.se h'.se fun ⟨u,v⟩=>by rw [h.me,h'.me]⟩
theorem qG.lt {ss:List Sg} {ps V:List Pt} {E:List (Nat × Nat)} (h:qG ss ps V E) {u v:Nat} (he:(u,v) ∈ E):u<v∧v<V.length:=by
 obtain⟨s,_,h1,p,q,h2,h3,_⟩:=(h.me u v).1 he;exact⟨h1,(List.getElem?_eq_some_iff.1 h3).1⟩
theorem a6X {V l:List Pt} {s:Sg} (hV:V.Pairwise Pt.lt) (hl:l.Pairwise Pt.lt) (hm:∀ p,p ∈ l↔p ∈ V∧cj s p) (u v:Nat) :
 kX V s u v↔∃ k p q,l[k]? = some p∧l[k+1]? = some q∧V[u]? = some p∧V[v]? = some q:=by
 have aCp:∀ {i j:Nat} {p q:Pt},V[i]? = some p→V[j]? = some q→p.lt q→i<j:=by
  intro i j p q hi hj aW
  rcases Nat.lt_trichotomy i j with h|h|h
  ·exact h
  ·subst h;rw [hi] at hj;cases hj;exact absurd aW (Pt.lt_irrefl _)
  ·obtain⟨a1,a2⟩:=List.getElem?_eq_some_iff.1 hi
   obtain⟨b1,b2⟩:=List.getElem?_eq_some_iff.1 hj;have:=List.pairwise_iff_getElem.1 hV j i b1 a1 h;rw [a2,b2] at this;exact absurd this (Pt.lt_asymm aW)
 have ltV:∀ {i j:Nat} {p q:Pt},V[i]? = some p→V[j]? = some q→i<j→p.lt q:=by
  intro i j p q hi hj aW;obtain⟨a1,a2⟩:=List.getElem?_eq_some_iff.1 hi;obtain⟨b1,b2⟩:=List.getElem?_eq_some_iff.1 hj;have:=List.pairwise_iff_getElem.1 hV i j a1 b1 aW;rw [a2,b2] at this;exact this
 have ltl:∀ {i j:Nat} {p q:Pt},l[i]? = some p→l[j]? = some q→i<j→p.lt q:=by
  intro i j p q hi hj aW;obtain⟨a1,a2⟩:=List.getElem?_eq_some_iff.1 hi;obtain⟨b1,b2⟩:=List.getElem?_eq_some_iff.1 hj;have:=List.pairwise_iff_getElem.1 hl i j a1 b1 aW;rw [a2,b2] at this;exact this
 have aBq:∀ {i j:Nat} {p q:Pt},l[i]? = some p→l[j]? = some q→p.lt q→i<j:=by
  intro i j p q hi hj aW
  rcases Nat.lt_trichotomy i j with h|h|h
  ·exact h
  ·subst h;rw [hi] at hj;cases hj;exact absurd aW (Pt.lt_irrefl _)
  ·exact absurd (ltl hj hi h) (Pt.lt_asymm aW)
 constructor
 ·rintro⟨kZ,p,q,hp,hq,op,oq,lD⟩
  obtain⟨k,hk⟩:=List.mem_iff_getElem?.1 ((hm p).2 ⟨bW hp,op⟩);obtain⟨j,hj⟩:=List.mem_iff_getElem?.1 ((hm q).2 ⟨bW hq,oq⟩);have gH:=ltV hp hq kZ;have hkj:=aBq hk hj gH
  have aQO:j=k+1:=by
   rcases Nat.lt_or_ge (k+1) j with h|h
   ·exfalso
    have gX:=(List.getElem?_eq_some_iff.1 hj).1;obtain⟨r,hr⟩:∃ r,l[k+1]? = some r:=⟨_,List.getElem?_eq_getElem (by omega)⟩;obtain⟨hrV,tV⟩:=(hm r).1 (bW hr);obtain⟨w,hw⟩:=List.mem_iff_getElem?.1 hrV;exact lD w r (aCp hp hw (ltl hk hr (by omega))) (aCp hw hq (ltl hr hj h)) hw tV
   ·omega
  subst aQO;exact⟨k,p,q,hk,hj,hp,hq⟩
 ·rintro⟨k,p,q,hk,fm,hp,hq⟩
  have gH:=ltl hk fm (by omega);obtain⟨_,op⟩:=(hm p).1 (bW hk);obtain⟨_,oq⟩:=(hm q).1 (bW fm);refine⟨aCp hp hq gH,p,q,hp,hq,op,oq,fun w r h1 h2 hw hr=>?_⟩;obtain⟨j,hj⟩:=List.mem_iff_getElem?.1 ((hm r).2 ⟨bW hw,hr⟩);have g1:=aBq hk hj (ltV hp hw h1);have g2:=aBq hj fm (ltV hw hq h2);omega
structure PR where
 x:FR
 y:FR
structure dh (w:World) (S:Nat→Prop) (p:PR) (q:Pt):Prop where
 x:eN w S p.x q.x
 y:eN w S p.y q.y
theorem dh.grow {w w':World} {S S':Nat→Prop} {p:PR} {q:Pt} (h:dh w S p q) (hp:Pure w S w' S'):dh w' S' p q:=⟨h.x.grow hp,h.y.grow hp⟩
theorem dh.at {w0 w wr:World} {H:List Chunk} {F S:Nat→Prop} {p:PR} {q:Pt} (h:dh wr S p q) (hS:aA w0 w (.aH F wr::H)) (hF:∀ k,S k→F k):dh w S p q:=⟨h.x.at hS hF,h.y.at hS hF⟩
theorem dh.weaken {w:World} {S T:Nat→Prop} {p:PR} {q:Pt} (h:dh w S p q) (iU:∀ k,S k→T k):dh w T p q:=⟨h.x.weaken iU,h.y.weaken iU⟩
theorem dh.move {w wr:World} {S:Nat→Prop} {p:PR} {q:Pt} (h:dh wr S p q) (hk:∀ k,S k→w.heap[k]? = wr.heap[k]?):dh w S p q:=⟨h.x.move hk,h.y.move hk⟩
theorem dh.cast {w:World} {S:Nat→Prop} {p:PR} {q q':Pt} (h:dh w S p q) (e:q=q'):dh w S p q':=e ▸ h
def a8a (w:World) (S:Nat→Prop) (q:Rat) (e:Ending) (w':World):Prop:=∃ (z:FR) (S':Nat→Prop),e=.returned (.agg #[.bool z.num.neg,.slice z.num.ad z.num.n z.num.cap,.bool z.less.neg,.slice z.less.ad z.less.n z.less.cap])∧Pure w S w' S'∧eN w' S' z q
def aIr (w:World) (S:Nat→Prop) (q:Pt) (e:Ending) (w':World):Prop:=∃ (z:PR) (S':Nat→Prop),e=.returned (.agg #[.bool z.x.num.neg,.slice z.x.num.ad z.x.num.n z.x.num.cap,.bool z.x.less.neg,.slice z.x.less.ad z.x.less.n z.x.less.cap,.bool z.y.num.neg,.slice z.y.num.ad z.y.num.n z.y.num.cap,.bool z.y.less.neg,.slice z.y.less.ad z.y.less.n z.y.less.cap])∧Pure w S w' S'∧dh w' S' z q
def e8 (a b:Rat):Int:=if a<b then -1 else if b<a then 1 else 0
def mW (p q:Pt):Int:=if e8 p.x q.x≠0 then e8 p.x q.x else e8 p.y q.y
theorem aDM (a b:Rat):-1≤e8 a b∧e8 a b≤1:=by unfold e8;split <;> (try split) <;> omega
theorem a6B {a b:Rat}:e8 a b≤0↔a≤b:=by unfold e8;split <;> (try split) <;> grind
theorem a6m {a b:Rat}:e8 a b=0↔a=b:=by unfold e8;split <;> (try split) <;> grind
theorem aP9 (p q:Pt):-1≤mW p q∧mW p q≤1:=by unfold mW;split <;> exact aDM _ _
theorem a3s {p q:Pt}:mW p q<0↔p.lt q:=by
 unfold mW Pt.lt e8;grind
theorem aDd {p q:Pt}:mW p q=0↔p=q:=by
 constructor
 ·intro h
  unfold mW at h
  split at h
  ·rename_i h1;exact absurd h h1
  ·rename_i h1
   exact Pt.ext' (a6m.1 (by simpa using h1)) (a6m.1 h)
 ·rintro rfl;unfold mW e8;grind
theorem a8x (a b:Int):Instr.fill (fun i=>some (i*1,1)) ((Array.range (2*1)).map ((Value.int .i64 0).cells[· % (Value.int .i64 0).cells.size]!)) [(0,.int .i64 a),(1,.int .i64 b)]=some #[.int .i64 a,.int .i64 b]:=by
 have h:((Array.range (2*1)).map ((Value.int .i64 0).cells[· % (Value.int .i64 0).cells.size]!))=#[.int .i64 0,.int .i64 0]:=by
  apply Array.ext';simp [Array.range,List.ofFn_succ,Value.cells]
 rw [h];simp [Instr.fill,Value.cells]
theorem aVY (a b:Rat):ub a.num a.den b.num b.den=e8 a b:=by
 unfold ub cR e8;simp only [Rat.lt_iff]
theorem vM (x y:FR) (a b:Rat) (w:World) (S:Nat→Prop) (hx:eN w S x a) (hy:eN w S y b) (hL:aP w S) :
 Calls prog 102 #[.agg #[.bool x.num.neg,.slice x.num.ad x.num.n x.num.cap,.bool x.less.neg,.slice x.less.ad x.less.n x.less.cap],.agg #[.bool y.num.neg,.slice y.num.ad y.num.n y.num.cap,.bool y.less.neg,.slice y.less.ad y.less.n y.less.cap]] w fun e w'=>e=.returned (.int .i64 (e8 a b))∧Pure w S w' S:=by
 rw [← aVY];exact aQ3 x y a b w S hx hy hL
theorem x8 (n:Int) (w:World) (S:Nat→Prop) (hn:bQ n) (hL:aP w S) :
 Calls prog 29 #[.int .i64 n] w (a8a w S (n:Rat)):=by
 obtain⟨hS,aC,bC,bD⟩:=eR hL
 go_enter func29,ntmps29
 go_wp2_with (with_reducible refine bH hS zeroValue53 fun br fu hS=>?_)
 refine (aBs n 1 _ S hn (by unfold bQ;omega) (aP.at hS aC) (by omega)).mono ?_;rintro e w' ⟨z,S2,rfl,hq,hz⟩;replace hS:=hS.aj aC bC bD hq;obtain⟨F1,aG,-,bB,av,hS⟩:=hS;simp only [iW]
 go_wp2_with (with_reducible first|refine bH hS zeroValue53 fun bx cu hS=>?_|refine aJ 2 hS sizeOf53 fun _ hS=>?_|refine aJ 1 hS sizeOf53 fun _ hS=>?_|refine bA 2 hS isAgg53 sizeOf53 ?_)
 exact fE 1 hS rfl rfl rfl isAgg53 sizeOf53 rfl rfl ⟨z,S2,rfl,bB.step hS av aG,(hz.at hS aG).cast (by simp [Rat.divInt,Rat.mkRat_one])⟩
theorem o6 (x y:Int) (w:World) (S:Nat→Prop) (hx:bQ x) (hy:bQ y) (hL:aP w S) :
 Calls prog 10 #[.agg #[.int .i64 x,.int .i64 y]] w (aIr w S ⟨(x:Rat),(y:Rat)⟩):=by
 obtain⟨hS,aC,bC,bD⟩:=eR hL
 go_enter func10,ntmps10
 go_wp2_with (with_reducible first|refine cI hS fun bx cu hS=>?_|refine bH hS zeroValue55 fun br fu hS=>?_)
 refine dB [.p 0,.r 1,.p 3,.r 4,.e 2,.e 5,.p 6,.m 7] [7] hS fun w1 hS=>?_
 have hC:=hS
 repeat (with_reducible first|refine cZ 1 isAgg3 ?_|refine bU ?_)
 refine aZ ?_
 go_wp2_with (fail)
 refine (x8 x _ S hx (aP.at hS aC)).mono ?_;rintro e w' ⟨a,S1,rfl,hq,ha⟩;simp only [];go_step;have hC:=hC.below hq.below hq.drawn;replace hS:=hS.aj aC bC bD hq;obtain⟨F1,aG,-,bB,av,hS⟩:=hS;refine aX hC ?_;refine aM ?_;refine aZ ?_
 go_wp2_with (fail)
 refine (x8 y _ S1 hy (aP.at hS aG)).mono ?_;rintro e w' ⟨b,S2,rfl,aR,hb⟩;simp only [];go_step;have ha:=(ha.at hS aG).grow aR;have hC:=hC.below aR.below aR.drawn;replace hS:=hS.aj aG av bB aR;obtain⟨F2,aQ,-,bR,bP,hS⟩:=hS;refine aX hC ?_;refine aM ?_;refine dC ?_
 (with_reducible refine aJ 2 hS sizeOf55 fun _ hS=>?_)
 refine dD ?_;refine aM ?_;refine bE ?_;go_wp2;exact fE 2 hS rfl rfl rfl isAgg55 sizeOf55 rfl rfl ⟨⟨a,b⟩,S2,rfl,bR.step hS bP aQ,ha.at hS aQ,hb.at hS aQ⟩
theorem aG6 (b:Nat) (x y z:Int) (hz:(if x≠0 then x else y)=z) (w:World) (S:Nat→Prop) (hv:bN w S 1 (.slice (some ⟨b,0,none⟩) 2 2) 2 [.int .i64 x,.int .i64 y]) :
 Calls prog 55 #[.slice (some ⟨b,0,none⟩) 2 2] w fun e w'=>e=.returned (.int .i64 z)∧w=w':=by
 have hS:=aA.start w;have dS:=hv.bj
 go_enter func55,ntmps55
 go_wp2
 go_loopw [8] (fun v wr=>∃ k:Nat,k≤2∧v=.int .i64 (k:Int)∧wr=w∧(0<k→x=0)∧(1<k→y=0)) (fun v _=>2 - (intOf v).toNat)
 case atStart=>exact⟨0,by omega,rfl,rfl,by omega,by omega⟩
 case round =>
  obtain⟨k,hk,rfl,rfl,h0,h1⟩:=hrel;have xP:k=0∨k=1∨k=2:=by omega
  rcases xP with rfl|rfl|rfl
  ·clear h0 h1
   by_cases hx:x=0
   ·subst hx
    go_wp2_with (first|((with_reducible refine du (T:=22) ?_);refine ck rfl (lI (T:=22) underlying22 sizeOf3 rfl rfl dS (by omega) (by omega) (by omega) (fun bq oq bO=>?_));replace bO:dM _ _ ⟨bq,oq,none⟩ [.int .i64 0]:=bO;simp only [aD])|(with_reducible refine fP hS isAgg3 ?_))
    go_roundw
    case rel=>exact⟨1,by omega,rfl,by simp,by simp,by simp⟩
    case measure=>simp [intOf]
   ·have hxf:(x == 0)=false:=by simpa using hx
    have hq:=Hd (show x=z by rw [← hz,if_pos hx]);clear hz;clear hx
    go_wp2_with (first|((with_reducible refine du (T:=22) ?_);refine ck rfl (lI (T:=22) underlying22 sizeOf3 rfl rfl dS (by omega) (by omega) (by omega) (fun bq oq bO=>?_));replace bO:dM _ _ ⟨bq,oq,none⟩ [.int .i64 x]:=bO;simp only [aD])|(with_reducible refine fP hS isAgg3 ?_))
    go_ret;exact⟨jH hq.out,rfl⟩
  ·obtain rfl:=h0 (by omega)
   clear h0 h1
   by_cases hx:y=0
   ·subst hx
    go_wp2_with (first|((with_reducible refine du (T:=22) ?_);refine ck rfl (lI (T:=22) underlying22 sizeOf3 rfl rfl dS (by omega) (by omega) (by omega) (fun bq oq bO=>?_));replace bO:dM _ _ ⟨bq,oq,none⟩ [.int .i64 0]:=bO;simp only [aD])|(with_reducible refine fP hS isAgg3 ?_))
    go_roundw
    case rel=>exact⟨2,by omega,rfl,by simp,by simp,by simp⟩
    case measure=>simp [intOf]
   ·have hxf:(y == 0)=false:=by simpa using hx
    have hq:=Hd (show y=z by rw [← hz];simp);clear hz;clear hx
    go_wp2_with (first|((with_reducible refine du (T:=22) ?_);refine ck rfl (lI (T:=22) underlying22 sizeOf3 rfl rfl dS (by omega) (by omega) (by omega) (fun bq oq bO=>?_));replace bO:dM _ _ ⟨bq,oq,none⟩ [.int .i64 y]:=bO;simp only [aD])|(with_reducible refine fP hS isAgg3 ?_))
    go_ret;exact⟨jH hq.out,rfl⟩
  ·obtain rfl:=h0 (by omega)
   obtain rfl:=h1 (by omega);go_wp2;go_ret;exact⟨jH (by rw [← hz];rfl),rfl⟩
theorem a3H (p q:PR) (a b:Pt) (w:World) (S:Nat→Prop) (hp:dh w S p a) (hq:dh w S q b) (hL:aP w S) :
 Calls prog 46 #[.agg #[.bool p.x.num.neg,.slice p.x.num.ad p.x.num.n p.x.num.cap,.bool p.x.less.neg,.slice p.x.less.ad p.x.less.n p.x.less.cap,.bool p.y.num.neg,.slice p.y.num.ad p.y.num.n p.y.num.cap,.bool p.y.less.neg,.slice p.y.less.ad p.y.less.n p.y.less.cap],.agg #[.bool q.x.num.neg,.slice q.x.num.ad q.x.num.n q.x.num.cap,.bool q.x.less.neg,.slice q.x.less.ad q.x.less.n q.x.less.cap,.bool q.y.num.neg,.slice q.y.num.ad q.y.num.n q.y.num.cap,.bool q.y.less.neg,.slice q.y.less.ad q.y.less.n q.y.less.cap]] w fun e w'=>e=.returned (.int .i64 (mW a b))∧Pure w S w' S:=by
 obtain⟨hS,aC,bC,bD⟩:=eR hL
 go_enter func46,ntmps46
 go_wp2_with (with_reducible refine cI hS fun bx cu hS=>?_)
 refine dB [.p 0,.r 1,.p 2,.r 3,.p 5,.r 6,.p 7,.r 8,.e 4,.e 9,.e 10,.e 11,.p 12] [] hS fun w1 hS=>?_
 have hC:=hS
 repeat (with_reducible first|refine tf 1 isAgg53 sizeOf53 ?_|refine tf 2 isAgg53 sizeOf53 ?_|refine bU ?_)
 refine aZ ?_
 go_wp2_with (fail)
 refine (vM p.x q.x a.x b.x _ S (hp.x.at hS aC) (hq.x.at hS aC) (aP.at hS aC)).mono ?_;rintro e w' ⟨rfl,az⟩;simp only [];go_step;have hp:=(hp.at hS aC).grow az;have hq:=(hq.at hS aC).grow az;have hC:=hC.below az.below az.drawn;replace hS:=hS.aj aC bC bD az;obtain⟨F1,aG,-,bB,av,hS⟩:=hS;refine aX hC ?_;refine aM ?_;refine aZ ?_
 go_wp2_with (fail)
 refine (vM p.y q.y a.y b.y _ S (hp.y.at hS aG) (hq.y.at hS aG) (aP.at hS aG)).mono ?_;rintro e w' ⟨rfl,aR⟩;simp only [];go_step;have hC:=hC.below aR.below aR.drawn;replace hS:=hS.aj aG av bB aR;obtain⟨F2,aQ,-,bR,bP,hS⟩:=hS;refine aX hC ?_;refine aM ?_;refine aZ ?_
 ((with_reducible refine dV (T:=22) ?_);refine nc (k:=1) (z:=.int .i64 0) (len:=2) hS underlying22 sizeOf3 zeroValue3 (by decide) (by decide) (a8x _ _) (fun bl fX hS=>?_);simp only [aD];simp only [aK] at hS)
 refine aX ((hS.base bP bR).sub (by simp)) ?_;refine aM ?_;refine aZ ?_
 go_wp2_with (fail)
 refine (aG6 bl _ _ (mW a b) rfl _ _ (bN.ve (k:=1) (n:=2) hS (bW (i:=3) rfl) rfl (by decide))).mono ?_;rintro e w' ⟨rfl,rfl⟩;simp only [];go_step;refine aX ((hS.base bP bR).sub (by simp)) ?_;refine aM ?_;refine bE ?_;go_wp2;go_ret;exact⟨rfl,bR.step hS bP aQ⟩
theorem aCH (x y z:FR) (a b c:Rat) (w:World) (S:Nat→Prop) (hx:eN w S x a) (hy:eN w S y b) (hz:eN w S z c) (hL:aP w S) :
 Calls prog 147 #[.agg #[.bool x.num.neg,.slice x.num.ad x.num.n x.num.cap,.bool x.less.neg,.slice x.less.ad x.less.n x.less.cap],.agg #[.bool y.num.neg,.slice y.num.ad y.num.n y.num.cap,.bool y.less.neg,.slice y.less.ad y.less.n y.less.cap],.agg #[.bool z.num.neg,.slice z.num.ad z.num.n z.num.cap,.bool z.less.neg,.slice z.less.ad z.less.n z.less.cap],.func (.func 102) #[] #[]] w fun e w'=>e=.returned (.bool (decide (a≤b∧b≤c)))∧Pure w S w' S:=by
 obtain⟨hS,aC,bC,bD⟩:=eR hL;obtain⟨c1,ef⟩:∃ c1,e8 a b=c1:=⟨_,rfl⟩;obtain⟨c2,iu⟩:∃ c2,e8 b c=c2:=⟨_,rfl⟩;have h1:c1≤0↔a≤b:=by rw [← ef];exact a6B
 have h2:c2≤0↔b≤c:=by rw [← iu];exact a6B
 have hq:decide (a≤b∧b≤c)=(decide (c1≤0) && decide (c2≤0)):=by simp [h1,h2]
 rw [hq];clear hq h1 h2;replace ef:=Hd ef;replace iu:=Hd iu
 by_cases h1:c1≤0
 ·have sI:decide (c1≤0)=true:=by simpa using h1
  rw [sI]
  go_enter func147,ntmps147
  go_wp2_with (with_reducible first|refine cI hS fun bx cu hS=>?_|refine bA 1 hS isAgg53 sizeOf53 ?_|refine bA 2 hS isAgg53 sizeOf53 ?_)
  refine (vM x y a b _ S (hx.at hS aC) (hy.at hS aC) (aP.at hS aC)).mono ?_;rintro e w' ⟨rfl,az⟩;rw [ef.out];have hy:=(hy.at hS aC).grow az;have hz:=(hz.at hS aC).grow az;replace hS:=hS.aj aC bC bD az;obtain⟨F1,aG,-,bB,av,hS⟩:=hS;simp only []
  go_wp2_with (with_reducible first|refine bA 2 hS isAgg53 sizeOf53 ?_|refine bA 3 hS isAgg53 sizeOf53 ?_)
  refine (vM y z b c _ S (hy.at hS aG) (hz.at hS aG) (aP.at hS aG)).mono ?_;rintro e w' ⟨rfl,aR⟩;rw [iu.out];replace hS:=hS.aj aG av bB aR;obtain⟨F2,aQ,-,bR,bP,hS⟩:=hS;simp only [];go_wp2;go_ret;exact⟨by simp,bR.step hS bP aQ⟩
 ·have sI:decide (c1≤0)=false:=by simpa using h1
  rw [sI]
  go_enter func147,ntmps147
  go_wp2_with (with_reducible first|refine cI hS fun bx cu hS=>?_|refine bA 1 hS isAgg53 sizeOf53 ?_|refine bA 2 hS isAgg53 sizeOf53 ?_)
  refine (vM x y a b _ S (hx.at hS aC) (hy.at hS aC) (aP.at hS aC)).mono ?_;rintro e w' ⟨rfl,az⟩;rw [ef.out];replace hS:=hS.aj aC bC bD az;obtain⟨F1,aG,-,bB,av,hS⟩:=hS;simp only [];go_wp2;go_ret;exact⟨by simp,bB.step hS av aG⟩
theorem aIg (x y z:Int) (w:World):Calls prog 139 #[.int .i64 x,.int .i64 y,.int .i64 z,.func (.func 56) #[] #[]] w fun e w'=>e=.returned (.bool (decide (x≤y∧y≤z)))∧w=w':=by
 obtain⟨c1,ef⟩:∃ c1,cR x y=c1:=⟨_,rfl⟩;obtain⟨c2,iu⟩:∃ c2,cR y z=c2:=⟨_,rfl⟩;have h1:c1≤0↔x≤y:=by rw [← ef];unfold cR;split <;> (try split) <;> omega
 have h2:c2≤0↔y≤z:=by rw [← iu];unfold cR;split <;> (try split) <;> omega
 have hq:decide (x≤y∧y≤z)=(decide (c1≤0) && decide (c2≤0)):=by simp [h1,h2]
 rw [hq];clear hq h1 h2;replace ef:=Hd ef;replace iu:=Hd iu
 by_cases h1:c1≤0
 ·have sI:decide (c1≤0)=true:=by simpa using h1
  rw [sI]
  go_enter func139,ntmps139
  go_wp2_with (fail)
  refine (a0S x y _).mono ?_;rintro e w' ⟨rfl,rfl⟩;rw [ef.out];simp only []
  go_wp2_with (fail)
  refine (a0S y z _).mono ?_;rintro e w' ⟨rfl,rfl⟩;rw [iu.out];simp only [];go_wp2;go_ret;exact⟨by simp,rfl⟩
 ·have sI:decide (c1≤0)=false:=by simpa using h1
  rw [sI]
  go_enter func139,ntmps139
  go_wp2_with (fail)
  refine (a0S x y _).mono ?_;rintro e w' ⟨rfl,rfl⟩;rw [ef.out];simp only [];go_wp2;go_ret;exact⟨by simp,rfl⟩
theorem a0L (x y:Int) (w:World) (hx:-1073741824≤x∧x≤1073741824) (hy:-1073741824≤y∧y≤1073741824) :
 Calls prog 92 #[.agg #[.int .i64 x,.int .i64 y]] w fun e w'=>e=.returned (.int .i64 0)∧Pure w (fun _=>False) w' (fun _=>False):=by
 have hS:=aA.start w;have hxd:decide (-1073741824≤x∧x≤1073741824)=true:=by simpa using hx
 have hyd:decide (-1073741824≤y∧y≤1073741824)=true:=by simpa using hy
 clear hx hy
 go_enter func92,ntmps92
 go_wp2_with (with_reducible first|refine cI hS fun bx cu hS=>?_|refine aU 1 hS isAgg3 ?_)
 try simp only [fA]
 go_loopw [10] (fun v wr=>∃ k:Nat,k≤2∧v=.int .i64 (k:Int)∧aA w wr [.aH (Old w) w,.aB bx (.cells #[.int .i64 x,.int .i64 y] 43 (0,0))]) (fun v _=>2 - (intOf v).toNat)
 case atStart=>exact⟨0,by omega,rfl,hS⟩
 case round =>
  clear hS;obtain⟨k,hk,rfl,hS⟩:=hrel;have xP:k=0∨k=1∨k=2:=by omega
  rcases xP with rfl|rfl|rfl
  ·go_wp2_with (first|((with_reducible refine wR (T:=110) ?_);refine ck rfl (zT (i:=0) (T:=110) (E:=3) underlying110 sizeOf3 isAgg3 rfl rfl rfl (by decide) rfl ?_);simp only [aD])|(go_at_call 139;refine (aIg _ _ _ _).mono ?_;rintro e w' ⟨rfl,rfl⟩;rw [hxd]))
   go_roundw
   case rel=>exact⟨1,by omega,rfl,hS⟩
   case measure=>simp [intOf]
  ·go_wp2_with (first|((with_reducible refine wR (T:=110) ?_);refine ck rfl (zT (i:=1) (T:=110) (E:=3) underlying110 sizeOf3 isAgg3 rfl rfl rfl (by decide) rfl ?_);simp only [aD])|(go_at_call 139;refine (aIg _ _ _ _).mono ?_;rintro e w' ⟨rfl,rfl⟩;rw [hyd]))
   go_roundw
   case rel=>exact⟨2,by omega,rfl,hS⟩
   case measure=>simp [intOf]
  ·go_wp2
   go_ret;exact⟨rfl,hS.pure _⟩
structure aEL where
 x0:Int
 y0:Int
 x1:Int
 y1:Int
theorem aR2 (a b:aEL) (w:World) :
 Calls prog 143 #[.agg #[.int .i64 a.x0,.int .i64 a.y0,.int .i64 a.x1,.int .i64 a.y1],.agg #[.int .i64 b.x0,.int .i64 b.y0,.int .i64 b.x1,.int .i64 b.y1]] w fun e w'=>e=.returned (.bool (decide (max a.x0 b.x0≤min a.x1 b.x1∧max a.y0 b.y0≤min a.y1 b.y1)))∧Pure w (fun _=>False) w' (fun _=>False):=by
 have hS:=aA.start w
 by_cases h1:max a.x0 b.x0≤min a.x1 b.x1
 ·have sI:decide (max a.x0 b.x0≤min a.x1 b.x1)=true:=by simpa using h1
  have hq:decide (max a.x0 b.x0≤min a.x1 b.x1∧max a.y0 b.y0≤min a.y1 b.y1)=decide (max a.y0 b.y0≤min a.y1 b.y1):=by simp [h1]
  rw [hq];clear hq h1
  go_enter func143,ntmps143
  go_wp2_with (with_reducible first|refine cI hS fun bx cu hS=>?_|refine aU 1 hS isAgg3 ?_|refine aU 2 hS isAgg3 ?_)
  go_ret;exact⟨rfl,hS.pure _⟩
 ·have sI:decide (max a.x0 b.x0≤min a.x1 b.x1)=false:=by simpa using h1
  have hq:decide (max a.x0 b.x0≤min a.x1 b.x1∧max a.y0 b.y0≤min a.y1 b.y1)=false:=by simp [h1]
  rw [hq];clear hq h1
  go_enter func143,ntmps143
  go_wp2_with (with_reducible first|refine cI hS fun bx cu hS=>?_|refine aU 1 hS isAgg3 ?_|refine aU 2 hS isAgg3 ?_)
  go_ret;exact⟨rfl,hS.pure _⟩
theorem aO4 (b:aEL) (p:PR) (q:Pt) (w:World) (S:Nat→Prop) (h0:bQ b.x0) (h1:bQ b.y0) (h2:bQ b.x1) (h3:bQ b.y1) (hp:dh w S p q) (hL:aP w S) :
 Calls prog 99 #[.agg #[.int .i64 b.x0,.int .i64 b.y0,.int .i64 b.x1,.int .i64 b.y1],.agg #[.bool p.x.num.neg,.slice p.x.num.ad p.x.num.n p.x.num.cap,.bool p.x.less.neg,.slice p.x.less.ad p.x.less.n p.x.less.cap,.bool p.y.num.neg,.slice p.y.num.ad p.y.num.n p.y.num.cap,.bool p.y.less.neg,.slice p.y.less.ad p.y.less.n p.y.less.cap]] w fun e w'=>e=.returned (.bool (decide ((b.x0:Rat)≤q.x∧q.x≤(b.x1:Rat)) && decide ((b.y0:Rat)≤q.y∧q.y≤(b.y1:Rat))))∧Pure w S w' S:=by
 obtain⟨hS,aC,bC,bD⟩:=eR hL;obtain⟨c1,ef⟩:∃ c1,decide ((b.x0:Rat)≤q.x∧q.x≤(b.x1:Rat))=c1:=⟨_,rfl⟩;obtain⟨c2,iu⟩:∃ c2,decide ((b.y0:Rat)≤q.y∧q.y≤(b.y1:Rat))=c2:=⟨_,rfl⟩;rw [ef,iu];replace ef:=Hd ef;replace iu:=Hd iu;cases c1
 ·go_enter func99,ntmps99
  go_wp2_with (with_reducible refine cI hS fun bb wbb hS=>?_)
  refine gI [.p 0,.p 1,.r 2,.p 4,.r 5,.p 6,.p 7,.r 8,.e 3,.e 9,.e 10,.p 11,.p 12,.p 13,.r 14,.p 16,.r 17,.p 18,.p 19,.r 20,.e 15,.e 21,.e 22,.p 23,.p 24] [] (fun w'=>aA w w' _) (by kernel_rfl) (by as_aux_lemma=>kernel_rfl) hS.drew (fun w1 hS=>?_);have hC:=hS
  repeat (with_reducible first|refine cZ 1 isAgg3 ?_|refine tf 2 isAgg53 sizeOf53 ?_|refine bU ?_)
  refine aZ ?_
  go_wp2_with (fail)
  refine (x8 b.x0 _ S h0 (aP.at hS aC)).mono ?_;rintro e w' ⟨u,S1,rfl,hq,hu⟩;simp only [];go_step;have hp:=(hp.at hS aC).grow hq;have hC:=hC.below hq.below hq.drawn;replace hS:=hS.aj aC bC bD hq;obtain⟨F1,aG,-,bB,av,hS⟩:=hS;refine aX hC ?_;refine aM ?_;refine aZ ?_
  go_wp2_with (fail)
  refine (x8 b.x1 _ S1 h2 (aP.at hS aG)).mono ?_;rintro e w' ⟨v,S2,rfl,aR,hv⟩;simp only [];go_step;have hp:=(hp.at hS aG).grow aR;have hu:=(hu.at hS aG).grow aR;have hC:=hC.below aR.below aR.drawn;replace hS:=hS.aj aG av bB aR;obtain⟨F2,aQ,-,bR,bP,hS⟩:=hS;refine aX hC ?_;refine aM ?_;refine aZ ?_
  go_wp2_with (fail)
  refine (aCH u p.x v _ _ _ _ S2 (hu.at hS aQ) (hp.x.at hS aQ) (hv.at hS aQ) (aP.at hS aQ)).mono ?_;rintro e w' ⟨rfl,bI⟩;simp only [];go_step;have hp:=(hp.at hS aQ).grow bI;rw [ef.out];have hC:=hC.below bI.below bI.drawn;replace hS:=hS.aj aQ bP bR bI;obtain⟨F3,bM,-,dP,dE,hS⟩:=hS;refine aX hC ?_;refine aM ?_;refine aZ ?_;refine sf rfl ?_;refine aX hC ?_;refine aM ?_;refine aZ ?_;refine sf rfl ?_;refine aX hC ?_;refine aM ?_;refine aZ ?_;refine sf rfl ?_;refine aX hC ?_;refine aM ?_;refine bE ?_;go_wp2;go_ret;exact⟨by simp,(dP.step hS dE bM).back⟩
 ·go_enter func99,ntmps99
  go_wp2_with (with_reducible refine cI hS fun bb wbb hS=>?_)
  refine gI [.p 0,.p 1,.r 2,.p 4,.r 5,.p 6,.p 7,.r 8,.e 3,.e 9,.e 10,.p 11,.p 12,.p 13,.r 14,.p 16,.r 17,.p 18,.p 19,.r 20,.e 15,.e 21,.e 22,.p 23,.p 24] [] (fun w'=>aA w w' _) (by kernel_rfl) (by as_aux_lemma=>kernel_rfl) hS.drew (fun w1 hS=>?_);have hC:=hS
  repeat (with_reducible first|refine cZ 1 isAgg3 ?_|refine tf 2 isAgg53 sizeOf53 ?_|refine bU ?_)
  refine aZ ?_
  go_wp2_with (fail)
  refine (x8 b.x0 _ S h0 (aP.at hS aC)).mono ?_;rintro e w' ⟨u,S1,rfl,hq,hu⟩;simp only [];go_step;have hp:=(hp.at hS aC).grow hq;have hC:=hC.below hq.below hq.drawn;replace hS:=hS.aj aC bC bD hq;obtain⟨F1,aG,-,bB,av,hS⟩:=hS;refine aX hC ?_;refine aM ?_;refine aZ ?_
  go_wp2_with (fail)
  refine (x8 b.x1 _ S1 h2 (aP.at hS aG)).mono ?_;rintro e w' ⟨v,S2,rfl,aR,hv⟩;simp only [];go_step;have hp:=(hp.at hS aG).grow aR;have hu:=(hu.at hS aG).grow aR;have hC:=hC.below aR.below aR.drawn;replace hS:=hS.aj aG av bB aR;obtain⟨F2,aQ,-,bR,bP,hS⟩:=hS;refine aX hC ?_;refine aM ?_;refine aZ ?_
  go_wp2_with (fail)
  refine (aCH u p.x v _ _ _ _ S2 (hu.at hS aQ) (hp.x.at hS aQ) (hv.at hS aQ) (aP.at hS aQ)).mono ?_;rintro e w' ⟨rfl,bI⟩;simp only [];go_step;have hp:=(hp.at hS aQ).grow bI;rw [ef.out];have hC:=hC.below bI.below bI.drawn;replace hS:=hS.aj aQ bP bR bI;obtain⟨F3,bM,-,dP,dE,hS⟩:=hS;refine aX hC ?_;refine aM ?_
  repeat (with_reducible first|refine cZ 1 isAgg3 ?_|refine tf 2 isAgg53 sizeOf53 ?_|refine bU ?_)
  refine aZ ?_
  go_wp2_with (fail)
  refine (x8 b.y0 _ S2 h1 (aP.at hS bM)).mono ?_;rintro e w' ⟨u2,S4,rfl,cY,hu⟩;simp only [];go_step;have hp:=(hp.at hS bM).grow cY;have hC:=hC.below cY.below cY.drawn;replace hS:=hS.aj bM dE dP cY;obtain⟨F4,bZ,-,gN,gG,hS⟩:=hS;refine aX hC ?_;refine aM ?_;refine aZ ?_
  go_wp2_with (fail)
  refine (x8 b.y1 _ S4 h3 (aP.at hS bZ)).mono ?_;rintro e w' ⟨v2,S5,rfl,gh,hv⟩;simp only [];go_step;have hp:=(hp.at hS bZ).grow gh;have hu:=(hu.at hS bZ).grow gh;have hC:=hC.below gh.below gh.drawn;replace hS:=hS.aj bZ gG gN gh;obtain⟨F5,cG,-,gR,ff,hS⟩:=hS;refine aX hC ?_;refine aM ?_;refine aZ ?_
  go_wp2_with (fail)
  refine (aCH u2 p.y v2 _ _ _ _ S5 (hu.at hS cG) (hp.y.at hS cG) (hv.at hS cG) (aP.at hS cG)).mono ?_;rintro e w' ⟨rfl,lT⟩;simp only [];go_step;rw [iu.out];have hC:=hC.below lT.below lT.drawn;replace hS:=hS.aj cG ff gR lT;obtain⟨F6,eO,-,kY,j4,hS⟩:=hS;refine aX hC ?_;refine aM ?_;refine bE ?_;go_wp2;go_ret;exact⟨by simp,(kY.step hS j4 eO).back⟩
theorem tk {a:Int} {n:Nat} (g:Nat) (h:a.natAbs<n):(a / (g:Int)).natAbs<n:=Nat.lt_of_le_of_lt (a1i a g) h
theorem Bq.mul {j k:Nat} {a b:Rat} (ha:Bq j a) (hb:Bq k b):Bq (j+k) (a*b):=by
 obtain⟨h1,h2⟩:=aGU a b
 constructor
 ·rw [h1,Int.natAbs_mul];exact sL (tk _ ha.1) (tk _ hb.1)
 ·have h3:((a*b).den:Int).natAbs<2 ^ (j+k):=by
   rw [h2,Int.natAbs_mul];exact sL (tk _ (by simpa using ha.2)) (tk _ (by simpa using hb.2))
  simpa using h3
theorem Bq.add {j k:Nat} {a b:Rat} (ha:Bq j a) (hb:Bq k b):Bq (j+k+1) (a+b):=by
 have h:=aFO a b;have hda:=a.den_pos;have hdb:=b.den_pos;obtain⟨x,hx⟩:∃ x,(b.den:Int) / (Int.gcd a.den b.den:Nat)=x:=⟨_,rfl⟩;obtain⟨y,hy⟩:∃ y,(a.den:Int) / (Int.gcd a.den b.den:Nat)=y:=⟨_,rfl⟩;have hxb:x.natAbs<2 ^ k:=by rw [← hx];exact tk _ (by simpa using hb.2)
 have hyb:y.natAbs<2 ^ j:=by rw [← hy];exact tk _ (by simpa using ha.2)
 have iJ:0<y:=by
  rw [← hy];have h1:((Int.gcd a.den b.den:Nat):Int) ∣ (a.den:Int):=Int.gcd_dvd_left ..;obtain⟨e,he⟩:=h1
  have hg:0<((Int.gcd a.den b.den:Nat):Int):=by
   have:Int.gcd a.den b.den≠0:=fun h0=>by rw [h0] at he;simp at he;omega
   omega
  refine Int.ediv_pos_of_pos_of_dvd (by omega) (by omega) (Int.gcd_dvd_left ..)
 rw [hx,hy] at h;obtain⟨e1,e2⟩:=a5i (a:=a.num*x+b.num*y) (b:=y*b.den) (Int.mul_pos iJ (by omega));rw [h] at e1 e2;have b1:=sL ha.1 hxb;have b2:=sL hyb hb.1;have b3:(2:Nat) ^ (j+k+1)=2 ^ (j+k)+2 ^ (j+k):=by rw [Nat.pow_succ];omega
 constructor
 ·rw [e1]
  refine tk _ ?_;have:(a.num*x+b.num*y).natAbs≤(a.num*x).natAbs+(b.num*y).natAbs:=Int.natAbs_add_le _ _;rw [Int.natAbs_mul,Int.natAbs_mul,Nat.mul_comm b.num.natAbs] at this;omega
 ·have h3:((a+b).den:Int).natAbs<2 ^ (j+k+1):=by
   rw [e2];refine tk _ ?_;rw [Int.natAbs_mul];have:=sL hyb (show (b.den:Int).natAbs<2 ^ k by simpa using hb.2);omega
  simpa using h3
theorem Bq.sub {j k:Nat} {a b:Rat} (ha:Bq j a) (hb:Bq k b):Bq (j+k+1) (a - b):=by
 rw [Rat.sub_eq_add_neg];exact ha.add hb.neg
theorem Bq.int {k:Nat} {n:Int} (hk:1≤k) (h:n.natAbs<2 ^ k):Bq k (n:Rat):=by
 refine⟨by simpa using h,?_⟩;have:2 ^ 1≤2 ^ k:=Nat.pow_le_pow_right (by decide) hk;simp;omega
theorem aNB (p q r:PR) (a b c:Pt) (k:Nat) (w:World) (S:Nat→Prop) (hp:dh w S p a) (hq:dh w S q b) (hr:dh w S r c) (hL:aP w S) (ka:Bq k a.x∧Bq k a.y) (kb:Bq k b.x∧Bq k b.y) (kc:Bq k c.x∧Bq k c.y) (hk:8*k+8≤16384) :
 Calls prog 30 #[.agg #[.bool p.x.num.neg,.slice p.x.num.ad p.x.num.n p.x.num.cap,.bool p.x.less.neg,.slice p.x.less.ad p.x.less.n p.x.less.cap,.bool p.y.num.neg,.slice p.y.num.ad p.y.num.n p.y.num.cap,.bool p.y.less.neg,.slice p.y.less.ad p.y.less.n p.y.less.cap],.agg #[.bool q.x.num.neg,.slice q.x.num.ad q.x.num.n q.x.num.cap,.bool q.x.less.neg,.slice q.x.less.ad q.x.less.n q.x.less.cap,.bool q.y.num.neg,.slice q.y.num.ad q.y.num.n q.y.num.cap,.bool q.y.less.neg,.slice q.y.less.ad q.y.less.n q.y.less.cap],.agg #[.bool r.x.num.neg,.slice r.x.num.ad r.x.num.n r.x.num.cap,.bool r.x.less.neg,.slice r.x.less.ad r.x.less.n r.x.less.cap,.bool r.y.num.neg,.slice r.y.num.ad r.y.num.n r.y.num.cap,.bool r.y.less.neg,.slice r.y.less.ad r.y.less.n r.y.less.cap]] w (yb w S (bT a b c)):=by
 obtain⟨hS,aC,bC,bD⟩:=eR hL
 go_enter func30,ntmps30
 go_wp2_with (with_reducible first|refine cI hS fun bx cu hS=>?_|refine eW 1 hS isAgg53 sizeOf53 ?_|refine eW 2 hS isAgg53 sizeOf53 ?_|refine eW 3 hS isAgg53 sizeOf53 ?_|refine bH hS zeroValue53 fun b6 xz hS=>?_|refine bH hS zeroValue137 fun b9 xX hS=>?_|refine bH hS zeroValue138 fun fo qM hS=>?_|refine aJ 6 hS sizeOf137 fun _ hS=>?_|refine bA 6 hS isAgg137 sizeOf137 ?_)
 refine wp_loop_rounds 3 ?_;rw [rounds_succ]
 go_wp2_with (first|((with_reducible refine wR (T:=137) ?_);refine ck rfl (aIp (i:=0) (T:=137) (E:=136) underlying137 sizeOf136 isAgg136 rfl rfl rfl (by decide) rfl ?_);simp only [aD])|(with_reducible first|refine bH hS zeroValue3 fun b11 a3b hS=>?_|refine bH hS zeroValue136 fun qH a1h hS=>?_|refine bH hS zeroValue53 fun xY a62 hS=>?_|refine bH hS zeroValue38 fun b15 aLr hS=>?_|refine bH hS zeroValue140 fun vZ a4M hS=>?_|refine aJ 8 hS sizeOf3 fun _ hS=>?_|refine aJ 9 hS sizeOf136 fun _ hS=>?_|refine aJ 13 hS sizeOf140 fun _ hS=>?_|refine bA 13 hS isAgg140 sizeOf140 ?_))
 refine wp_loop_rounds 4 ?_;rw [rounds_succ]
 go_wp2_with (first|((with_reducible refine wR (T:=140) ?_);refine ck rfl (zT (i:=0) (T:=140) (E:=139) underlying140 sizeOf139 isAgg139 rfl rfl rfl (by decide) rfl ?_);simp only [aD])|(go_at_call 74;go_in)|(with_reducible refine eW 9 hS isAgg53 sizeOf53 ?_))
 refine (zi q.x p.x b.x a.x k k _ S (hq.x.at hS aC) (hp.x.at hS aC) (aP.at hS aC) kb.1 ka.1 (by omega)).mono ?_;rintro e w' ⟨x,S1,rfl,az,hx⟩;have hp:=(hp.at hS aC).grow az;have hq:=(hq.at hS aC).grow az;have hr:=(hr.at hS aC).grow az
 try (have fG:=(fG.at hS aC).grow az)
 replace hS:=hS.aj aC bC bD az;obtain⟨F1,aG,-,bB,av,hS⟩:=hS;simp only [iW]
 go_wp2_with (with_reducible first|refine aJ 10 hS sizeOf53 fun _ hS=>?_|refine aJ 12 hS sizeOf38 fun _ hS=>?_|refine aU 12 hS isAgg38 ?_)
 first|rw [rounds_succ]
 go_wp2_with (first|((with_reducible refine wR (T:=140) ?_);refine ck rfl (zT (i:=1) (T:=140) (E:=139) underlying140 sizeOf139 isAgg139 rfl rfl rfl (by decide) rfl ?_);simp only [aD])|(go_at_call 76;go_in)|(with_reducible refine eW 9 hS isAgg53 sizeOf53 ?_))
 refine (zi r.y p.y c.y a.y k k _ S1 (hr.y.at hS aG) (hp.y.at hS aG) (aP.at hS aG) kc.2 ka.2 (by omega)).mono ?_;rintro e w' ⟨y,S2,rfl,aR,hy⟩;have hp:=(hp.at hS aG).grow aR;have hq:=(hq.at hS aG).grow aR;have hr:=(hr.at hS aG).grow aR;have hx:=(hx.at hS aG).grow aR
 try (have fG:=(fG.at hS aG).grow aR)
 replace hS:=hS.aj aG av bB aR;obtain⟨F2,aQ,-,bR,bP,hS⟩:=hS;simp only [iW]
 go_wp2_with (with_reducible first|refine aJ 11 hS sizeOf53 fun _ hS=>?_|refine aJ 12 hS sizeOf38 fun _ hS=>?_|refine aU 12 hS isAgg38 ?_)
 first|rw [rounds_succ]
 go_wp2_with (first|((with_reducible refine wR (T:=140) ?_);refine ck rfl (zT (i:=2) (T:=140) (E:=139) underlying140 sizeOf139 isAgg139 rfl rfl rfl (by decide) rfl ?_);simp only [aD])|(go_at_call 77;go_in))
 refine dB [.r 0,.r 1,.r 2,.e 3,.p 4,.p 5,.p 6,.p 7,.m 8,.m 9] [8,9] hS fun w1 hS=>?_
 repeat (with_reducible first|refine cZ 8 isAgg3 ?_|refine cz 10 isAgg53 sizeOf53 ?_|refine cz 11 isAgg53 sizeOf53 ?_)
 have hC:=hS;refine aZ ?_
 go_wp2_with (fail)
 refine (a1A x y (b.x - a.x) (c.y - a.y) (k+k+1) (k+k+1) _ S2 (hx.at hS aQ) (hy.at hS aQ) (aP.at hS aQ) (kb.1.sub ka.1) (kc.2.sub ka.2) (by omega)).mono ?_;rintro e w' ⟨z1,S3,rfl,bI,fG⟩;simp only [iW];go_step;have hp:=(hp.at hS aQ).grow bI;have hq:=(hq.at hS aQ).grow bI;have hr:=(hr.at hS aQ).grow bI
 try (have fG:=(fG.at hS aQ).grow bI)
 have hC:=(hC.call bI.below bI.drawn).sub (List.sublist_append_left _ _);replace hS:=hS.aj aQ bP bR bI;obtain⟨F3,bM,-,dP,dE,hS⟩:=hS;refine aX hC ?_;refine aM ?_;refine dC ?_
 (with_reducible refine aJ 7 hS sizeOf53 fun _ hS=>?_)
 refine dD ?_;refine aM ?_;refine dC ?_
 (with_reducible refine aJ 12 hS sizeOf38 fun _ hS=>?_)
 refine dD ?_;refine aM ?_;refine bE ?_;clear hC
 go_wp2_with (with_reducible refine aU 12 hS isAgg38 ?_)
 first|rw [rounds_succ]
 go_wp2;have hS:=hS.pick [0,1,2,3,4,5,6,7] rfl;simp only [iw] at hS
 first|rw [rounds_succ]
 go_wp2_with (first|((with_reducible refine wR (T:=137) ?_);refine ck rfl (aIp (i:=1) (T:=137) (E:=136) underlying137 sizeOf136 isAgg136 rfl rfl rfl (by decide) rfl ?_);simp only [aD])|(with_reducible first|refine bH hS zeroValue3 fun b11 a3b hS=>?_|refine bH hS zeroValue136 fun qH a1h hS=>?_|refine bH hS zeroValue53 fun xY a62 hS=>?_|refine bH hS zeroValue38 fun b15 aLr hS=>?_|refine bH hS zeroValue140 fun vZ a4M hS=>?_|refine aJ 8 hS sizeOf3 fun _ hS=>?_|refine aJ 9 hS sizeOf136 fun _ hS=>?_|refine aJ 13 hS sizeOf140 fun _ hS=>?_|refine bA 13 hS isAgg140 sizeOf140 ?_))
 refine wp_loop_rounds 4 ?_;rw [rounds_succ]
 go_wp2_with (first|((with_reducible refine wR (T:=140) ?_);refine ck rfl (zT (i:=0) (T:=140) (E:=139) underlying140 sizeOf139 isAgg139 rfl rfl rfl (by decide) rfl ?_);simp only [aD])|(go_at_call 74;go_in)|(with_reducible refine eW 9 hS isAgg53 sizeOf53 ?_))
 refine (zi q.y p.y b.y a.y k k _ S3 (hq.y.at hS bM) (hp.y.at hS bM) (aP.at hS bM) kb.2 ka.2 (by omega)).mono ?_;rintro e w' ⟨x,S4,rfl,az,hx⟩;have hp:=(hp.at hS bM).grow az;have hq:=(hq.at hS bM).grow az;have hr:=(hr.at hS bM).grow az
 try (have fG:=(fG.at hS bM).grow az)
 replace hS:=hS.aj bM dE dP az;obtain⟨F4,bZ,-,gN,gG,hS⟩:=hS;simp only [iW]
 go_wp2_with (with_reducible first|refine aJ 10 hS sizeOf53 fun _ hS=>?_|refine aJ 12 hS sizeOf38 fun _ hS=>?_|refine aU 12 hS isAgg38 ?_)
 first|rw [rounds_succ]
 go_wp2_with (first|((with_reducible refine wR (T:=140) ?_);refine ck rfl (zT (i:=1) (T:=140) (E:=139) underlying140 sizeOf139 isAgg139 rfl rfl rfl (by decide) rfl ?_);simp only [aD])|(go_at_call 76;go_in)|(with_reducible refine eW 9 hS isAgg53 sizeOf53 ?_))
 refine (zi r.x p.x c.x a.x k k _ S4 (hr.x.at hS bZ) (hp.x.at hS bZ) (aP.at hS bZ) kc.1 ka.1 (by omega)).mono ?_;rintro e w' ⟨y,S5,rfl,aR,hy⟩;have hp:=(hp.at hS bZ).grow aR;have hq:=(hq.at hS bZ).grow aR;have hr:=(hr.at hS bZ).grow aR;have hx:=(hx.at hS bZ).grow aR
 try (have fG:=(fG.at hS bZ).grow aR)
 replace hS:=hS.aj bZ gG gN aR;obtain⟨F5,cG,-,gR,ff,hS⟩:=hS;simp only [iW]
 go_wp2_with (with_reducible first|refine aJ 11 hS sizeOf53 fun _ hS=>?_|refine aJ 12 hS sizeOf38 fun _ hS=>?_|refine aU 12 hS isAgg38 ?_)
 first|rw [rounds_succ]
 go_wp2_with (first|((with_reducible refine wR (T:=140) ?_);refine ck rfl (zT (i:=2) (T:=140) (E:=139) underlying140 sizeOf139 isAgg139 rfl rfl rfl (by decide) rfl ?_);simp only [aD])|(go_at_call 77;go_in))
 refine dB [.r 0,.r 1,.r 2,.e 3,.p 4,.p 5,.p 6,.p 7,.m 8,.m 9] [8,9] hS fun w1 hS=>?_
 repeat (with_reducible first|refine cZ 8 isAgg3 ?_|refine cz 10 isAgg53 sizeOf53 ?_|refine cz 11 isAgg53 sizeOf53 ?_)
 have hC:=hS;refine aZ ?_
 go_wp2_with (fail)
 refine (a1A x y (b.y - a.y) (c.x - a.x) (k+k+1) (k+k+1) _ S5 (hx.at hS cG) (hy.at hS cG) (aP.at hS cG) (kb.2.sub ka.2) (kc.1.sub ka.1) (by omega)).mono ?_;rintro e w' ⟨z2,S6,rfl,bI,gS⟩;simp only [iW];go_step;have hp:=(hp.at hS cG).grow bI;have hq:=(hq.at hS cG).grow bI;have hr:=(hr.at hS cG).grow bI
 try (have fG:=(fG.at hS cG).grow bI)
 have hC:=(hC.call bI.below bI.drawn).sub (List.sublist_append_left _ _);replace hS:=hS.aj cG ff gR bI;obtain⟨F6,eO,-,kY,j4,hS⟩:=hS;refine aX hC ?_;refine aM ?_;refine dC ?_
 (with_reducible refine aJ 7 hS sizeOf53 fun _ hS=>?_)
 refine dD ?_;refine aM ?_;refine dC ?_
 (with_reducible refine aJ 12 hS sizeOf38 fun _ hS=>?_)
 refine dD ?_;refine aM ?_;refine bE ?_;clear hC
 go_wp2_with (with_reducible refine aU 12 hS isAgg38 ?_)
 first|rw [rounds_succ]
 go_wp2;have hS:=hS.pick [0,1,2,3,4,5,6,7] rfl;simp only [iw] at hS
 first|rw [rounds_succ]
 go_wp2_with (with_reducible refine eW 7 hS isAgg53 sizeOf53 ?_)
 refine (zi z1 z2 _ _ (k+k+1+(k+k+1)) (k+k+1+(k+k+1)) _ S6 (fG.at hS eO) (gS.at hS eO) (aP.at hS eO) ((kb.1.sub ka.1).mul (kc.2.sub ka.2)) ((kb.2.sub ka.2).mul (kc.1.sub ka.1)) (by omega)).mono ?_;rintro e w' ⟨z,S7,rfl,hq7,hz⟩;replace hS:=hS.aj eO j4 kY hq7;obtain⟨F7,iR,-,mT,qN,hS⟩:=hS;simp only [iW]
 go_wp2_with (with_reducible first|refine bH hS zeroValue53 fun b20 aCI hS=>?_|refine aJ 8 hS sizeOf53 fun _ hS=>?_|refine aJ 4 hS sizeOf53 fun _ hS=>?_|refine bA 8 hS isAgg53 sizeOf53 ?_)
 exact jJ 4 hS rfl rfl rfl isAgg53 sizeOf53 rfl rfl ⟨z,S7,rfl,mT.step hS qN iR,hz.at hS iR⟩
theorem aQ9 (q:Rat):cR q.num 0=e8 q 0:=by
 have h1:=Rat.lt_iff q 0;have h2:=Rat.lt_iff 0 q;simp at h1 h2;unfold cR e8;simp only [h1,h2]
theorem aFV (p q r:PR) (a b c:Pt) (k:Nat) (w:World) (S:Nat→Prop) (hp:dh w S p a) (hq:dh w S q b) (hr:dh w S r c) (hL:aP w S) (ka:Bq k a.x∧Bq k a.y) (kb:Bq k b.x∧Bq k b.y) (kc:Bq k c.x∧Bq k c.y) (hk:8*k+8≤16384) :
 Calls prog 67 #[.agg #[.bool p.x.num.neg,.slice p.x.num.ad p.x.num.n p.x.num.cap,.bool p.x.less.neg,.slice p.x.less.ad p.x.less.n p.x.less.cap,.bool p.y.num.neg,.slice p.y.num.ad p.y.num.n p.y.num.cap,.bool p.y.less.neg,.slice p.y.less.ad p.y.less.n p.y.less.cap],.agg #[.bool q.x.num.neg,.slice q.x.num.ad q.x.num.n q.x.num.cap,.bool q.x.less.neg,.slice q.x.less.ad q.x.less.n q.x.less.cap,.bool q.y.num.neg,.slice q.y.num.ad q.y.num.n q.y.num.cap,.bool q.y.less.neg,.slice q.y.less.ad q.y.less.n q.y.less.cap],.agg #[.bool r.x.num.neg,.slice r.x.num.ad r.x.num.n r.x.num.cap,.bool r.x.less.neg,.slice r.x.less.ad r.x.less.n r.x.less.cap,.bool r.y.num.neg,.slice r.y.num.ad r.y.num.n r.y.num.cap,.bool r.y.less.neg,.slice r.y.less.ad r.y.less.n r.y.less.cap]] w fun e w'=>e=.returned (.tuple #[.int .i64 (e8 (bT a b c) 0),.int .i64 0])∧Pure w S w' S:=by
 obtain⟨hS,aC,bC,bD⟩:=eR hL
 go_enter func67,ntmps67
 go_wp2_with (with_reducible first|refine cI hS fun bx cu hS=>?_|refine bA 1 hS isAgg55 sizeOf55 ?_|refine bA 2 hS isAgg55 sizeOf55 ?_|refine bA 3 hS isAgg55 sizeOf55 ?_)
 refine (aNB p q r a b c k _ S (hp.at hS aC) (hq.at hS aC) (hr.at hS aC) (aP.at hS aC) ka kb kc hk).mono ?_;rintro e w' ⟨z,S1,rfl,az,hz⟩;replace hS:=hS.aj aC bC bD az;obtain⟨F1,aG,-,bB,av,hS⟩:=hS;simp only [iW]
 go_wp2_with (with_reducible first|refine bH hS zeroValue53 fun b8 xe hS=>?_|refine aJ 4 hS sizeOf53 fun _ hS=>?_|refine bA 4 hS isAgg53 sizeOf53 ?_)
 refine (aSU z _ _ S1 (hz.at hS aG) (aP.at hS aG)).mono ?_;rintro e w' ⟨rfl,aR⟩;rw [aQ9];replace hS:=hS.aj aG av bB aR;obtain⟨F2,aQ,-,bR,bP,hS⟩:=hS;simp only [];go_wp2;refine bodyPost_ret (results_tmp2 rfl _ _ _) rfl ?_;exact⟨rfl,(bR.step hS bP aQ).back⟩
structure Gp where
 x:Int
 y:Int
 deriving DecidableEq
def Gp.pt (g:Gp):Pt:=⟨(g.x:Rat),(g.y:Rat)⟩
def gc (p:Gp):List Value:=[.int .i64 p.x,.int .i64 p.y]
def g0:Gp:=⟨0,0⟩
theorem nB {α:Type} {f:α→List Value} {k:Nat} (hk:∀ x,(f x).length=k) (l:List α):(l.flatMap f).length=l.length*k:=by
 induction l with
 | nil=>simp
 | cons x l ih=>simp only [List.flatMap_cons,List.length_append,hk,ih,List.length_cons,Nat.add_mul,Nat.one_mul];omega
theorem eS {α:Type} {f:α→List Value} {k:Nat} (hk:∀ x,(f x).length=k) (d:α):∀ {l:List α} {i:Nat},i<l.length→((l.flatMap f).drop (i*k)).take k=f (nth d l i)
 | [],i,h=>by simp at h
 | x::l,0,_=>by
  rw [Nat.zero_mul,List.drop_zero,List.flatMap_cons,List.take_append_of_le_length (by rw [hk];exact Nat.le_refl _),List.take_of_length_le (by rw [hk];exact Nat.le_refl _)];rfl
 | x::l,i+1,h=>by
  have:=eS hk d (l:=l) (i:=i) (by simpa using h);have e:(f x++l.flatMap f).drop k=l.flatMap f:=by rw [← hk x];exact List.drop_left
  rw [Nat.add_mul,Nat.one_mul,List.flatMap_cons,Nat.add_comm,← List.drop_drop,e];exact this
theorem yT (p:Gp):(gc p).length=2:=rfl
def fS (x:Int):Prop:=-1073741824≤x∧x≤1073741824
def Gp.ok (p:Gp):Prop:=fS p.x∧fS p.y
theorem aPd (a b c d e f:Value):Instr.fill (fun i=>some (i*2,2)) ((Array.range (3*2)).map ((Value.agg #[.int .i64 0,.int .i64 0]).cells[· % (Value.agg #[.int .i64 0,.int .i64 0]).cells.size]!)) [(0,.agg #[a,b]),(1,.agg #[c,d]),(2,.agg #[e,f])]=some #[a,b,c,d,e,f]:=by
 have h:((Array.range (3*2)).map ((Value.agg #[.int .i64 0,.int .i64 0]).cells[· % (Value.agg #[.int .i64 0,.int .i64 0]).cells.size]!))=#[.int .i64 0,.int .i64 0,.int .i64 0,.int .i64 0,.int .i64 0,.int .i64 0]:=by
  apply Array.ext';simp [Array.range,List.ofFn_succ,Value.cells]
 rw [h];simp [Instr.fill,Value.cells]
theorem aQA (a b c d:Value):Instr.fill (fun i=>some (i*2,2)) ((Array.range (2*2)).map ((Value.agg #[.int .i64 0,.int .i64 0]).cells[· % (Value.agg #[.int .i64 0,.int .i64 0]).cells.size]!)) [(0,.agg #[a,b]),(1,.agg #[c,d])]=some #[a,b,c,d]:=by
 have h:((Array.range (2*2)).map ((Value.agg #[.int .i64 0,.int .i64 0]).cells[· % (Value.agg #[.int .i64 0,.int .i64 0]).cells.size]!))=#[.int .i64 0,.int .i64 0,.int .i64 0,.int .i64 0]:=by
  apply Array.ext';simp [Array.range,List.ofFn_succ,Value.cells]
 rw [h];simp [Instr.fill,Value.cells]
theorem aMf {a b:Int} (ha:a.natAbs<2 ^ 40) (hb:b.natAbs<2 ^ 40):(a*b).natAbs<kR:=by
 rw [Int.natAbs_mul];exact rX (k:=80) (by decide) (sL ha hb)
def dQ (a b c:Gp):Int:=(b.x - a.x)*(c.y - a.y) - (b.y - a.y)*(c.x - a.x)
theorem yV (a b c:Gp):bT a.pt b.pt c.pt=(dQ a b c:Rat):=by
 unfold bT dQ Gp.pt;simp only
 push_cast
 rfl
def gQ (z:Int):Int:=if z<0 then -1 else if 0<z then 1 else 0
theorem aPu (a b:Int):cR a b=gQ (a - b):=by unfold cR gQ;split <;> split <;> (try split) <;> (try split) <;> omega
theorem aGp (a b c:Gp) (w:World) (S:Nat→Prop) (hL:aP w S) (h1:-8589934592≤b.x - a.x∧b.x - a.x≤8589934592) (h2:-8589934592≤b.y - a.y∧b.y - a.y≤8589934592) (h3:-8589934592≤c.x - a.x∧c.x - a.x≤8589934592) (h4:-8589934592≤c.y - a.y∧c.y - a.y≤8589934592) :
 Calls prog 183 #[.agg #[.int .i64 a.x,.int .i64 a.y],.agg #[.int .i64 b.x,.int .i64 b.y],.agg #[.int .i64 c.x,.int .i64 c.y]] w fun e w'=>e=.returned (.int .i64 (gQ (dQ a b c)))∧Pure w S w' S:=by
 have w1:IntKind.i64.wrap (b.x - a.x)=b.x - a.x:=w6;have w2:IntKind.i64.wrap (b.y - a.y)=b.y - a.y:=w6;have w3:IntKind.i64.wrap (c.x - a.x)=c.x - a.x:=w6;have w4:IntKind.i64.wrap (c.y - a.y)=c.y - a.y:=w6;have fT:cR ((b.x - a.x)*(c.y - a.y)) ((b.y - a.y)*(c.x - a.x))=gQ (dQ a b c):=by rw [aPu];rfl
 have f1:=aMf (a:=b.x - a.x) (b:=c.y - a.y) (by omega) (by omega);have f2:=aMf (a:=b.y - a.y) (b:=c.x - a.x) (by omega) (by omega);have i1:bQ (b.x - a.x):=by unfold bQ;omega
 have i2:bQ (b.y - a.y):=by unfold bQ;omega
 have i3:bQ (c.x - a.x):=by unfold bQ;omega
 have i4:bQ (c.y - a.y):=by unfold bQ;omega
 clear h1 h2 h3 h4;replace f1:=Hd f1;replace f2:=Hd f2;replace fT:=Hd fT;obtain⟨hS,aC,bC,bD⟩:=eR hL
 go_enter func183,ntmps183
 go_wp2_with (with_reducible refine cI (T:=43) (v:=.agg _) hS fun bx cu hS=>?_)
 refine kQ 1 [.p 0,.r 1,.p 2,.r 3,.p 4,.p 6,.r 7,.p 8,.r 9,.p 10,.e 5,.e 11] [.e 14,.e 15] [] [eU 12 7 51 (.agg #[.bool false,.slice none 0 0]),eU 13 8 51 (.agg #[.bool false,.slice none 0 0])] w _ (by kernel_rfl) (by kernel_rfl) (a0n rfl zeroValue51 rfl zeroValue51 (by decide) (by decide)) hS.drew ?_;obtain⟨aI,aT⟩:=hS.jw
 repeat (with_reducible first|refine vq 2 isAgg3 ?_|refine vq 1 isAgg3 ?_|refine lF ?_)
 refine eI rfl (fun B wB hS=>?_);simp only [aK] at hS
 go_wp2_with (fail)
 refine (x6 (b.x - a.x) _ S i1).mono ?_;rintro e w' ⟨x,S1,rfl,az,iz⟩;simp only [];go_step
 try (have iz:=(iz.at hS aC).grow az)
 try (have iJ:=(iJ.at hS aC).grow az)
 have aT:=aA.fC hS az.below aI aT;replace hS:=hS.aj aC bC bD az;obtain⟨F1,aG,gp,bB,av,hS⟩:=hS;have aI:=dZ.trans aI gp;refine eH (H:=_) hS aI aT ?_;refine dz ?_;refine eI rfl (fun B wB hS=>?_);simp only [aK] at hS
 go_wp2_with (fail)
 refine (x6 (b.y - a.y) _ S1 i2).mono ?_;rintro e w' ⟨y,S2,rfl,aR,iJ⟩;simp only [];go_step;have iz:=(iz.at hS aG).grow aR
 try (have iz:=(iz.at hS aG).grow aR)
 try (have iJ:=(iJ.at hS aG).grow aR)
 have aT:=aA.fC hS aR.below aI aT;replace hS:=hS.aj aG av bB aR;obtain⟨F2,aQ,jV,bR,bP,hS⟩:=hS;have aI:=dZ.trans aI jV;refine eH (H:=_) hS aI aT ?_;refine dz ?_;refine a0H (fun b7 b8 wB hS=>?_);simp only [aK] at hS;simp only [aD];refine aZ ?_
 (with_reducible refine aJ (u:=.agg #[.bool _,.slice _ _ _]) 4 hS sizeOf51 fun _ hS=>?_)
 refine aX (aA.gA hS.sb aI aT) ?_;refine aM ?_;refine aZ ?_
 (with_reducible refine aJ (u:=.agg #[.bool _,.slice _ _ _]) 5 hS sizeOf51 fun _ hS=>?_)
 refine aX (aA.gA hS.sb aI aT) ?_;refine aM ?_;refine bE ?_;clear aI aT;go_wp2;refine kQ 1 [.p 0,.r 1,.p 2,.r 3,.p 4,.p 6,.r 7,.p 8,.r 9,.p 10,.e 5,.e 11] [.e 14,.e 15] [] [eU 12 9 51 (.agg #[.bool false,.slice none 0 0]),eU 13 10 51 (.agg #[.bool false,.slice none 0 0])] w _ (by kernel_rfl) (by kernel_rfl) (a0n rfl zeroValue51 rfl zeroValue51 (by decide) (by decide)) hS.drew ?_;obtain⟨aI,aT⟩:=hS.jw
 repeat (with_reducible first|refine vq 3 isAgg3 ?_|refine vq 1 isAgg3 ?_|refine lF ?_)
 refine eI rfl (fun B wB hS=>?_);simp only [aK] at hS
 go_wp2_with (fail)
 refine (x6 (c.x - a.x) _ S2 i3).mono ?_;rintro e w' ⟨u,S3,rfl,az,hu⟩;simp only [];go_step
 try (have iz:=(iz.at hS aQ).grow az)
 try (have iJ:=(iJ.at hS aQ).grow az)
 have aT:=aA.fC hS az.below aI aT;replace hS:=hS.aj aQ bP bR az;obtain⟨F3,bM,nQ,dP,dE,hS⟩:=hS;have aI:=dZ.trans aI nQ;refine eH (H:=_) hS aI aT ?_;refine dz ?_;refine eI rfl (fun B wB hS=>?_);simp only [aK] at hS
 go_wp2_with (fail)
 refine (x6 (c.y - a.y) _ S3 i4).mono ?_;rintro e w' ⟨v,S4,rfl,aR,hv⟩;simp only [];go_step;have hu:=(hu.at hS bM).grow aR
 try (have iz:=(iz.at hS bM).grow aR)
 try (have iJ:=(iJ.at hS bM).grow aR)
 have aT:=aA.fC hS aR.below aI aT;replace hS:=hS.aj bM dE dP aR;obtain⟨F4,bZ,tl,gN,gG,hS⟩:=hS;have aI:=dZ.trans aI tl;refine eH (H:=_) hS aI aT ?_;refine dz ?_;refine a0H (fun b9 fo wB hS=>?_);simp only [aK] at hS;simp only [aD];refine aZ ?_
 (with_reducible refine aJ (u:=.agg #[.bool _,.slice _ _ _]) 6 hS sizeOf51 fun _ hS=>?_)
 refine aX (aA.gA hS.sb aI aT) ?_;refine aM ?_;refine aZ ?_
 (with_reducible refine aJ (u:=.agg #[.bool _,.slice _ _ _]) 7 hS sizeOf51 fun _ hS=>?_)
 refine aX (aA.gA hS.sb aI aT) ?_;refine aM ?_;refine bE ?_;clear aI aT
 go_wp2_with (with_reducible first|refine bA 4 hS isAgg51 sizeOf51 ?_|refine bA 7 hS isAgg51 sizeOf51 ?_)
 refine (aCi x v _ _ _ S4 (iz.at hS bZ) (hv.at hS bZ) (aP.at hS bZ) f1.out).mono ?_;rintro e w' ⟨p,S5,rfl,gh,hp⟩;have iJ:=(iJ.at hS bZ).grow gh;have hu:=(hu.at hS bZ).grow gh;replace hS:=hS.aj bZ gG gN gh;obtain⟨F5,cG,-,gR,ff,hS⟩:=hS;simp only [sJ]
 go_wp2_with (with_reducible first|refine bH hS zeroValue51 fun b11 a3b hS=>?_|refine aJ (u:=.agg #[.bool _,.slice _ _ _]) 8 hS sizeOf51 fun _ hS=>?_|refine bA 5 hS isAgg51 sizeOf51 ?_|refine bA 6 hS isAgg51 sizeOf51 ?_)
 refine (aCi y u _ _ _ S5 (iJ.at hS cG) (hu.at hS cG) (aP.at hS cG) f2.out).mono ?_;rintro e w' ⟨q,S6,rfl,lT,hq⟩;have hp:=(hp.at hS cG).grow lT;replace hS:=hS.aj cG ff gR lT;obtain⟨F6,eO,-,kY,j4,hS⟩:=hS;simp only [sJ]
 go_wp2_with (with_reducible first|refine bH hS zeroValue51 fun xY a62 hS=>?_|refine aJ (u:=.agg #[.bool _,.slice _ _ _]) 9 hS sizeOf51 fun _ hS=>?_|refine bA 8 hS isAgg51 sizeOf51 ?_|refine bA 9 hS isAgg51 sizeOf51 ?_)
 refine (a8M p q _ _ _ S6 (hp.at hS eO) (hq.at hS eO)).mono ?_;rintro e w' ⟨rfl,hq7⟩;replace hS:=hS.aj eO j4 kY hq7;obtain⟨F7,iR,-,mT,qN,hS⟩:=hS;simp only [];go_wp2;go_ret;exact⟨jH fT.out,(mT.step hS qN iR).back⟩
theorem aS8 (ad:Option Addr) (n c:Nat) (l:List Gp) (w:World) (S:Nat→Prop) (hv:bN w S 2 (.slice ad n c) l.length (l.flatMap gc)) (bG:∀ p ∈ l,p.ok) :
 Calls prog 182 #[.slice ad n c] w fun e w'=>e=.returned (.int .i64 0)∧Pure w (fun _=>False) w' (fun _=>False):=by
 have hn:n=l.length:=by obtain⟨h1,a,cap,h2,_⟩:=hv;cases h2;rfl
 subst hn;have hle:=hv.le;have hS:=aA.start w;have dS:=hv.bj;clear hv
 go_enter func182,ntmps182
 go_wp2
 go_loopw [8] (fun v wr=>∃ k:Nat,k≤l.length∧v=.int .i64 (k:Int)∧aA w wr [.aH (Old w) w]) (fun v _=>l.length - (intOf v).toNat)
 case atStart=>exact⟨0,by omega,rfl,hS⟩
 case round =>
  clear hS;obtain⟨k,hk,rfl,hS⟩:=hrel
  by_cases cW:k<l.length
  ·obtain⟨p,hp⟩:∃ p,nth g0 l k=p:=⟨_,rfl⟩
   have hc:=eS yT g0 cW;rw [hp] at hc;obtain⟨o1,o2⟩:=bG p (by rw [← hp];exact cQ g0 l k cW);unfold fS at o1 o2;have vW:=a0L p.x p.y
   go_wp2_with (first|(with_reducible first|refine iH underlying24 sizeOf43 dS hc fun bq oq bO=>?_|refine j9 hS isAgg43 sizeOf43 ?_|refine bH hS zeroValue43 fun bp wbp hS=>?_|refine aJ (u:=.agg #[_,_]) 1 hS sizeOf43 fun _ hS=>?_|refine bA 1 hS isAgg43 sizeOf43 ?_)|(go_at_call 92;refine (vW _ o1 o2).mono ?_;rintro e w' ⟨rfl,hq⟩;have hS:=hS.below hq.below hq.drawn))
   go_roundw
   case rel=>exact⟨k+1,by omega,rfl,hS.sb⟩
   case measure=>simp [intOf];omega
  ·obtain rfl:k=l.length:=by omega
   go_wp2;go_ret;exact⟨rfl,hS.pure _⟩
theorem aSY (a b c:Gp) (w:World) (S:Nat→Prop) (hL:aP w S) (ha:a.ok) (hb:b.ok) (hc:c.ok) :
 Calls prog 148 #[.agg #[.int .i64 a.x,.int .i64 a.y],.agg #[.int .i64 b.x,.int .i64 b.y],.agg #[.int .i64 c.x,.int .i64 c.y]] w fun e w'=>e=.returned (.tuple #[.int .i64 (gQ (dQ a b c)),.int .i64 0])∧Pure w S w' S:=by
 have hsd:=fun w' S' eM=>aGp a b c w' S' eM (by have:=ha.1;have:=hb.1;unfold fS at *;omega) (by have:=ha.2;have:=hb.2;unfold fS at *;omega) (by have:=ha.1;have:=hc.1;unfold fS at *;omega) (by have:=ha.2;have:=hc.2;unfold fS at *;omega)
 obtain⟨hS,aC,bC,bD⟩:=eR hL
 go_enter func148,ntmps148
 go_wp2_with (first|(with_reducible first|refine cI (T:=43) (v:=.agg _) hS fun bx cu hS=>?_|refine bA 1 hS isAgg43 sizeOf43 ?_|refine bA 2 hS isAgg43 sizeOf43 ?_|refine bA 3 hS isAgg43 sizeOf43 ?_)|((with_reducible refine dV (T:=24) ?_);refine nc (k:=2) (z:=.agg #[.int .i64 0,.int .i64 0]) (len:=3) hS underlying24 sizeOf43 zeroValue43 (by decide) (by decide) (aPd _ _ _ _ _ _) (fun bl fX hS=>?_);simp only [aD];simp only [aK] at hS))
 refine (aS8 _ 3 3 [a,b,c] _ _ (bN.ve (k:=2) (n:=3) hS (bW (i:=4) rfl) rfl (by decide)) (by simp [ha,hb,hc])).mono ?_;rintro e w' ⟨rfl,az⟩;have hS:=hS.below az.below az.drawn;simp only []
 go_wp2_with (with_reducible first|refine bA 1 hS isAgg43 sizeOf43 ?_|refine bA 2 hS isAgg43 sizeOf43 ?_|refine bA 3 hS isAgg43 sizeOf43 ?_)
 refine (hsd _ S (aP.at hS aC)).mono ?_;rintro e w' ⟨rfl,aR⟩;replace hS:=hS.aj aC bC bD aR;obtain⟨F1,aG,gp,bB,av,hS⟩:=hS;simp only [];go_wp2;refine bodyPost_ret (results_tmp2 rfl _ _ _) rfl ?_;exact⟨rfl,bB.step hS av aG⟩
def kA (d:Gp):Int:=if d.y<0∨(d.y=0∧d.x<0) then 1 else 0
def Gp.dir (d:Gp):Prop:=(-2147483648≤d.x∧d.x≤2147483648)∧(-2147483648≤d.y∧d.y≤2147483648)∧¬ (d.x=0∧d.y=0)
def jW (a b:Gp):Int:=if kA a=kA b then -gQ (a.x*b.y - a.y*b.x) else if kA a<kA b then -1 else 1
theorem aF5 (d:Gp) (w:World):Calls prog 199 #[.agg #[.int .i64 d.x,.int .i64 d.y]] w fun e w'=>e=.returned (.int .i64 (kA d))∧Pure w (fun _=>False) w' (fun _=>False):=by
 obtain⟨x,y⟩:=d;obtain⟨h,hh⟩:∃ h,kA ⟨x,y⟩=h:=⟨_,rfl⟩;rw [hh];unfold kA at hh;simp only at hh;have hS:=aA.start w
 by_cases hy:y<0
 ·rw [if_pos (.inl hy)] at hh
  subst hh
  go_enter func199,ntmps199
  go_wp2_with (with_reducible first|refine cI (T:=43) (v:=.agg _) hS fun bx cu hS=>?_|refine aU 1 hS isAgg3 ?_)
  go_ret;exact⟨rfl,hS.pure _⟩
 ·by_cases iJ:y=0
  ·subst iJ
   by_cases hx:x<0
   ·rw [if_pos (.inr ⟨rfl,hx⟩)] at hh
    subst hh;clear hy
    go_enter func199,ntmps199
    go_wp2_with (with_reducible first|refine cI (T:=43) (v:=.agg _) hS fun bx cu hS=>?_|refine aU 1 hS isAgg3 ?_)
    go_ret;exact⟨rfl,hS.pure _⟩
   ·rw [if_neg (by omega)] at hh
    subst hh;clear hy
    go_enter func199,ntmps199
    go_wp2_with (with_reducible first|refine cI (T:=43) (v:=.agg _) hS fun bx cu hS=>?_|refine aU 1 hS isAgg3 ?_)
    go_ret;exact⟨rfl,hS.pure _⟩
  ·rw [if_neg (by omega)] at hh
   subst hh;have hyf:(y == 0)=false:=by simpa using iJ
   clear iJ
   go_enter func199,ntmps199
   go_wp2_with (with_reducible first|refine cI (T:=43) (v:=.agg _) hS fun bx cu hS=>?_|refine aU 1 hS isAgg3 ?_)
   go_ret;exact⟨rfl,hS.pure _⟩
theorem aQL (a b:Int) (w:World):Calls prog 198 #[.int .i64 a,.int .i64 b] w fun e w'=>e=.returned (.int .i64 (cR a b))∧w=w':=by
 unfold cR
 by_cases h1:a<b
 ·rw [if_pos h1]
  go_enter func198,ntmps198
  go_wp2;go_ret;exact⟨rfl,rfl⟩
 ·rw [if_neg h1]
  by_cases h2:b<a
  ·rw [if_pos h2]
   go_enter func198,ntmps198
   go_wp2;go_ret;exact⟨rfl,rfl⟩
  ·rw [if_neg h2]
   go_enter func198,ntmps198
   go_wp2;go_ret;exact⟨rfl,rfl⟩
theorem aRY (a b:Gp) (w:World) (S:Nat→Prop) (hL:aP w S) (ha:a.dir) (hb:b.dir):Calls prog 169 #[.agg #[.int .i64 a.x,.int .i64 a.y],.agg #[.int .i64 b.x,.int .i64 b.y]] w fun e w'=>e=.returned (.int .i64 (jW a b))∧Pure w S w' S:=by
 obtain⟨h1,h2,_⟩:=ha;obtain⟨h3,h4,_⟩:=hb;obtain⟨t,ht⟩:∃ t,jW a b=t:=⟨_,rfl⟩;rw [ht];unfold jW at ht;have hsd:=fun w' S' eM=>aGp ⟨0,0⟩ a b w' S' eM (by simp only;omega) (by simp only;omega) (by simp only;omega) (by simp only;omega)
 have har:dQ ⟨0,0⟩ a b=a.x*b.y - a.y*b.x:=by unfold dQ;simp
 rw [har] at hsd;clear h1 h2 h3 h4 har;obtain⟨p,hp⟩:∃ p,kA a=p:=⟨_,rfl⟩;obtain⟨q,hq⟩:∃ q,kA b=q:=⟨_,rfl⟩;have hha:=aF5 a;have hhb:=aF5 b;rw [hp] at hha ht;rw [hq] at hhb ht;clear hp hq;obtain⟨hS,aC,bC,bD⟩:=eR hL
 go_enter func169,ntmps169
 go_wp2_with (with_reducible refine cI (T:=43) (v:=.agg _) hS fun bx cu hS=>?_)
 refine dB [.r 0,.r 2,.e 1,.e 3,.e 4,.p 5] [] hS fun w1 hS=>?_
 repeat (with_reducible first|refine cz 1 isAgg43 sizeOf43 ?_|refine cz 2 isAgg43 sizeOf43 ?_)
 refine aZ ?_
 go_wp2_with (fail)
 refine (hha _).mono ?_;rintro e w' ⟨rfl,az⟩;simp only [];go_step;have hS:=hS.below az.below az.drawn;refine aX hS ?_;refine aM ?_;refine aZ ?_
 go_wp2_with (fail)
 refine (hhb _).mono ?_;rintro e w' ⟨rfl,aR⟩;simp only [];go_step;have hS:=hS.below aR.below aR.drawn;refine aX hS ?_;refine aM ?_;refine aZ ?_
 go_wp2_with (fail)
 refine (aQL _ _ _).mono ?_;rintro e w' ⟨rfl,rfl⟩;simp only [];go_step;refine aX hS ?_;refine aM ?_;refine bE ?_
 by_cases gH:p=q
 ·rw [if_pos gH] at ht
  subst gH;rw [a2T]
  have jA:IntKind.i64.wrap (-gQ (a.x*b.y - a.y*b.x)) = -gQ (a.x*b.y - a.y*b.x):=by
   have:-1≤gQ (a.x*b.y - a.y*b.x)∧gQ (a.x*b.y - a.y*b.x)≤1:=by unfold gQ;split <;> (try split) <;> omega
   exact w6
  generalize gQ (a.x*b.y - a.y*b.x)=sg at *;replace ht:=Hd ht
  go_wp2_with (with_reducible first|refine bA 1 hS isAgg43 sizeOf43 ?_|refine bA 2 hS isAgg43 sizeOf43 ?_)
  refine (hsd _ S (aP.at hS aC)).mono ?_;rintro e w' ⟨rfl,bI⟩;replace hS:=hS.aj aC bC bD bI;obtain⟨F1,aG,-,bB,av,hS⟩:=hS;simp only [];go_wp2;go_ret;exact⟨jH ht.out,bB.step hS av aG⟩
 ·rw [if_neg gH] at ht
  have bJ:cR p q≠0:=fun h=>gH (a4E.1 h)
  have hct:cR p q=t:=by
   rw [← ht];unfold cR
   by_cases h:p<q
   ·rw [if_pos h,if_pos h]
   ·rw [if_neg h,if_neg h,if_pos (by omega)]
  rw [hct] at bJ ⊢;have htf:(t == 0)=false:=by simpa using bJ
  clear ht hct bJ;go_wp2;go_ret;exact⟨rfl,hS.pure _⟩
theorem aPL (ad:Option Addr) (n c:Nat) (l:List Gp) (w:World) (S:Nat→Prop) (hv:bN w S 2 (.slice ad n c) l.length (l.flatMap gc)) (bG:∀ p ∈ l,p.dir) :
 Calls prog 168 #[.slice ad n c] w fun e w'=>e=.returned (.int .i64 0)∧Pure w (fun _=>False) w' (fun _=>False):=by
 have hn:n=l.length:=by obtain⟨h1,a,cap,h2,_⟩:=hv;cases h2;rfl
 subst hn;have hle:=hv.le;have hS:=aA.start w;have dS:=hv.bj;clear hv
 go_enter func168,ntmps168
 go_wp2
 go_loopw [7] (fun v wr=>∃ k:Nat,k≤l.length∧v=.int .i64 (k:Int)∧aA w wr [.aH (Old w) w]) (fun v _=>l.length - (intOf v).toNat)
 case atStart=>exact⟨0,by omega,rfl,hS⟩
 case round =>
  clear hS;obtain⟨k,hk,rfl,hS⟩:=hrel
  by_cases cW:k<l.length
  ·obtain⟨⟨x,y⟩,hp⟩:∃ p,nth g0 l k=p:=⟨_,rfl⟩
   have hc:=eS yT g0 cW;rw [hp] at hc;obtain⟨o1,o2,o3⟩:=bG ⟨x,y⟩ (by rw [← hp];exact cQ g0 l k cW);simp only at o1 o2 o3;have wx:IntKind.i64.wrap (-x) = -x:=w6;have wy:IntKind.i64.wrap (-y) = -y:=w6;have t1:decide (2147483648<max x (-x))=false:=by simp;omega
   have t2:decide (2147483648<max y (-y))=false:=by simp;omega
   have t3:decide (min x y < -2147483648)=false:=by simp;omega
   clear o1 o2
   go_wp2_with (with_reducible first|refine iH underlying24 sizeOf43 dS hc fun bq oq bO=>?_|refine j9 hS isAgg43 sizeOf43 ?_|refine bH hS zeroValue43 fun bp wbp hS=>?_|refine aJ (u:=.agg #[_,_]) 1 hS sizeOf43 fun _ hS=>?_|refine bA 1 hS isAgg43 sizeOf43 ?_|refine aU 1 hS isAgg3 ?_)
   all_goals exact⟨⟨k+1,by omega,rfl,hS.sb⟩,by simp [intOf];omega⟩
  ·obtain rfl:k=l.length:=by omega
   go_wp2;go_ret;exact⟨rfl,hS.pure _⟩
theorem aLJ (a b:Gp) (w:World) (S:Nat→Prop) (hL:aP w S) (ha:a.dir) (hb:b.dir):Calls prog 115 #[.agg #[.int .i64 a.x,.int .i64 a.y],.agg #[.int .i64 b.x,.int .i64 b.y]] w fun e w'=>e=.returned (.tuple #[.int .i64 (jW a b),.int .i64 0])∧Pure w S w' S:=by
 obtain⟨hS,aC,bC,bD⟩:=eR hL
 go_enter func115,ntmps115
 go_wp2_with (first|(with_reducible first|refine cI (T:=43) (v:=.agg _) hS fun bx cu hS=>?_|refine bA 1 hS isAgg43 sizeOf43 ?_|refine bA 2 hS isAgg43 sizeOf43 ?_)|((with_reducible refine dV (T:=24) ?_);refine nc (k:=2) (z:=.agg #[.int .i64 0,.int .i64 0]) (len:=2) hS underlying24 sizeOf43 zeroValue43 (by decide) (by decide) (aQA _ _ _ _) (fun bl fX hS=>?_);simp only [aD];simp only [aK] at hS))
 refine (aPL _ 2 2 [a,b] _ _ (bN.ve (k:=2) (n:=2) hS (bW (i:=3) rfl) rfl (by decide)) (by simp [ha,hb])).mono ?_;rintro e w' ⟨rfl,az⟩;have hS:=hS.below az.below az.drawn;simp only []
 go_wp2_with (with_reducible first|refine bA 1 hS isAgg43 sizeOf43 ?_|refine bA 2 hS isAgg43 sizeOf43 ?_)
 refine (aRY a b _ S (aP.at hS aC) ha hb).mono ?_;rintro e w' ⟨rfl,aR⟩;replace hS:=hS.aj aC bC bD aR;obtain⟨F1,aG,-,bB,av,hS⟩:=hS;simp only [];go_wp2;refine bodyPost_ret (results_tmp2 rfl _ _ _) rfl ?_;exact⟨rfl,bB.step hS av aG⟩
structure Sz where
 a:Gp
 b:Gp
 deriving DecidableEq
def Sz.sg (s:Sz):Sg:=⟨s.a.pt,s.b.pt⟩
def sc (s:Sz):List Value:=[.int .i64 s.a.x,.int .i64 s.a.y,.int .i64 s.b.x,.int .i64 s.b.y]
theorem tc (s:Sz):(sc s).length=4:=rfl
def s0:Sz:=⟨g0,g0⟩
def Sz.ok (s:Sz):Prop:=s.a.ok∧s.b.ok∧s.a≠s.b
def Gp.lt (a b:Gp):Prop:=a.x<b.x∨(a.x=b.x∧a.y<b.y)
instance (a b:Gp):Decidable (a.lt b):=by unfold Gp.lt;infer_instance
theorem Gp.a3G {a b:Gp}:a.pt.lt b.pt↔a.lt b:=by
 unfold Pt.lt Gp.lt Gp.pt;simp only [Rat.intCast_lt_intCast,Rat.intCast_inj]
theorem Gp.aBa {a b:Gp}:a.pt=b.pt↔a=b:=by
 obtain⟨x,y⟩:=a;obtain⟨u,v⟩:=b;simp [Gp.pt,Rat.intCast_inj]
def Sz.lQ (s:Sz):Sz:=if s.b.lt s.a then ⟨s.b,s.a⟩ else s
theorem Sz.aIy (s:Sz):s.lQ.a.pt=s.sg.lo∧s.lQ.b.pt=s.sg.hi:=by
 unfold Sz.lQ Sg.lo Sg.hi Sz.sg
 by_cases h:s.b.lt s.a
 ·rw [if_pos h,if_pos (Gp.a3G.2 h),if_pos (Gp.a3G.2 h)];exact⟨rfl,rfl⟩
 ·rw [if_neg h,if_neg (fun e=>h (Gp.a3G.1 e)),if_neg (fun e=>h (Gp.a3G.1 e))];exact⟨rfl,rfl⟩
def Sz.bx (s:Sz):Go.Hp.aEL:=⟨min s.a.x s.b.x,min s.a.y s.b.y,max s.a.x s.b.x,max s.a.y s.b.y⟩
theorem yR (a b:Gp) (w:World):Calls prog 178 #[.agg #[.int .i64 a.x,.int .i64 a.y],.agg #[.int .i64 b.x,.int .i64 b.y]] w fun e w'=>e=.returned (.bool (decide (a.lt b)))∧Pure w (fun _=>False) w' (fun _=>False):=by
 obtain⟨x,y⟩:=a;obtain⟨u,v⟩:=b;obtain⟨r,hr⟩:∃ r,decide ((⟨x,y⟩:Gp).lt ⟨u,v⟩)=r:=⟨_,rfl⟩;rw [hr];unfold Gp.lt at hr;simp only at hr;have hS:=aA.start w
 by_cases h1:x<u
 ·have cT:r=true:=by rw [← hr];simp [h1]
  subst cT;clear hr
  go_enter func178,ntmps178
  go_wp2_with (with_reducible first|refine cI (T:=43) (v:=.agg _) hS fun bx cu hS=>?_|refine aU 1 hS isAgg3 ?_|refine aU 2 hS isAgg3 ?_)
  go_ret;exact⟨rfl,hS.pure _⟩
 ·by_cases h2:x=u
  ·subst h2
   have cT:r=decide (y<v):=by rw [← hr];simp
   subst cT;clear hr h1
   go_enter func178,ntmps178
   go_wp2_with (with_reducible first|refine cI (T:=43) (v:=.agg _) hS fun bx cu hS=>?_|refine aU 1 hS isAgg3 ?_|refine aU 2 hS isAgg3 ?_)
   go_ret;exact⟨rfl,hS.pure _⟩
  ·have cT:r=false:=by rw [← hr];simp [h1,h2]
   subst cT;have h2f:(x == u)=false:=by simpa using h2
   clear hr h2
   go_enter func178,ntmps178
   go_wp2_with (with_reducible first|refine cI (T:=43) (v:=.agg _) hS fun bx cu hS=>?_|refine aU 1 hS isAgg3 ?_|refine aU 2 hS isAgg3 ?_)
   go_ret;exact⟨rfl,hS.pure _⟩
theorem aHF (s:Sz) (w:World):Calls prog 145 #[.agg #[.int .i64 s.a.x,.int .i64 s.a.y,.int .i64 s.b.x,.int .i64 s.b.y]] w fun e w'=>e=.returned (.agg #[.int .i64 s.lQ.a.x,.int .i64 s.lQ.a.y,.int .i64 s.lQ.b.x,.int .i64 s.lQ.b.y])∧Pure w (fun _=>False) w' (fun _=>False):=by
 obtain⟨t,ht⟩:∃ t,s.lQ=t:=⟨_,rfl⟩;rw [ht];unfold Sz.lQ at ht;have hS:=aA.start w
 by_cases h:s.b.lt s.a
 ·rw [if_pos h] at ht
  subst ht;have hd:decide (s.b.lt s.a)=true:=by simpa using h
  have hb:=yR s.b s.a;rw [hd] at hb
  go_enter func145,ntmps145
  go_wp2_with (with_reducible first|refine cI (T:=94) (v:=.agg _) hS fun bx cu hS=>?_|refine bH hS zeroValue94 fun br fu hS=>?_|refine eW 1 hS isAgg43 sizeOf43 ?_)
  refine (hb _).mono ?_;rintro e w' ⟨rfl,hq⟩;have hS:=hS.below hq.below hq.drawn;simp only []
  go_wp2_with (with_reducible first|refine eW 1 hS isAgg43 sizeOf43 ?_|refine aJ (u:=.agg #[_,_]) 1 hS sizeOf43 fun _ hS=>?_|refine bA 1 hS isAgg94 sizeOf94 ?_|refine aJ (u:=.agg #[_,_,_,_]) 2 hS sizeOf94 fun _ hS=>?_)
  exact fE 2 hS rfl rfl rfl isAgg94 sizeOf94 rfl rfl ⟨rfl,hS.pure _⟩
 ·rw [if_neg h] at ht
  subst ht;have hd:decide (s.b.lt s.a)=false:=by simpa using h
  have hb:=yR s.b s.a;rw [hd] at hb
  go_enter func145,ntmps145
  go_wp2_with (with_reducible first|refine cI (T:=94) (v:=.agg _) hS fun bx cu hS=>?_|refine bH hS zeroValue94 fun br fu hS=>?_|refine eW 1 hS isAgg43 sizeOf43 ?_)
  refine (hb _).mono ?_;rintro e w' ⟨rfl,hq⟩;have hS:=hS.below hq.below hq.drawn;simp only []
  go_wp2_with (with_reducible first|refine bA 1 hS isAgg94 sizeOf94 ?_|refine aJ (u:=.agg #[_,_,_,_]) 2 hS sizeOf94 fun _ hS=>?_)
  exact fE 2 hS rfl rfl rfl isAgg94 sizeOf94 rfl rfl ⟨rfl,hS.pure _⟩
theorem aEq (s:Sz) (w:World):Calls prog 100 #[.agg #[.int .i64 s.a.x,.int .i64 s.a.y,.int .i64 s.b.x,.int .i64 s.b.y]] w fun e w'=>e=.returned (.agg #[.int .i64 s.bx.x0,.int .i64 s.bx.y0,.int .i64 s.bx.x1,.int .i64 s.bx.y1])∧Pure w (fun _=>False) w' (fun _=>False):=by
 have hS:=aA.start w
 go_enter func100,ntmps100
 go_wp2_with (with_reducible first|refine cI (T:=94) (v:=.agg _) hS fun bx cu hS=>?_|refine bH hS zeroValue167 fun br fu hS=>?_|refine aU 1 hS isAgg3 ?_|refine aJ (u:=.agg #[_,_,_,_]) 2 hS sizeOf167 fun _ hS=>?_)
 exact fE 2 hS rfl rfl rfl isAgg167 sizeOf167 rfl rfl ⟨rfl,hS.pure _⟩
theorem a2w (n:Int) (w:World) (S:Nat→Prop) (hn:bQ n) (hL:aP w S) :
 Calls prog 201 #[.int .i64 n] w (a8a w S (n:Rat)):=by
 obtain⟨hS,aC,bC,bD⟩:=eR hL
 go_enter func201,ntmps201
 go_wp2_with (with_reducible refine bH hS zeroValue53 fun br fu hS=>?_)
 refine (aBs n 1 _ S hn (by unfold bQ;omega) (aP.at hS aC) (by omega)).mono ?_;rintro e w' ⟨z,S2,rfl,hq,hz⟩;replace hS:=hS.aj aC bC bD hq;obtain⟨F1,aG,-,bB,av,hS⟩:=hS;simp only [iW]
 go_wp2_with (with_reducible first|refine bH hS zeroValue53 fun bx cu hS=>?_|refine aJ (u:=.agg #[.bool _,.slice _ _ _,.bool _,.slice _ _ _]) 2 hS sizeOf53 fun _ hS=>?_|refine aJ (u:=.agg #[.bool _,.slice _ _ _,.bool _,.slice _ _ _]) 1 hS sizeOf53 fun _ hS=>?_|refine bA 2 hS isAgg53 sizeOf53 ?_)
 exact fE 1 hS rfl rfl rfl isAgg53 sizeOf53 rfl rfl ⟨z,S2,rfl,bB.step hS av aG,(hz.at hS aG).cast (by simp [Rat.divInt,Rat.mkRat_one])⟩
theorem a4t (s:Sz) (p:Gp) (w:World) (S:Nat→Prop) (hL:aP w S) (ha:s.a.ok) (hb:s.b.ok) (hc:p.ok) :
 Calls prog 101 #[.agg #[.int .i64 s.a.x,.int .i64 s.a.y,.int .i64 s.b.x,.int .i64 s.b.y],.agg #[.int .i64 p.x,.int .i64 p.y]] w fun e w'=>e=.returned (.int .i64 (gQ (dQ s.a s.b p)))∧Pure w S w' S:=by
 obtain⟨hS,aC,bC,bD⟩:=eR hL
 go_enter func101,ntmps101
 go_wp2_with (with_reducible first|refine cI (T:=94) (v:=.agg _) hS fun bx cu hS=>?_|refine cI (T:=43) (v:=.agg _) hS fun bp wbp hS=>?_|refine eW 1 hS isAgg43 sizeOf43 ?_|refine bA 2 hS isAgg43 sizeOf43 ?_)
 refine (aSY s.a s.b p _ S (aP.at hS aC) ha hb hc).mono ?_;rintro e w' ⟨rfl,hq⟩;replace hS:=hS.aj aC bC bD hq;obtain⟨F1,aG,-,bB,av,hS⟩:=hS;simp only [];go_wp2;go_ret;exact⟨rfl,bB.step hS av aG⟩
theorem aOT (s:Sz) (w:World) (h:s.ok):Calls prog 140 #[.agg #[.int .i64 s.a.x,.int .i64 s.a.y,.int .i64 s.b.x,.int .i64 s.b.y]] w fun e w'=>e=.returned (.int .i64 0)∧Pure w (fun _=>False) w' (fun _=>False):=by
 obtain⟨⟨x,y⟩,⟨u,v⟩⟩:=s;obtain⟨ha,hb,bJ⟩:=h;have v1:=fun w=>a0L x y w ha.1 ha.2
 have v2:=fun w=>a0L u v w hb.1 hb.2
 have bJ:¬ (x=u∧y=v):=fun h=>bJ (by simp [h.1,h.2])
 clear ha hb;have hS:=aA.start w
 go_enter func140,ntmps140
 go_wp2_with (with_reducible first|refine cI (T:=94) (v:=.agg _) hS fun bx cu hS=>?_|refine eW 1 hS isAgg43 sizeOf43 ?_)
 refine (v1 _).mono ?_;rintro e w' ⟨rfl,hq⟩;have hS:=hS.below hq.below hq.drawn;simp only []
 go_wp2_with (with_reducible refine eW 1 hS isAgg43 sizeOf43 ?_)
 refine (v2 _).mono ?_;rintro e w' ⟨rfl,hq⟩;have hS:=hS.below hq.below hq.drawn;simp only []
 go_wp2_with (with_reducible refine eW 1 hS isAgg43 sizeOf43 ?_)
 all_goals (go_ret;exact⟨rfl,hS.pure _⟩)
theorem aUc (ad:Option Addr) (n c:Nat) (l:List Sz) (w:World) (S:Nat→Prop) (hv:bN w S 4 (.slice ad n c) l.length (l.flatMap sc)) (bG:∀ p ∈ l,p.ok) :
 Calls prog 94 #[.slice ad n c] w fun e w'=>e=.returned (.int .i64 0)∧Pure w (fun _=>False) w' (fun _=>False):=by
 have hn:n=l.length:=by obtain⟨h1,a,cap,h2,_⟩:=hv;cases h2;rfl
 subst hn;have hle:=hv.le;have hS:=aA.start w;have dS:=hv.bj;clear hv
 go_enter func94,ntmps94
 go_wp2
 go_loopw [8] (fun v wr=>∃ k:Nat,k≤l.length∧v=.int .i64 (k:Int)∧aA w wr [.aH (Old w) w]) (fun v _=>l.length - (intOf v).toNat)
 case atStart=>exact⟨0,by omega,rfl,hS⟩
 case round =>
  clear hS;obtain⟨k,hk,rfl,hS⟩:=hrel
  by_cases cW:k<l.length
  ·obtain⟨p,hp⟩:∃ p,nth s0 l k=p:=⟨_,rfl⟩
   have hc:=eS tc s0 cW;rw [hp] at hc;have ho:=bG p (by rw [← hp];exact cQ s0 l k cW);have vW:=fun w=>aOT p w ho
   clear ho hp
   go_wp2_with (first|(with_reducible first|refine iH underlying23 sizeOf94 dS hc fun bq oq bO=>?_|refine j9 hS isAgg94 sizeOf94 ?_|refine bH hS zeroValue94 fun bp wbp hS=>?_|refine aJ (u:=.agg #[_,_,_,_]) 1 hS sizeOf94 fun _ hS=>?_|refine bA 1 hS isAgg94 sizeOf94 ?_)|(go_at_call 140;refine (vW _).mono ?_;rintro e w' ⟨rfl,hq⟩;have hS:=hS.below hq.below hq.drawn))
   go_roundw
   case rel=>exact⟨k+1,by omega,rfl,hS.sb⟩
   case measure=>simp [intOf];omega
  ·obtain rfl:k=l.length:=by omega
   go_wp2;go_ret;exact⟨rfl,hS.pure _⟩
theorem aAP {a b p:Gp} (ha:a.ok) (hb:b.ok) (hp:p.ok):(dQ a b p).natAbs<2 ^ 67:=by
 unfold Gp.ok fS at *;unfold dQ;have h1:=sL (a:=(b.x - a.x).natAbs) (b:=(p.y - a.y).natAbs) (j:=33) (k:=33) (by omega) (by omega);have h2:=sL (a:=(b.y - a.y).natAbs) (b:=(p.x - a.x).natAbs) (j:=33) (k:=33) (by omega) (by omega);rw [← Int.natAbs_mul] at h1 h2;generalize (b.x - a.x)*(p.y - a.y)=u at *;generalize (b.y - a.y)*(p.x - a.x)=v at *;have:(2:Nat) ^ 67=2 ^ 66+2 ^ 66:=by decide
 omega
theorem Bq.div {j k:Nat} {a b:Rat} (ha:Bq j a) (hb:Bq k b) (h0:b≠0):Bq (j+k) (a / b):=by
 rw [Rat.div_def];exact ha.mul (hb.inv h0)
theorem aJG (s:Sz) (p:Gp) (w:World) (S:Nat→Prop) (hL:aP w S) (ha:s.a.ok) (hb:s.b.ok) (hc:p.ok) :
 Calls prog 179 #[.agg #[.int .i64 s.a.x,.int .i64 s.a.y,.int .i64 s.b.x,.int .i64 s.b.y],.agg #[.int .i64 p.x,.int .i64 p.y]] w (a8a w S (dQ s.a s.b p:Rat)):=by
 unfold Gp.ok fS at ha hb hc;have w1:IntKind.i64.wrap (s.b.x - s.a.x)=s.b.x - s.a.x:=w6;have w2:IntKind.i64.wrap (p.y - s.a.y)=p.y - s.a.y:=w6;have w3:IntKind.i64.wrap (s.b.y - s.a.y)=s.b.y - s.a.y:=w6;have w4:IntKind.i64.wrap (p.x - s.a.x)=p.x - s.a.x:=w6;have i1:bQ (s.b.x - s.a.x):=by unfold bQ;omega
 have i2:bQ (p.y - s.a.y):=by unfold bQ;omega
 have i3:bQ (s.b.y - s.a.y):=by unfold bQ;omega
 have i4:bQ (p.x - s.a.x):=by unfold bQ;omega
 have b1:Bq 33 ((s.b.x - s.a.x:Int):Rat):=Bq.int (by omega) (by omega);have b2:Bq 33 ((p.y - s.a.y:Int):Rat):=Bq.int (by omega) (by omega);have b3:Bq 33 ((s.b.y - s.a.y:Int):Rat):=Bq.int (by omega) (by omega);have b4:Bq 33 ((p.x - s.a.x:Int):Rat):=Bq.int (by omega) (by omega);clear ha hb hc
 have har:(dQ s.a s.b p:Rat)=((s.b.x - s.a.x:Int):Rat)*((p.y - s.a.y:Int):Rat) - ((s.b.y - s.a.y:Int):Rat)*((p.x - s.a.x:Int):Rat):=by
  unfold dQ;simp [Rat.intCast_sub,Rat.intCast_mul]
 rw [har];clear har;obtain⟨hS,aC,bC,bD⟩:=eR hL
 go_enter func179,ntmps179
 go_wp2_with (with_reducible first|refine cI hS fun bx cu hS=>?_|refine bH hS zeroValue53 fun br fu hS=>?_)
 refine kQ 1 [.p 0,.p 1,.r 2,.p 3,.p 4,.r 5,.p 6,.p 8,.r 9,.p 10,.p 11,.r 12,.p 13,.e 7,.e 14,.e 15,.p 16,.p 17,.p 18] [.e 20,.p 21] [] [eU 19 5 53 (.agg #[.bool false,.slice none 0 0,.bool false,.slice none 0 0])] w _ (by kernel_rfl) (by kernel_rfl) (o8 rfl zeroValue53) hS.drew ?_;obtain⟨aI,aT⟩:=hS.jw
 repeat (with_reducible first|refine vq 1 isAgg3 ?_|refine vq 2 isAgg3 ?_|refine lF ?_)
 refine eI rfl (fun B wB hS=>?_);simp only [aK] at hS
 go_wp2_with (fail)
 refine (a2w (s.b.x - s.a.x) _ S i1 (aP.at hS aC)).mono ?_;rintro e w' ⟨u,S1,rfl,az,hu⟩;simp only [];go_step
 try (have fG:=(fG.at hS aC).grow az)
 have aT:=aA.fC hS az.below aI aT;replace hS:=hS.aj aC bC bD az;obtain⟨F1,aG,gp,bB,av,hS⟩:=hS;have aI:=dZ.trans aI gp;refine eH (H:=_) hS aI aT ?_;refine dz ?_;refine eI rfl (fun B wB hS=>?_);simp only [aK] at hS
 go_wp2_with (fail)
 refine (a2w (p.y - s.a.y) _ S1 i2 (aP.at hS aG)).mono ?_;rintro e w' ⟨v,S2,rfl,aR,hv⟩;simp only [];go_step;have hu:=(hu.at hS aG).grow aR
 try (have fG:=(fG.at hS aG).grow aR)
 have aT:=aA.fC hS aR.below aI aT;replace hS:=hS.aj aG av bB aR;obtain⟨F2,aQ,jV,bR,bP,hS⟩:=hS;have aI:=dZ.trans aI jV;refine eH (H:=_) hS aI aT ?_;refine dz ?_;refine eI rfl (fun B wB hS=>?_);simp only [aK] at hS
 go_wp2_with (fail)
 refine (a1A u v _ _ 33 33 _ S2 (hu.at hS aQ) (hv.at hS aQ) (aP.at hS aQ) b1 b2 (by omega)).mono ?_;rintro e w' ⟨z1,S3,rfl,bI,fG⟩;simp only [iW];go_step
 try (have fG:=(fG.at hS aQ).grow bI)
 have aT:=aA.fC hS bI.below aI aT;replace hS:=hS.aj aQ bP bR bI;obtain⟨F3,bM,nQ,dP,dE,hS⟩:=hS;have aI:=dZ.trans aI nQ;refine eH (H:=_) hS aI aT ?_;refine dz ?_;refine mq (fun bq wB hS=>?_);simp only [aK] at hS;simp only [aD];refine aZ ?_
 (with_reducible refine aJ 4 hS sizeOf53 fun _ hS=>?_)
 refine aX (aA.gA hS.sb aI aT) ?_;refine aM ?_;refine bE ?_;clear aI aT;go_wp2;refine kQ 1 [.p 0,.p 1,.r 2,.p 3,.p 4,.r 5,.p 6,.p 8,.r 9,.p 10,.p 11,.r 12,.p 13,.e 7,.e 14,.e 15,.p 16,.p 17,.p 18] [.e 20,.p 21] [] [eU 19 7 53 (.agg #[.bool false,.slice none 0 0,.bool false,.slice none 0 0])] w _ (by kernel_rfl) (by kernel_rfl) (o8 rfl zeroValue53) hS.drew ?_;obtain⟨aI,aT⟩:=hS.jw
 repeat (with_reducible first|refine vq 1 isAgg3 ?_|refine vq 2 isAgg3 ?_|refine lF ?_)
 refine eI rfl (fun B wB hS=>?_);simp only [aK] at hS
 go_wp2_with (fail)
 refine (a2w (s.b.y - s.a.y) _ S3 i3 (aP.at hS bM)).mono ?_;rintro e w' ⟨u,S4,rfl,az,hu⟩;simp only [];go_step
 try (have fG:=(fG.at hS bM).grow az)
 have aT:=aA.fC hS az.below aI aT;replace hS:=hS.aj bM dE dP az;obtain⟨F4,bZ,tl,gN,gG,hS⟩:=hS;have aI:=dZ.trans aI tl;refine eH (H:=_) hS aI aT ?_;refine dz ?_;refine eI rfl (fun B wB hS=>?_);simp only [aK] at hS
 go_wp2_with (fail)
 refine (a2w (p.x - s.a.x) _ S4 i4 (aP.at hS bZ)).mono ?_;rintro e w' ⟨v,S5,rfl,aR,hv⟩;simp only [];go_step;have hu:=(hu.at hS bZ).grow aR
 try (have fG:=(fG.at hS bZ).grow aR)
 have aT:=aA.fC hS aR.below aI aT;replace hS:=hS.aj bZ gG gN aR;obtain⟨F5,cG,a4W,gR,ff,hS⟩:=hS;have aI:=dZ.trans aI a4W;refine eH (H:=_) hS aI aT ?_;refine dz ?_;refine eI rfl (fun B wB hS=>?_);simp only [aK] at hS
 go_wp2_with (fail)
 refine (a1A u v _ _ 33 33 _ S5 (hu.at hS cG) (hv.at hS cG) (aP.at hS cG) b3 b4 (by omega)).mono ?_;rintro e w' ⟨z2,S6,rfl,bI,gS⟩;simp only [iW];go_step
 try (have fG:=(fG.at hS cG).grow bI)
 have aT:=aA.fC hS bI.below aI aT;replace hS:=hS.aj cG ff gR bI;obtain⟨F6,eO,aEh,kY,j4,hS⟩:=hS;have aI:=dZ.trans aI aEh;refine eH (H:=_) hS aI aT ?_;refine dz ?_;refine mq (fun bq wB hS=>?_);simp only [aK] at hS;simp only [aD];refine aZ ?_
 (with_reducible refine aJ 5 hS sizeOf53 fun _ hS=>?_)
 refine aX (aA.gA hS.sb aI aT) ?_;refine aM ?_;refine bE ?_;clear aI aT
 go_wp2_with (with_reducible first|refine bA 4 hS isAgg53 sizeOf53 ?_|refine bA 5 hS isAgg53 sizeOf53 ?_)
 refine (zi z1 z2 _ _ (33+33) (33+33) _ S6 (fG.at hS eO) (gS.at hS eO) (aP.at hS eO) (b1.mul b2) (b3.mul b4) (by omega)).mono ?_;rintro e w' ⟨z,S7,rfl,hq7,hz⟩;replace hS:=hS.aj eO j4 kY hq7;obtain⟨F7,iR,-,mT,qN,hS⟩:=hS;simp only [iW]
 go_wp2_with (with_reducible first|refine bH hS zeroValue53 fun b20 aCI hS=>?_|refine aJ 6 hS sizeOf53 fun _ hS=>?_|refine aJ 3 hS sizeOf53 fun _ hS=>?_|refine bA 6 hS isAgg53 sizeOf53 ?_)
 exact fE 3 hS rfl rfl rfl isAgg53 sizeOf53 rfl rfl ⟨z,S7,rfl,mT.step hS qN iR,hz.at hS iR⟩
theorem aGK (f t:Int) (x:FR) (q:Rat) (k:Nat) (w:World) (S:Nat→Prop) (hx:eN w S x q) (hL:aP w S) (hf:fS f) (ht:fS t) (hk:Bq k q) (iE:k≤1000) :
 Calls prog 181 #[.int .i64 f,.int .i64 t,.agg #[.bool x.num.neg,.slice x.num.ad x.num.n x.num.cap,.bool x.less.neg,.slice x.less.ad x.less.n x.less.cap]] w (a8a w S ((f:Rat)+((t - f:Int):Rat)*q)):=by
 unfold fS at hf ht;have w1:IntKind.i64.wrap (t - f)=t - f:=w6;have i1:bQ (t - f):=by unfold bQ;omega
 have i2:bQ f:=by unfold bQ;omega
 have b1:Bq 33 ((t - f:Int):Rat):=Bq.int (by omega) (by omega);have b2:Bq 33 ((f:Int):Rat):=Bq.int (by omega) (by omega);clear hf ht;obtain⟨hS,aC,bC,bD⟩:=eR hL
 go_enter func181,ntmps181
 go_wp2_with (with_reducible first|refine cI hS fun bx cu hS=>?_|refine bH hS zeroValue53 fun br fu hS=>?_)
 refine kQ 1 [.p 0,.p 1,.p 2,.r 4,.e 3,.e 5,.p 6,.p 7,.p 8] [.e 10,.p 11] [] [eU 9 7 53 (.agg #[.bool false,.slice none 0 0,.bool false,.slice none 0 0])] w _ (by kernel_rfl) (by kernel_rfl) (o8 rfl zeroValue53) hS.drew ?_;obtain⟨aI,aT⟩:=hS.jw
 repeat (with_reducible first|refine kq 1 isAgg53 sizeOf53 ?_|refine lF ?_)
 refine eI rfl (fun B wB hS=>?_);simp only [aK] at hS
 go_wp2_with (fail)
 refine (a2w (t - f) _ S i1 (aP.at hS aC)).mono ?_;rintro e w' ⟨u,S1,rfl,az,hu⟩;simp only [];go_step;have hx:=(hx.at hS aC).grow az;have aT:=aA.fC hS az.below aI aT;replace hS:=hS.aj aC bC bD az;obtain⟨F1,aG,gp,bB,av,hS⟩:=hS;have aI:=dZ.trans aI gp;refine eH (H:=_) hS aI aT ?_;refine dz ?_;refine eI rfl (fun B wB hS=>?_);simp only [aK] at hS
 go_wp2_with (fail)
 refine (a1A u x _ _ 33 k _ S1 (hu.at hS aG) (hx.at hS aG) (aP.at hS aG) b1 hk (by omega)).mono ?_;rintro e w' ⟨z,S2,rfl,aR,hz⟩;simp only [iW];go_step;have aT:=aA.fC hS aR.below aI aT;replace hS:=hS.aj aG av bB aR;obtain⟨F2,aQ,jV,bR,bP,hS⟩:=hS;have aI:=dZ.trans aI jV;refine eH (H:=_) hS aI aT ?_;refine dz ?_;refine mq (fun bq wB hS=>?_);simp only [aK] at hS;simp only [aD];refine aZ ?_
 (with_reducible refine aJ 3 hS sizeOf53 fun _ hS=>?_)
 refine aX (aA.gA hS.sb aI aT) ?_;refine aM ?_;refine bE ?_;clear aI aT;go_wp2;refine kQ 1 [.p 0,.r 2,.e 1,.e 3,.p 4,.p 5,.p 6] [.e 8,.p 9] [] [eU 7 9 53 (.agg #[.bool false,.slice none 0 0,.bool false,.slice none 0 0])] w _ (by kernel_rfl) (by kernel_rfl) (o8 rfl zeroValue53) hS.drew ?_;obtain⟨aI,aT⟩:=hS.jw
 repeat (with_reducible first|refine kq 3 isAgg53 sizeOf53 ?_|refine lF ?_)
 refine eI rfl (fun B wB hS=>?_);simp only [aK] at hS
 go_wp2_with (fail)
 refine (a2w f _ S2 i2 (aP.at hS aQ)).mono ?_;rintro e w' ⟨v,S3,rfl,bI,hv⟩;simp only [];go_step;have hz:=(hz.at hS aQ).grow bI;have aT:=aA.fC hS bI.below aI aT;replace hS:=hS.aj aQ bP bR bI;obtain⟨F3,bM,nQ,dP,dE,hS⟩:=hS;have aI:=dZ.trans aI nQ;refine eH (H:=_) hS aI aT ?_;refine dz ?_;refine eI rfl (fun B wB hS=>?_);simp only [aK] at hS
 go_wp2_with (fail)
 refine (aAw v z _ _ 33 (33+k) _ S3 (hv.at hS bM) (hz.at hS bM) (aP.at hS bM) b2 (b1.mul hk) (by omega)).mono ?_;rintro e w' ⟨y,S4,rfl,cY,hy⟩;simp only [iW];go_step;have aT:=aA.fC hS cY.below aI aT;replace hS:=hS.aj bM dE dP cY;obtain⟨F4,bZ,tl,gN,gG,hS⟩:=hS;have aI:=dZ.trans aI tl;refine eH (H:=_) hS aI aT ?_;refine dz ?_;refine mq (fun bq2 wB hS=>?_);simp only [aK] at hS;simp only [aD];refine aZ ?_
 (with_reducible refine aJ 4 hS sizeOf53 fun _ hS=>?_)
 refine aX (aA.gA hS.sb aI aT) ?_;refine aM ?_;refine bE ?_;clear aI aT
 go_wp2_with (with_reducible first|refine bA 4 hS isAgg53 sizeOf53 ?_|refine aJ 2 hS sizeOf53 fun _ hS=>?_)
 exact fE 2 hS rfl rfl rfl isAgg53 sizeOf53 rfl rfl ⟨y,S4,rfl,gN.step hS gG bZ,hy.at hS bZ⟩
theorem aHJ (s t:Sz):lz s.sg t.sg=⟨(s.a.x:Rat)+((s.b.x - s.a.x:Int):Rat)*((dQ t.a t.b s.a:Rat) / ((dQ t.a t.b s.a:Rat) - (dQ t.a t.b s.b:Rat))),(s.a.y:Rat)+((s.b.y - s.a.y:Int):Rat)*((dQ t.a t.b s.a:Rat) / ((dQ t.a t.b s.a:Rat) - (dQ t.a t.b s.b:Rat)))⟩:=by
 unfold lz;rw [← yV,← yV,Rat.intCast_sub,Rat.intCast_sub,Rat.mul_comm ((s.b.x:Rat) - (s.a.x:Rat)),Rat.mul_comm ((s.b.y:Rat) - (s.a.y:Rat))]
 rfl
theorem aL1 {s t:Sz} (hs:s.a.ok∧s.b.ok) (ht:t.a.ok∧t.b.ok) (hd:dQ t.a t.b s.a≠dQ t.a t.b s.b):Bq 300 (lz s.sg t.sg).x∧Bq 300 (lz s.sg t.sg).y∧Bq 202 ((dQ t.a t.b s.a:Rat) / ((dQ t.a t.b s.a:Rat) - (dQ t.a t.b s.b:Rat))):=by
 have hA:=Bq.int (k:=67) (by omega) (aAP ht.1 ht.2 hs.1);have hB:=Bq.int (k:=67) (by omega) (aAP ht.1 ht.2 hs.2)
 have h0:(dQ t.a t.b s.a:Rat) - (dQ t.a t.b s.b:Rat)≠0:=by
  rw [← Rat.intCast_sub,Ne,Rat.intCast_eq_zero_iff];omega
 have hq:=hA.div (hA.sub hB) h0;rw [aHJ];obtain⟨⟨a1,a2⟩,⟨a3,a4⟩⟩:=hs;unfold fS at *;have k1:Bq 33 (s.a.x:Rat):=Bq.int (by omega) (by omega);have k2:Bq 33 (s.a.y:Rat):=Bq.int (by omega) (by omega);have k3:Bq 33 ((s.b.x - s.a.x:Int):Rat):=Bq.int (by omega) (by omega);have k4:Bq 33 ((s.b.y - s.a.y:Int):Rat):=Bq.int (by omega) (by omega);exact⟨(k1.add (k3.mul hq)).mono (by omega),(k2.add (k4.mul hq)).mono (by omega),hq⟩
def p0:PR:=⟨⟨⟨false,none,0,0⟩,⟨false,none,0,0⟩⟩,⟨⟨false,none,0,0⟩,⟨false,none,0,0⟩⟩⟩
def aHw (w:World) (S:Nat→Prop) (l:List Pt) (e:Ending) (w':World):Prop :=
 (l=[]∧e=.returned (.agg #[.int .i64 0,.bool p0.x.num.neg,.slice p0.x.num.ad p0.x.num.n p0.x.num.cap,.bool p0.x.less.neg,.slice p0.x.less.ad p0.x.less.n p0.x.less.cap,.bool p0.y.num.neg,.slice p0.y.num.ad p0.y.num.n p0.y.num.cap,.bool p0.y.less.neg,.slice p0.y.less.ad p0.y.less.n p0.y.less.cap,.bool p0.x.num.neg,.slice p0.x.num.ad p0.x.num.n p0.x.num.cap,.bool p0.x.less.neg,.slice p0.x.less.ad p0.x.less.n p0.x.less.cap,.bool p0.y.num.neg,.slice p0.y.num.ad p0.y.num.n p0.y.num.cap,.bool p0.y.less.neg,.slice p0.y.less.ad p0.y.less.n p0.y.less.cap])∧Pure w S w' S) ∨
 (∃ p z S',l=[p]∧e=.returned (.agg #[.int .i64 1,.bool z.x.num.neg,.slice z.x.num.ad z.x.num.n z.x.num.cap,.bool z.x.less.neg,.slice z.x.less.ad z.x.less.n z.x.less.cap,.bool z.y.num.neg,.slice z.y.num.ad z.y.num.n z.y.num.cap,.bool z.y.less.neg,.slice z.y.less.ad z.y.less.n z.y.less.cap,.bool p0.x.num.neg,.slice p0.x.num.ad p0.x.num.n p0.x.num.cap,.bool p0.x.less.neg,.slice p0.x.less.ad p0.x.less.n p0.x.less.cap,.bool p0.y.num.neg,.slice p0.y.num.ad p0.y.num.n p0.y.num.cap,.bool p0.y.less.neg,.slice p0.y.less.ad p0.y.less.n p0.y.less.cap])∧Pure w S w' S'∧dh w' S' z p) ∨
 (∃ p q z y S',l=[p,q]∧e=.returned (.agg #[.int .i64 2,.bool z.x.num.neg,.slice z.x.num.ad z.x.num.n z.x.num.cap,.bool z.x.less.neg,.slice z.x.less.ad z.x.less.n z.x.less.cap,.bool z.y.num.neg,.slice z.y.num.ad z.y.num.n z.y.num.cap,.bool z.y.less.neg,.slice z.y.less.ad z.y.less.n z.y.less.cap,.bool y.x.num.neg,.slice y.x.num.ad y.x.num.n y.x.num.cap,.bool y.x.less.neg,.slice y.x.less.ad y.x.less.n y.x.less.cap,.bool y.y.num.neg,.slice y.y.num.ad y.y.num.n y.y.num.cap,.bool y.y.less.neg,.slice y.y.less.ad y.y.less.n y.y.less.cap])∧Pure w S w' S'∧dh w' S' z p∧dh w' S' y q)
def a18 (s t:Sz):List Pt :=
 let f:=if s.a.lt t.a then t.a else s.a
 let g:=if t.b.lt s.b then t.b else s.b
 if f=g then [f.pt] else if g.lt f then [] else [f.pt,g.pt]
theorem aQc (s t:Sz):a18 s.lQ t.lQ=a4S s.sg t.sg:=by
 obtain⟨e1,e2⟩:=s.aIy;obtain⟨e3,e4⟩:=t.aIy;unfold a18 a4S;rw [← e1,← e2,← e3,← e4];simp only [Gp.a3G];generalize s.lQ.a=a;generalize s.lQ.b=b;generalize t.lQ.a=c;generalize t.lQ.b=d;have h1:(if a.lt c then c.pt else a.pt)=(if a.lt c then c else a).pt:=by split <;> rfl
 have h2:(if d.lt b then d.pt else b.pt)=(if d.lt b then d else b).pt:=by split <;> rfl
 rw [h1,h2];simp only [Gp.aBa,Gp.a3G]
theorem aDq (a b:Int):min (a:Rat) (b:Rat)=((min a b:Int):Rat):=by
 rcases Int.le_total a b with h|h
 ·have:(a:Rat)≤(b:Rat):=Rat.intCast_le_intCast.2 h
  rw [Int.min_eq_left h];grind
 ·have:(b:Rat)≤(a:Rat):=Rat.intCast_le_intCast.2 h
  rw [Int.min_eq_right h];grind
theorem aFn (a b:Int):max (a:Rat) (b:Rat)=((max a b:Int):Rat):=by
 rcases Int.le_total a b with h|h
 ·have:(a:Rat)≤(b:Rat):=Rat.intCast_le_intCast.2 h
  rw [Int.max_eq_right h];grind
 ·have:(b:Rat)≤(a:Rat):=Rat.intCast_le_intCast.2 h
  rw [Int.max_eq_left h];grind
theorem aNA (s t:Sz):yc s.sg t.sg↔(max s.bx.x0 t.bx.x0≤min s.bx.x1 t.bx.x1∧max s.bx.y0 t.bx.y0≤min s.bx.y1 t.bx.y1):=by
 unfold yc Sz.sg Gp.pt Sz.bx;simp only [aDq,aFn,Rat.intCast_le_intCast]
theorem aHz (a b:Int):0<gQ a*gQ b↔0<a*b:=by
 unfold gQ
 rcases Int.lt_trichotomy a 0 with h|h|h
 ·rw [if_pos h]
  rcases Int.lt_trichotomy b 0 with g|g|g
  ·rw [if_pos g];have:=Int.mul_pos_of_neg_of_neg h g;simp [this]
  ·subst g;simp
  ·rw [if_neg (by omega),if_pos g];have:=Int.mul_neg_of_neg_of_pos h g;omega
 ·subst h;simp
 ·rw [if_neg (by omega),if_pos h]
  rcases Int.lt_trichotomy b 0 with g|g|g
  ·rw [if_pos g];have:=Int.mul_neg_of_pos_of_neg h g;omega
  ·subst g;simp
  ·rw [if_neg (by omega),if_pos g];have:=Int.mul_pos h g;simp [this]
theorem aAz {a:Int}:gQ a=0↔a=0:=by unfold gQ;split <;> (try split) <;> omega
theorem aAG (a:Int):-1≤gQ a∧gQ a≤1:=by unfold gQ;split <;> (try split) <;> omega
theorem aT0 (s t:Sz):rT s.sg t.sg=if ¬ (max s.bx.x0 t.bx.x0≤min s.bx.x1 t.bx.x1∧max s.bx.y0 t.bx.y0≤min s.bx.y1 t.bx.y1) then [] else
 if gQ (dQ t.a t.b s.a)=0∧gQ (dQ t.a t.b s.b)=0 then a18 s.lQ t.lQ else
 if 0<gQ (dQ t.a t.b s.a)*gQ (dQ t.a t.b s.b)∨0<gQ (dQ s.a s.b t.a)*gQ (dQ s.a s.b t.b) then [] else [lz s.sg t.sg]:=by
 unfold rT;simp only [aNA,aQc,aHz,aAz];have e1:bT t.sg.a t.sg.b s.sg.a=(dQ t.a t.b s.a:Rat):=yV ..;have e2:bT t.sg.a t.sg.b s.sg.b=(dQ t.a t.b s.b:Rat):=yV ..;have e3:bT s.sg.a s.sg.b t.sg.a=(dQ s.a s.b t.a:Rat):=yV ..;have e4:bT s.sg.a s.sg.b t.sg.b=(dQ s.a s.b t.b:Rat):=yV ..;rw [e1,e2,e3,e4]
 have h0:∀ z:Int,0<(z:Rat)↔0<z:=fun z=>by
  have:=@Rat.intCast_lt_intCast 0 z
  simpa using this
 simp only [Rat.intCast_eq_zero_iff,← Rat.intCast_mul,h0]
theorem aWh (s t:Sz) (w:World) (S:Nat→Prop) (hL:aP w S) (hs:s.a.ok∧s.b.ok) (ht:t.a.ok∧t.b.ok) (hd:dQ t.a t.b s.a≠dQ t.a t.b s.b) :
 Calls prog 146 #[.agg #[.int .i64 s.a.x,.int .i64 s.a.y,.int .i64 s.b.x,.int .i64 s.b.y],.agg #[.int .i64 t.a.x,.int .i64 t.a.y,.int .i64 t.b.x,.int .i64 t.b.y]] w (aIr w S (lz s.sg t.sg)):=by
 obtain⟨_,_,yS⟩:=aL1 hs ht hd;have hA:=Bq.int (k:=67) (by omega) (aAP ht.1 ht.2 hs.1);have hB:=Bq.int (k:=67) (by omega) (aAP ht.1 ht.2 hs.2)
 have h0:(dQ t.a t.b s.a:Rat) - (dQ t.a t.b s.b:Rat)≠0:=by
  rw [← Rat.intCast_sub,Ne,Rat.intCast_eq_zero_iff];omega
 rw [aHJ];have ar1:=fun w S hL=>aJG t s.a w S hL ht.1 ht.2 hs.1
 have ar2:=fun w S hL=>aJG t s.b w S hL ht.1 ht.2 hs.2
 clear hd;have e1:∃ q,q=(dQ t.a t.b s.a:Rat):=⟨_,rfl⟩;obtain⟨qa,eA⟩:=e1;have e2:∃ q,q=(dQ t.a t.b s.b:Rat):=⟨_,rfl⟩;obtain⟨qb,eB⟩:=e2;simp only [← eA,← eB] at ar1 ar2 yS hA hB h0 ⊢;clear eA eB;obtain⟨hS,aC,bC,bD⟩:=eR hL
 go_enter func146,ntmps146
 go_wp2_with (with_reducible first|refine cI hS fun bx cu hS=>?_|refine bH hS zeroValue55 fun br fu hS=>?_)
 refine kQ 1 [.r 0,.p 1,.r 2,.r 4,.p 5,.r 6,.e 3,.e 7] [.e 10,.e 11] [] [eU 8 5 53 (.agg #[.bool false,.slice none 0 0,.bool false,.slice none 0 0]),eU 9 6 53 (.agg #[.bool false,.slice none 0 0,.bool false,.slice none 0 0])] w _ (by kernel_rfl) (by kernel_rfl) (a0n rfl zeroValue53 rfl zeroValue53 (by decide) (by decide)) hS.drew ?_;obtain⟨aI,aT⟩:=hS.jw
 repeat (with_reducible first|refine kq 2 isAgg94 sizeOf94 ?_|refine py 1 isAgg43 sizeOf43 ?_|refine lF ?_)
 refine eI rfl (fun B wB hS=>?_);simp only [aK] at hS
 go_wp2_with (fail)
 refine (ar1 _ S (aP.at hS aC)).mono ?_;rintro e w' ⟨u,S1,rfl,az,hu⟩;simp only [];go_step;have aT:=aA.fC hS az.below aI aT;replace hS:=hS.aj aC bC bD az;obtain⟨F1,aG,gp,bB,av,hS⟩:=hS;have aI:=dZ.trans aI gp;refine eH (H:=_) hS aI aT ?_;refine dz ?_;refine eI rfl (fun B wB hS=>?_);simp only [aK] at hS
 go_wp2_with (fail)
 refine (ar2 _ S1 (aP.at hS aG)).mono ?_;rintro e w' ⟨v,S2,rfl,aR,hv⟩;simp only [];go_step;have hu:=(hu.at hS aG).grow aR;have aT:=aA.fC hS aR.below aI aT;replace hS:=hS.aj aG av bB aR;obtain⟨F2,aQ,jV,bR,bP,hS⟩:=hS;have aI:=dZ.trans aI jV;refine eH (H:=_) hS aI aT ?_;refine dz ?_;refine a0H (fun b5 b6 wB hS=>?_);simp only [aK] at hS;simp only [aD];refine aZ ?_
 (with_reducible refine aJ 4 hS sizeOf53 fun _ hS=>?_)
 refine aX (aA.gA hS.sb aI aT) ?_;refine aM ?_;refine aZ ?_
 (with_reducible refine aJ 5 hS sizeOf53 fun _ hS=>?_)
 refine aX (aA.gA hS.sb aI aT) ?_;refine aM ?_;refine bE ?_;clear aI aT
 go_wp2_with (with_reducible first|refine bA 4 hS isAgg53 sizeOf53 ?_|refine bA 5 hS isAgg53 sizeOf53 ?_)
 refine (zi u v qa qb 67 67 _ S2 (hu.at hS aQ) (hv.at hS aQ) (aP.at hS aQ) hA hB (by omega)).mono ?_;rintro e w' ⟨wh,S3,rfl,bI,hwh⟩;have hu:=(hu.at hS aQ).grow bI;replace hS:=hS.aj aQ bP bR bI;obtain⟨F3,bM,-,dP,dE,hS⟩:=hS;simp only [iW]
 go_wp2_with (with_reducible first|refine bH hS zeroValue53 fun b7 wb7 hS=>?_|refine aJ 6 hS sizeOf53 fun _ hS=>?_|refine bA 4 hS isAgg53 sizeOf53 ?_|refine bA 6 hS isAgg53 sizeOf53 ?_)
 refine (aG4 u wh qa (qa - qb) 67 (67+67+1) _ S3 (hu.at hS bM) (hwh.at hS bM) (aP.at hS bM) hA (hA.sub hB) (by omega) h0).mono ?_;rintro e w' ⟨q,S4,rfl,cY,hq⟩;replace hS:=hS.aj bM dE dP cY;obtain⟨F4,bZ,-,gN,gG,hS⟩:=hS;simp only [iW]
 go_wp2_with (with_reducible first|refine bH hS zeroValue53 fun b9 xX hS=>?_|refine aJ 7 hS sizeOf53 fun _ hS=>?_)
 refine gI [.p 0,.p 1,.r 2,.p 3,.p 4,.r 5,.r 6,.p 8,.p 9,.r 10,.p 11,.p 12,.r 13,.r 14,.e 7,.e 15,.p 16,.m 17] [17] (fun w'=>aA w w' _) (by kernel_rfl) (by as_aux_lemma=>kernel_rfl) hS.drew (fun w1 hS=>?_);have hC:=hS
 repeat (with_reducible first|refine cZ 1 isAgg3 ?_|refine cz 7 isAgg53 sizeOf53 ?_|refine bU ?_)
 refine aZ ?_
 go_wp2_with (fail)
 refine (aGK s.a.x s.b.x q _ 202 _ S4 (hq.at hS bZ) (aP.at hS bZ) hs.1.1 hs.2.1 yS (by omega)).mono ?_;rintro e w' ⟨x,S5,rfl,gh,hx⟩;simp only [];go_step;have hq:=(hq.at hS bZ).grow gh;have hC:=hC.below gh.below gh.drawn;replace hS:=hS.aj bZ gG gN gh;obtain⟨F5,cG,-,gR,ff,hS⟩:=hS;refine aX hC ?_;refine aM ?_;refine aZ ?_
 go_wp2_with (fail)
 refine (aGK s.a.y s.b.y q _ 202 _ S5 (hq.at hS cG) (aP.at hS cG) hs.1.2 hs.2.2 yS (by omega)).mono ?_;rintro e w' ⟨y,S6,rfl,lT,hy⟩;simp only [];go_step;have hx:=(hx.at hS cG).grow lT;have hC:=hC.below lT.below lT.drawn;replace hS:=hS.aj cG ff gR lT;obtain⟨F6,eO,-,kY,j4,hS⟩:=hS;refine aX hC ?_;refine aM ?_;refine dC ?_
 (with_reducible refine aJ 3 hS sizeOf55 fun _ hS=>?_)
 refine dD ?_;refine aM ?_;refine bE ?_;go_wp2;exact fE 3 hS rfl rfl rfl isAgg55 sizeOf55 rfl rfl ⟨⟨x,y⟩,S6,rfl,kY.step hS j4 eO,hx.at hS eO,hy.at hS eO⟩
end Go.Hp
