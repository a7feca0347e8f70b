/- Texts for the walk of the law: GB GC D1. -/
import Derived.Test.YtihpoboahbpaiaaGreatQ15
set_option maxRecDepth 100000
set_option maxHeartbeats 16000000
set_option linter.unusedVariables false
set_option linter.unusedSimpArgs false
namespace Go.Hp
def Sg.lo (s:Sg):Pt:=if s.b.lt s.a then s.b else s.a
def Sg.hi (s:Sg):Pt:=if s.b.lt s.a then s.a else s.b
theorem Sg.lo_le (s:Sg):s.lo.le s.hi:=by
 unfold Sg.lo Sg.hi
 split
 ·rename_i h;exact Pt.le_iff.2 (.inl h)
 ·rename_i h;exact Pt.not_lt.1 h
theorem Sg.lo_hi (s:Sg):(s.lo=s.a∧s.hi=s.b)∨(s.lo=s.b∧s.hi=s.a):=by
 unfold Sg.lo Sg.hi
 split
 ·exact .inr ⟨rfl,rfl⟩
 ·exact .inl ⟨rfl,rfl⟩
theorem onS_turn {a b p:Pt}:onS ⟨a,b⟩ p↔onS ⟨b,a⟩ p:=by
 have h1:area a b p = -area b a p:=by unfold area;grind
 have h2:area a b p=0↔area b a p=0:=by rw [h1];grind
 unfold onS inBox;simp only [h2]
 grind
theorem onS_lohi {s:Sg} {p:Pt}:onS s p↔onS ⟨s.lo,s.hi⟩ p:=by
 rcases s.lo_hi with ⟨h1,h2⟩|⟨h1,h2⟩
 ·rw [h1,h2]
 ·rw [h1,h2,← onS_turn]
theorem lex_aux {a b p:Pt} (hab:a.lt b) (h0:area a b p=0):onS ⟨a,b⟩ p↔a.le p∧p.le b:=by
 unfold area at h0
 rcases hab with hx|⟨hx,hy⟩
 ·have hd:0<b.x - a.x:=by grind
  have mono:∀ {q:Rat},0≤q*(p.x - a.x)→0≤q*(b.x - p.x)→True:=fun _ _=>trivial
  constructor
  ·rintro⟨_,g1,g2,g3,g4⟩
   simp only at g1 g2 g3 g4
   constructor
   ·unfold Pt.le
    by_cases e:a.x=p.x
    ·right
     have:(b.x - a.x)*(p.y - a.y)=0:=by
      have e2:p.x - a.x=0:=by grind
      rw [e2] at h0;grind
     rcases Rat.mul_eq_zero.1 this with h|h <;> grind
    ·left;grind
   ·unfold Pt.le
    by_cases e:p.x=b.x
    ·right
     have:(b.x - a.x)*(p.y - b.y)=0:=by rw [e] at h0;grind
     rcases Rat.mul_eq_zero.1 this with h|h <;> grind
    ·left;grind
  ·rintro⟨g1,g2⟩
   have k1:a.x≤p.x:=by unfold Pt.le at g1;grind
   have k2:p.x≤b.x:=by unfold Pt.le at g2;grind
   refine⟨h0,by simp only;grind,by simp only;grind,?_,?_⟩
   ·simp only
    rcases rtot a.y b.y with hy|hy
    ·have h1:0≤(b.y - a.y)*(p.x - a.x):=rmul_nn (by grind) (by grind)
     have h2:=rnn_of (b:=p.y - a.y) hd (by grind)
     grind
    ·have h1:0≤(a.y - b.y)*(b.x - p.x):=rmul_nn (by grind) (by grind)
     have h2:=rnn_of (b:=p.y - b.y) hd (by grind)
     grind
   ·simp only
    rcases rtot a.y b.y with hy|hy
    ·have h1:0≤(b.y - a.y)*(b.x - p.x):=rmul_nn (by grind) (by grind)
     have h2:=rnn_of (b:=b.y - p.y) hd (by grind)
     grind
    ·have h1:0≤(a.y - b.y)*(p.x - a.x):=rmul_nn (by grind) (by grind)
     have h2:=rnn_of (b:=a.y - p.y) hd (by grind)
     grind
 ·have e:p.x=a.x:=by
   have:(b.y - a.y)*(p.x - a.x)=0:=by grind
   rcases Rat.mul_eq_zero.1 this with h|h <;> grind
  unfold onS inBox Pt.le area;simp only
  grind
theorem area_swap (a b c:Pt):area a b c = -area b a c:=by unfold area;grind
theorem area_same (a b:Pt):area a b a=0∧area a b b=0:=by unfold area;grind
theorem onS_lex {s:Sg} {p:Pt} (hne:s.a≠s.b) (h0:area s.a s.b p=0):onS s p↔s.lo.le p∧p.le s.hi:=by
 rw [onS_lohi]
 rcases s.lo_hi with ⟨h1,h2⟩|⟨h1,h2⟩
 ·rw [h1,h2]
  refine lex_aux ?_ h0;have:=s.lo_le;rw [h1,h2] at this
  rcases Pt.le_iff.1 this with h|h
  ·exact h
  ·exact absurd h hne
 ·rw [h1,h2]
  refine lex_aux ?_ (by rw [area_swap,h0];rfl);have:=s.lo_le;rw [h1,h2] at this
  rcases Pt.le_iff.1 this with h|h
  ·exact h
  ·exact absurd h.symm hne
theorem onS_a {s:Sg}:onS s s.a:=onS_of (u:=0) (by decide) (by decide) (by grind) (by grind)
theorem onS_b {s:Sg}:onS s s.b:=onS_of (u:=1) (by decide) (by decide) (by grind) (by grind)
def lineL (s t:Sg):List Pt :=
 let f:=if s.lo.lt t.lo then t.lo else s.lo
 let g:=if t.hi.lt s.hi then t.hi else s.hi
 if f=g then [f] else if g.lt f then [] else [f,g]
theorem flat_det {s t:Sg} (h1:area t.a t.b s.a=0) (h2:area t.a t.b s.b=0):det s t=0:=by rw [← area_det,h1,h2];grind
theorem flat_turn {s t:Sg} (ht:t.a≠t.b) (h1:area t.a t.b s.a=0) (h2:area t.a t.b s.b=0):area s.a s.b t.a=0∧area s.a s.b t.b=0:=by
 unfold area at *
 by_cases hx:t.a.x=t.b.x
 ·have hy:t.b.y - t.a.y≠0:=fun e=>ht (Pt.ext' hx (by grind))
  have e1:(t.b.y - t.a.y)*(s.a.x - t.a.x)=0:=by grind
  have e2:(t.b.y - t.a.y)*(s.b.x - t.a.x)=0:=by grind
  rcases Rat.mul_eq_zero.1 e1 with e1|e1
  ·exact absurd e1 hy
  rcases Rat.mul_eq_zero.1 e2 with e2|e2
  ·exact absurd e2 hy
  grind
 ·have hx':t.b.x - t.a.x≠0:=by grind
  have e3:(t.b.x - t.a.x)*((s.b.x - s.a.x)*(t.a.y - s.a.y) - (s.b.y - s.a.y)*(t.a.x - s.a.x))=0:=by grind
  have e4:(t.b.x - t.a.x)*((s.b.x - s.a.x)*(t.b.y - s.a.y) - (s.b.y - s.a.y)*(t.b.x - s.a.x))=0:=by grind
  rcases Rat.mul_eq_zero.1 e3 with e3|e3
  ·exact absurd e3 hx'
  rcases Rat.mul_eq_zero.1 e4 with e4|e4
  ·exact absurd e4 hx'
  exact⟨e3,e4⟩
theorem Sg.end_flat {s t:Sg} (hs:s.a≠s.b) (ht:t.a≠t.b) (h1:area t.a t.b s.a=0) (h2:area t.a t.b s.b=0) {p:Pt} (hp:p=s.a∨p=s.b∨p=t.a∨p=t.b):area s.a s.b p=0∧area t.a t.b p=0:=by
 obtain⟨g1,g2⟩:=flat_turn ht h1 h2
 rcases hp with rfl|rfl|rfl|rfl
 ·exact⟨(area_same _ _).1,h1⟩
 ·exact⟨(area_same _ _).2,h2⟩
 ·exact⟨g1,(area_same _ _).1⟩
 ·exact⟨g2,(area_same _ _).2⟩
theorem line_iff {s t:Sg} (hs:s.a≠s.b) (ht:t.a≠t.b) (h1:area t.a t.b s.a=0) (h2:area t.a t.b s.b=0) (p:Pt):p ∈ lineL s t↔isCut s t p:=by
 have hd:=flat_det h1 h2
 have ends:(p=s.lo∨p=s.hi∨p=t.lo∨p=t.hi)↔(p=s.a∨p=s.b∨p=t.a∨p=t.b):=by
  rcases s.lo_hi with ⟨e1,e2⟩|⟨e1,e2⟩ <;> rcases t.lo_hi with ⟨e3,e4⟩|⟨e3,e4⟩ <;> rw [e1,e2,e3,e4] <;> grind
 have key:isCut s t p↔(p=s.lo∨p=s.hi∨p=t.lo∨p=t.hi)∧s.lo.le p∧p.le s.hi∧t.lo.le p∧p.le t.hi:=by
  unfold isCut
  constructor
  ·rintro⟨g1,g2,g3⟩
   have g3:p=s.a∨p=s.b∨p=t.a∨p=t.b:=by
    rcases g3 with g3|g3
    ·exact absurd hd g3
    ·exact g3
   obtain⟨f1,f2⟩:=Sg.end_flat hs ht h1 h2 g3;have k1:=(onS_lex hs f1).1 g1;have k2:=(onS_lex ht f2).1 g2;exact⟨ends.2 g3,k1.1,k1.2,k2.1,k2.2⟩
  ·rintro⟨g3,k1,k2,k3,k4⟩
   have g3:=ends.1 g3;obtain⟨f1,f2⟩:=Sg.end_flat hs ht h1 h2 g3;exact⟨(onS_lex hs f1).2 ⟨k1,k2⟩,(onS_lex ht f2).2 ⟨k3,k4⟩,.inr g3⟩
 rw [key];clear key ends hd h1 h2;have hsl:=s.lo_le;have htl:=t.lo_le;unfold lineL;simp only;generalize s.lo=a at *;generalize s.hi=b at *;generalize t.lo=c at *;generalize t.hi=d at *;obtain⟨f,hf⟩:∃ f,(if a.lt c then c else a)=f:=⟨_,rfl⟩;obtain⟨g,hg⟩:∃ g,(if d.lt b then d else b)=g:=⟨_,rfl⟩;rw [hf,hg]
 have f1:a.le f∧c.le f∧(f=a∨f=c):=by
  rw [← hf];split
  ·rename_i h;exact⟨Pt.le_iff.2 (.inl h),Pt.le_refl _,.inr rfl⟩
  ·rename_i h;exact⟨Pt.le_refl _,Pt.not_lt.1 h,.inl rfl⟩
 have g1:g.le b∧g.le d∧(g=b∨g=d):=by
  rw [← hg];split
  ·rename_i h;exact⟨Pt.le_iff.2 (.inl h),Pt.le_refl _,.inr rfl⟩
  ·rename_i h;exact⟨Pt.le_refl _,Pt.not_lt.1 h,.inl rfl⟩
 clear hf hg
 have iff2:((p=a∨p=b∨p=c∨p=d)∧a.le p∧p.le b∧c.le p∧p.le d)↔(f.le g∧(p=f∨p=g)):=by
  constructor
  ·rintro⟨k,k1,k2,k3,k4⟩
   have kf:f.le p:=by rcases f1.2.2 with e|e <;> rw [e] <;> assumption
   have kg:p.le g:=by rcases g1.2.2 with e|e <;> rw [e] <;> assumption
   refine⟨Pt.le_trans kf kg,?_⟩
   rcases k with rfl|rfl|rfl|rfl
   ·exact .inl (Pt.le_antisymm f1.1 kf)
   ·exact .inr (Pt.le_antisymm kg g1.1)
   ·exact .inl (Pt.le_antisymm f1.2.1 kf)
   ·exact .inr (Pt.le_antisymm kg g1.2.1)
  ·rintro⟨k,k1⟩
   rcases k1 with rfl|rfl
   ·refine⟨?_,f1.1,Pt.le_trans k g1.1,f1.2.1,Pt.le_trans k g1.2.1⟩
    rcases f1.2.2 with e|e
    ·exact .inl e
    ·exact .inr (.inr (.inl e))
   ·refine⟨?_,Pt.le_trans f1.1 k,g1.1,Pt.le_trans f1.2.1 k,g1.2.1⟩
    rcases g1.2.2 with e|e
    ·exact .inr (.inl e)
    ·exact .inr (.inr (.inr e))
 rw [iff2]
 by_cases e:f=g
 ·subst e
  simp [Pt.le_refl]
 ·rw [if_neg e]
  by_cases hlt:g.lt f
  ·rw [if_pos hlt]
   simp only [List.not_mem_nil,false_iff,not_and];intro h;exact absurd hlt (Pt.not_lt.2 h)
  ·rw [if_neg hlt]
   have:=Pt.not_lt.1 hlt;simp [this]
def boxesMeet (s t:Sg):Prop:=max (min s.a.x s.b.x) (min t.a.x t.b.x)≤min (max s.a.x s.b.x) (max t.a.x t.b.x)∧max (min s.a.y s.b.y) (min t.a.y t.b.y)≤min (max s.a.y s.b.y) (max t.a.y t.b.y)
instance (s t:Sg):Decidable (boxesMeet s t):=by unfold boxesMeet;infer_instance
def meetL (s t:Sg):List Pt :=
 if ¬ boxesMeet s t then [] else
 if area t.a t.b s.a=0∧area t.a t.b s.b=0 then lineL s t else
 if 0<area t.a t.b s.a*area t.a t.b s.b∨0<area s.a s.b t.a*area s.a s.b t.b then [] else [crossing s t]
theorem boxes_of {s t:Sg} {p:Pt} (hs:onS s p) (ht:onS t p):boxesMeet s t:=by
 obtain⟨_,a1,a2,a3,a4⟩:=hs;obtain⟨_,b1,b2,b3,b4⟩:=ht;unfold boxesMeet
 constructor
 ·generalize min s.a.x s.b.x=x1 at *
  generalize max s.a.x s.b.x=x2 at *;generalize min t.a.x t.b.x=x3 at *;generalize max t.a.x t.b.x=x4 at *
  grind
 ·generalize min s.a.y s.b.y=x1 at *
  generalize max s.a.y s.b.y=x2 at *;generalize min t.a.y t.b.y=x3 at *;generalize max t.a.y t.b.y=x4 at *
  grind
theorem meet_iff {s t:Sg} (hs:s.a≠s.b) (ht:t.a≠t.b) (p:Pt):p ∈ meetL s t↔isCut s t p:=by
 unfold meetL
 by_cases hb:boxesMeet s t
 ·rw [if_neg (by simpa using hb)]
  by_cases hf:area t.a t.b s.a=0∧area t.a t.b s.b=0
  ·rw [if_pos hf];exact line_iff hs ht hf.1 hf.2 p
  ·rw [if_neg hf]
   have e:=area_det s t
   by_cases hd:det s t=0
   ·have heq:area t.a t.b s.a=area t.a t.b s.b:=by grind
    have hne:area t.a t.b s.b≠0:=fun h=>hf ⟨by rw [heq];exact h,h⟩
    rw [if_pos (by
     left
     rw [heq]
     rcases rtot 0 (area t.a t.b s.b) with h|h
     ·exact rmul_pos (by grind) (by grind)
     ·have:=rmul_pos (a:=-area t.a t.b s.b) (b:=-area t.a t.b s.b) (by grind) (by grind);grind)]
    constructor
    ·intro h;cases h
    ·rintro⟨g1,g2,g3⟩
     exfalso
     obtain⟨u,_,_,ax,ay⟩:=onS_ex hs g1;have k:=g2.1;apply hne;unfold area det at *;rw [ax,ay] at k
     grind
   ·have hc:=cross_iff hs ht hd
    by_cases hsg:0<area t.a t.b s.a*area t.a t.b s.b∨0<area s.a s.b t.a*area s.a s.b t.b
    ·rw [if_pos hsg]
     constructor
     ·intro h;cases h
     ·rintro⟨g1,g2,g3⟩
      have e3:=cross_unique hd g1 g2;have:=hc.2 ⟨e3 ▸ g1,e3 ▸ g2⟩
      rcases hsg with h|h
      ·exact absurd h this.1
      ·exact absurd h this.2
    ·rw [if_neg hsg]
     have h2:=hc.1 ⟨fun h=>hsg (.inl h),fun h=>hsg (.inr h)⟩;rw [List.mem_singleton]
     constructor
     ·rintro rfl;exact⟨h2.1,h2.2,.inl hd⟩
     ·rintro⟨g1,g2,g3⟩;exact cross_unique hd g1 g2
 ·rw [if_pos hb]
  constructor
  ·intro h;cases h
  ·rintro⟨g1,g2,g3⟩;exact absurd (boxes_of g1 g2) hb
def cutsL (s t:Sg):List Pt :=
 if det s t≠0 then (if onS s (crossing s t)∧onS t (crossing s t) then [crossing s t] else [])
 else [s.a,s.b,t.a,t.b].filter fun p=>decide (onS s p∧onS t p)
theorem cuts_iff (s t:Sg) (p:Pt):p ∈ cutsL s t↔isCut s t p:=by
 unfold cutsL isCut
 by_cases hd:det s t=0
 ·rw [if_neg (by simpa using hd)]
  simp only [List.mem_filter,List.mem_cons,List.not_mem_nil,or_false,decide_eq_true_eq]
  constructor
  ·rintro⟨h,g1,g2⟩;exact⟨g1,g2,.inr h⟩
  ·rintro⟨g1,g2,h⟩
   rcases h with h|h
   ·exact absurd hd h
   ·exact⟨h,g1,g2⟩
 ·rw [if_pos hd]
  constructor
  ·intro h
   split at h
   ·rename_i h2
    rw [List.mem_singleton] at h;subst h;exact⟨h2.1,h2.2,.inl hd⟩
   ·cases h
  ·rintro⟨g1,g2,g3⟩
   have:=cross_unique hd g1 g2;rw [← this,if_pos ⟨g1,g2⟩,List.mem_singleton]
def isVert (ss:List Sg) (ps:List Pt) (p:Pt):Prop:=p ∈ ps∨(∃ s ∈ ss,p=s.a∨p=s.b)∨∃ i j:Nat,∃ s t,i≠j∧ss[i]? = some s∧ss[j]? = some t∧isCut s t p
def isPart (ss:List Sg) (ps:List Pt) (i:Nat) (s:Sg) (p:Pt):Prop:=p=s.a∨p=s.b∨(∃ j t,j≠i∧ss[j]? = some t∧isCut s t p)∨(p ∈ ps∧onS s p)
theorem det_flat {r s t:Sg} (hr:r.a≠r.b) (h1:det r s=0) (h2:det r t=0):det s t=0:=by
 unfold det at *
 by_cases hx:r.a.x=r.b.x
 ·have hy:r.b.y - r.a.y≠0:=fun e=>hr (Pt.ext' hx (by grind))
  have:(r.b.y - r.a.y)*((s.b.x - s.a.x)*(t.b.y - t.a.y) - (s.b.y - s.a.y)*(t.b.x - t.a.x))=0:=by grind
  rcases Rat.mul_eq_zero.1 this with h|h
  ·exact absurd h hy
  ·exact h
 ·have hx':r.b.x - r.a.x≠0:=by grind
  have:(r.b.x - r.a.x)*((s.b.x - s.a.x)*(t.b.y - t.a.y) - (s.b.y - s.a.y)*(t.b.x - t.a.x))=0:=by grind
  rcases Rat.mul_eq_zero.1 this with h|h
  ·exact absurd h hx'
  ·exact h
theorem part_iff {ss:List Sg} {ps:List Pt} {i:Nat} {s:Sg} (hi:ss[i]? = some s) (hne:∀ s ∈ ss,s.a≠s.b) (p:Pt):isPart ss ps i s p↔isVert ss ps p∧onS s p:=by
 have hm:s ∈ ss:=List.mem_of_getElem? hi
 constructor
 ·rintro (rfl|rfl|⟨j,t,hj,ht,hc⟩|⟨h1,h2⟩)
  ·exact⟨.inr (.inl ⟨s,hm,.inl rfl⟩),onS_a⟩
  ·exact⟨.inr (.inl ⟨s,hm,.inr rfl⟩),onS_b⟩
  ·exact⟨.inr (.inr ⟨i,j,s,t,hj.symm,hi,ht,hc⟩),hc.1⟩
  ·exact⟨.inl h1,h2⟩
 ·rintro⟨hv,ho⟩
  have ofEnd:∀ (j:Nat) (t:Sg),ss[j]? = some t→(p=t.a∨p=t.b)→isPart ss ps i s p:=by
   intro j t ht he
   by_cases hj:j=i
   ·subst hj
    rw [hi] at ht;cases ht
    rcases he with e|e
    ·exact .inl e
    ·exact .inr (.inl e)
   ·refine .inr (.inr (.inl ⟨j,t,hj,ht,ho,?_,.inr (.inr (.inr he))⟩))
    rcases he with rfl|rfl
    ·exact onS_a
    ·exact onS_b
  rcases hv with h|⟨t,ht,he⟩|⟨j,k,t,u,hjk,hj,hk,hc⟩
  ·exact .inr (.inr (.inr ⟨h,ho⟩))
  ·obtain⟨j,hj⟩:=List.mem_iff_getElem?.1 ht
   exact ofEnd j t hj he
  ·obtain⟨c1,c2,c3⟩:=hc
   by_cases hji:j=i
   ·subst hji
    rw [hi] at hj;cases hj;exact .inr (.inr (.inl ⟨k,u,hjk.symm,hk,c1,c2,c3⟩))
   by_cases hki:k=i
   ·subst hki
    rw [hi] at hk;cases hk;exact .inr (.inr (.inl ⟨j,t,hji,hj,isCut_symm ⟨c1,c2,c3⟩⟩))
   by_cases d1:det s t=0
   ·by_cases d2:det s u=0
    ·have d3:=det_flat (hne s hm) d1 d2
     rcases c3 with c3|c3|c3|c3|c3
     ·exact absurd d3 c3
     ·exact ofEnd j t hj (.inl c3)
     ·exact ofEnd j t hj (.inr c3)
     ·exact ofEnd k u hk (.inl c3)
     ·exact ofEnd k u hk (.inr c3)
    ·exact .inr (.inr (.inl ⟨k,u,hki,hk,ho,c2,.inl d2⟩))
   ·exact .inr (.inr (.inl ⟨j,t,hji,hj,ho,c1,.inl d1⟩))
end Go.Hp
namespace Go.Hp
theorem sorted_ext {α:Type} {lt:α→α→Prop} (irr:∀ x,¬ lt x x) (tr:∀ {x y z},lt x y→lt y z→lt x z):∀ {l m:List α},l.Pairwise lt→m.Pairwise lt→(∀ x,x ∈ l↔x ∈ m)→l=m
 | [],[],_,_,_=>rfl
 | [],b::m,_,_,h=>by have:=(h b).2 (by simp);cases this
 | a::l,[],_,_,h=>by have:=(h a).1 (by simp);cases this
 | a::l,b::m,hl,hm,h=>by
  rw [List.pairwise_cons] at hl hm
  have e:a=b:=by
   have h1:=(h a).1 (by simp);have h2:=(h b).2 (by simp)
   rcases List.mem_cons.1 h1 with e|h1
   ·exact e
   rcases List.mem_cons.1 h2 with e|h2
   ·exact e.symm
   exact absurd (tr (hm.1 _ h1) (hl.1 _ h2)) (irr _)
  subst e
  congr 1
  refine sorted_ext irr tr hl.2 hm.2 fun x=>⟨fun hx=>?_,fun hx=>?_⟩
  ·rcases List.mem_cons.1 ((h x).1 (by simp [hx])) with e|h1
   ·subst e;exact absurd (hl.1 _ hx) (irr _)
   ·exact h1
  ·rcases List.mem_cons.1 ((h x).2 (by simp [hx])) with e|h1
   ·subst e;exact absurd (hm.1 _ hx) (irr _)
   ·exact h1
def ltE (x y:Nat × Nat):Prop:=x.1<y.1∨(x.1=y.1∧x.2<y.2)
theorem ltE_irr (x:Nat × Nat):¬ ltE x x:=by unfold ltE;omega
theorem ltE_tr {x y z:Nat × Nat}:ltE x y→ltE y z→ltE x z:=by unfold ltE;omega
def nextOn (V:List Pt) (s:Sg) (u v:Nat):Prop:=u<v∧∃ p q,V[u]? = some p∧V[v]? = some q∧onS s p∧onS s q∧∀ w r,u<w→w<v→V[w]? = some r→¬ onS s r
structure Arr0 (ss:List Sg) (ps:List Pt) (V:List Pt) (E:List (Nat × Nat)):Prop where
 sv:V.Pairwise Pt.lt
 mv:∀ p,p ∈ V↔isVert ss ps p
 se:E.Pairwise ltE
 me:∀ u v,(u,v) ∈ E↔∃ s ∈ ss,nextOn V s u v
theorem Arr0.unique {ss:List Sg} {ps V V':List Pt} {E E':List (Nat × Nat)} (h:Arr0 ss ps V E) (h':Arr0 ss ps V' E'):V=V'∧E=E':=by
 have e:V=V':=sorted_ext Pt.lt_irrefl Pt.lt_trans h.sv h'.sv fun p=>by rw [h.mv,h'.mv]
 subst e;exact⟨rfl,sorted_ext ltE_irr ltE_tr h.se h'.se fun ⟨u,v⟩=>by rw [h.me,h'.me]⟩
theorem Arr0.lt {ss:List Sg} {ps V:List Pt} {E:List (Nat × Nat)} (h:Arr0 ss ps V E) {u v:Nat} (he:(u,v) ∈ E):u<v∧v<V.length:=by
 obtain⟨s,_,h1,p,q,h2,h3,_⟩:=(h.me u v).1 he;exact⟨h1,(List.getElem?_eq_some_iff.1 h3).1⟩
theorem next_of_parts {V l:List Pt} {s:Sg} (hV:V.Pairwise Pt.lt) (hl:l.Pairwise Pt.lt) (hm:∀ p,p ∈ l↔p ∈ V∧onS s p) (u v:Nat) :
 nextOn V s u v↔∃ k p q,l[k]? = some p∧l[k+1]? = some q∧V[u]? = some p∧V[v]? = some q:=by
 have ordV:∀ {i j:Nat} {p q:Pt},V[i]? = some p→V[j]? = some q→p.lt q→i<j:=by
  intro i j p q hi hj hlt
  rcases Nat.lt_trichotomy i j with h|h|h
  ·exact h
  ·subst h;rw [hi] at hj;cases hj;exact absurd hlt (Pt.lt_irrefl _)
  ·obtain⟨a1,a2⟩:=List.getElem?_eq_some_iff.1 hi
   obtain⟨b1,b2⟩:=List.getElem?_eq_some_iff.1 hj;have:=List.pairwise_iff_getElem.1 hV j i b1 a1 h;rw [a2,b2] at this;exact absurd this (Pt.lt_asymm hlt)
 have ltV:∀ {i j:Nat} {p q:Pt},V[i]? = some p→V[j]? = some q→i<j→p.lt q:=by
  intro i j p q hi hj hlt;obtain⟨a1,a2⟩:=List.getElem?_eq_some_iff.1 hi;obtain⟨b1,b2⟩:=List.getElem?_eq_some_iff.1 hj;have:=List.pairwise_iff_getElem.1 hV i j a1 b1 hlt;rw [a2,b2] at this;exact this
 have ltl:∀ {i j:Nat} {p q:Pt},l[i]? = some p→l[j]? = some q→i<j→p.lt q:=by
  intro i j p q hi hj hlt;obtain⟨a1,a2⟩:=List.getElem?_eq_some_iff.1 hi;obtain⟨b1,b2⟩:=List.getElem?_eq_some_iff.1 hj;have:=List.pairwise_iff_getElem.1 hl i j a1 b1 hlt;rw [a2,b2] at this;exact this
 have ordl:∀ {i j:Nat} {p q:Pt},l[i]? = some p→l[j]? = some q→p.lt q→i<j:=by
  intro i j p q hi hj hlt
  rcases Nat.lt_trichotomy i j with h|h|h
  ·exact h
  ·subst h;rw [hi] at hj;cases hj;exact absurd hlt (Pt.lt_irrefl _)
  ·exact absurd (ltl hj hi h) (Pt.lt_asymm hlt)
 constructor
 ·rintro⟨huv,p,q,hp,hq,op,oq,hno⟩
  obtain⟨k,hk⟩:=List.mem_iff_getElem?.1 ((hm p).2 ⟨List.mem_of_getElem? hp,op⟩);obtain⟨j,hj⟩:=List.mem_iff_getElem?.1 ((hm q).2 ⟨List.mem_of_getElem? hq,oq⟩);have hpq:=ltV hp hq huv;have hkj:=ordl hk hj hpq
  have hkj1:j=k+1:=by
   rcases Nat.lt_or_ge (k+1) j with h|h
   ·exfalso
    have hjl:=(List.getElem?_eq_some_iff.1 hj).1;obtain⟨r,hr⟩:∃ r,l[k+1]? = some r:=⟨_,List.getElem?_eq_getElem (by omega)⟩;obtain⟨hrV,hro⟩:=(hm r).1 (List.mem_of_getElem? hr);obtain⟨w,hw⟩:=List.mem_iff_getElem?.1 hrV;exact hno w r (ordV hp hw (ltl hk hr (by omega))) (ordV hw hq (ltl hr hj h)) hw hro
   ·omega
  subst hkj1;exact⟨k,p,q,hk,hj,hp,hq⟩
 ·rintro⟨k,p,q,hk,hk1,hp,hq⟩
  have hpq:=ltl hk hk1 (by omega);obtain⟨_,op⟩:=(hm p).1 (List.mem_of_getElem? hk);obtain⟨_,oq⟩:=(hm q).1 (List.mem_of_getElem? hk1);refine⟨ordV hp hq hpq,p,q,hp,hq,op,oq,fun w r h1 h2 hw hr=>?_⟩;obtain⟨j,hj⟩:=List.mem_iff_getElem?.1 ((hm r).2 ⟨List.mem_of_getElem? hw,hr⟩);have g1:=ordl hk hj (ltV hp hw h1);have g2:=ordl hj hk1 (ltV hw hq h2);omega
end Go.Hp
namespace Go.Hp
open Go.Proofs.Tryz
open Go
structure PR where
 x:FR
 y:FR
structure IsP (w:World) (S:Nat→Prop) (p:PR) (q:Pt):Prop where
 x:IsF w S p.x q.x
 y:IsF w S p.y q.y
theorem IsP.grow {w w':World} {S S':Nat→Prop} {p:PR} {q:Pt} (h:IsP w S p q) (hp:Pure w S w' S'):IsP w' S' p q:=⟨h.x.grow hp,h.y.grow hp⟩
theorem IsP.at {w0 w wr:World} {H:List Chunk} {F S:Nat→Prop} {p:PR} {q:Pt} (h:IsP wr S p q) (hS:Heap w0 w (.frz F wr::H)) (hF:∀ k,S k→F k):IsP w S p q:=⟨h.x.at hS hF,h.y.at hS hF⟩
theorem IsP.weaken {w:World} {S T:Nat→Prop} {p:PR} {q:Pt} (h:IsP w S p q) (hST:∀ k,S k→T k):IsP w T p q:=⟨h.x.weaken hST,h.y.weaken hST⟩
theorem IsP.move {w wr:World} {S:Nat→Prop} {p:PR} {q:Pt} (h:IsP wr S p q) (hk:∀ k,S k→w.heap[k]? = wr.heap[k]?):IsP w S p q:=⟨h.x.move hk,h.y.move hk⟩
def GRes (w:World) (S:Nat→Prop) (q:Rat) (e:Ending) (w':World):Prop:=∃ (z:FR) (S':Nat→Prop),e=.returned (.agg #[.bool z.num.neg,.slice z.num.ad z.num.n z.num.cap,.bool z.less.neg,.slice z.less.ad z.less.n z.less.cap])∧Pure w S w' S'∧IsF w' S' z q
def PRes (w:World) (S:Nat→Prop) (q:Pt) (e:Ending) (w':World):Prop:=∃ (z:PR) (S':Nat→Prop),e=.returned (.agg #[.bool z.x.num.neg,.slice z.x.num.ad z.x.num.n z.x.num.cap,.bool z.x.less.neg,.slice z.x.less.ad z.x.less.n z.x.less.cap,.bool z.y.num.neg,.slice z.y.num.ad z.y.num.n z.y.num.cap,.bool z.y.less.neg,.slice z.y.less.ad z.y.less.n z.y.less.cap])∧Pure w S w' S'∧IsP w' S' z q
def cmpQ (a b:Rat):Int:=if a<b then -1 else if b<a then 1 else 0
def cmpP (p q:Pt):Int:=if cmpQ p.x q.x≠0 then cmpQ p.x q.x else cmpQ p.y q.y
theorem cmpQ_bd (a b:Rat):-1≤cmpQ a b∧cmpQ a b≤1:=by unfold cmpQ;split <;> (try split) <;> omega
theorem cmpQ_le {a b:Rat}:cmpQ a b≤0↔a≤b:=by unfold cmpQ;split <;> (try split) <;> grind
theorem cmpQ_eq {a b:Rat}:cmpQ a b=0↔a=b:=by unfold cmpQ;split <;> (try split) <;> grind
theorem cmpP_bd (p q:Pt):-1≤cmpP p q∧cmpP p q≤1:=by unfold cmpP;split <;> exact cmpQ_bd _ _
theorem cmpP_lt {p q:Pt}:cmpP p q<0↔p.lt q:=by
 unfold cmpP Pt.lt cmpQ;grind
theorem cmpP_eq {p q:Pt}:cmpP p q=0↔p=q:=by
 constructor
 ·intro h
  unfold cmpP at h
  split at h
  ·rename_i h1;exact absurd h h1
  ·rename_i h1
   exact Pt.ext' (cmpQ_eq.1 (by simpa using h1)) (cmpQ_eq.1 h)
 ·rintro rfl;unfold cmpP cmpQ;grind
end Go.Hp
namespace Go.Proofs
open Go.Proofs.Tryz
open Go.RowKit Go.Hp
theorem fill2n (a b:Int):Instr.fill (fun i=>some (i*1,1)) ((Array.range (2*1)).map ((Value.int .i64 0).cells[· % (Value.int .i64 0).cells.size]!)) [(0,.int .i64 a),(1,.int .i64 b)]=some #[.int .i64 a,.int .i64 b]:=by
 have h:((Array.range (2*1)).map ((Value.int .i64 0).cells[· % (Value.int .i64 0).cells.size]!))=#[.int .i64 0,.int .i64 0]:=by
  apply Array.ext';simp [Array.range,List.ofFn_succ,Value.cells]
 rw [h];simp [Instr.fill,Value.cells]
theorem cmpF_Q (a b:Rat):cmpF a.num a.den b.num b.den=cmpQ a b:=by
 unfold cmpF cmpZ cmpQ;simp only [Rat.lt_iff]
theorem compareQ_any (x y:FR) (a b:Rat) (w:World) (S:Nat→Prop) (hx:IsF w S x a) (hy:IsF w S y b) (hL:Liv w S) :
 Calls Tryz.prog 46 #[.agg #[.bool x.num.neg,.slice x.num.ad x.num.n x.num.cap,.bool x.less.neg,.slice x.less.ad x.less.n x.less.cap],.agg #[.bool y.num.neg,.slice y.num.ad y.num.n y.num.cap,.bool y.less.neg,.slice y.less.ad y.less.n y.less.cap]] w fun e w'=>e=.returned (.int .i64 (cmpQ a b))∧Pure w S w' S:=by
 rw [← cmpF_Q];exact compareF_any x y a b w S hx hy hL
theorem whole_any (n:Int) (w:World) (S:Nat→Prop) (hn:InI n) (hL:Liv w S) :
 Calls Tryz.prog 53 #[.int .i64 n] w (GRes w S (n:Rat)):=by
 obtain⟨hS,hF0,hO0,hp0⟩:=st0 hL
 go_enter func53,ntmps53
 go_wp2_with (with_reducible refine alA hS zeroValue54 fun br wbr hS=>?_)
 refine (of_any n 1 _ S hn (by unfold InI;omega) (Liv.at hS hF0) (by omega)).mono ?_;rintro e w' ⟨z,S2,rfl,hq,hz⟩;replace hS:=hS.pcl hF0 hO0 hp0 hq;obtain⟨F1,hF1,-,hp1,hO1,hS⟩:=hS;simp only [fRes]
 go_wp2_with (with_reducible first|refine alA hS zeroValue54 fun bx wbx hS=>?_|refine stA 2 hS sizeOf54 fun _ hS=>?_|refine stA 1 hS sizeOf54 fun _ hS=>?_|refine ldA 2 hS isAgg54 sizeOf54 ?_)
 exact ret_c 1 hS rfl rfl rfl isAgg54 sizeOf54 rfl rfl ⟨z,S2,rfl,hp1.step hS hO1 hF1,(hz.at hS hF1).cast (by simp [Rat.divInt,Rat.mkRat_one])⟩
theorem pof_any (x y:Int) (w:World) (S:Nat→Prop) (hx:InI x) (hy:InI y) (hL:Liv w S) :
 Calls Tryz.prog 17 #[.agg #[.int .i64 x,.int .i64 y]] w (PRes w S ⟨(x:Rat),(y:Rat)⟩):=by
 obtain⟨hS,hF0,hO0,hp0⟩:=st0 hL
 go_enter func17,ntmps17
 go_wp2_with (with_reducible first|refine bxA hS fun bx wbx hS=>?_|refine alA hS zeroValue56 fun br wbr hS=>?_)
 refine rg0 [.p 0,.r 1,.p 3,.r 4,.e 2,.e 5,.p 6,.m 7] [7] hS fun w1 hS=>?_
 have hC:=hS
 repeat (with_reducible first|refine sldB 1 isAgg3 ?_|refine spL ?_)
 refine exL ?_
 go_wp2_with (fail)
 refine (whole_any x _ S hx (Liv.at hS hF0)).mono ?_;rintro e w' ⟨a,S1,rfl,hq,ha⟩;simp only [];go_step;have hC:=hC.below hq.below hq.drawn;replace hS:=hS.pcl hF0 hO0 hp0 hq;obtain⟨F1,hF1,-,hp1,hO1,hS⟩:=hS;refine ext_end hC ?_;refine mvs ?_;refine exL ?_
 go_wp2_with (fail)
 refine (whole_any y _ S1 hy (Liv.at hS hF1)).mono ?_;rintro e w' ⟨b,S2,rfl,hq2,hb⟩;simp only [];go_step;have ha:=(ha.at hS hF1).grow hq2;have hC:=hC.below hq2.below hq2.drawn;replace hS:=hS.pcl hF1 hO1 hp1 hq2;obtain⟨F2,hF2,-,hp2,hO2,hS⟩:=hS;refine ext_end hC ?_;refine mvs ?_;refine muL ?_
 (with_reducible refine stA 2 hS sizeOf56 fun _ hS=>?_)
 refine mut_end ?_;refine mvs ?_;refine snL ?_;go_wp2;exact ret_c 2 hS rfl rfl rfl isAgg56 sizeOf56 rfl rfl ⟨⟨a,b⟩,S2,rfl,hp2.step hS hO2 hF2,ha.at hS hF2,hb.at hS hF2⟩
theorem or2_any (b:Nat) (x y z:Int) (hz:(if x≠0 then x else y)=z) (w:World) (S:Nat→Prop) (hv:SlC w S 1 (.slice (some ⟨b,0,none⟩) 2 2) 2 [.int .i64 x,.int .i64 y]) :
 Calls Tryz.prog 79 #[.slice (some ⟨b,0,none⟩) 2 2] w fun e w'=>e=.returned (.int .i64 z)∧w=w':=by
 have hS:=Heap.start w;have hvo:=hv.old
 go_enter func79,ntmps79
 go_wp2
 go_loopw [8] (fun v wr=>∃ k:Nat,k≤2∧v=.int .i64 (k:Int)∧wr=w∧(0<k→x=0)∧(1<k→y=0)) (fun v _=>2 - (intOf v).toNat)
 case atStart=>exact⟨0,by omega,rfl,rfl,by omega,by omega⟩
 case round =>
  obtain⟨k,hk,rfl,rfl,h0,h1⟩:=hrel;have hk3:k=0∨k=1∨k=2:=by omega
  rcases hk3 with rfl|rfl|rfl
  ·clear h0 h1
   by_cases hx:x=0
   ·subst hx
    go_wp2_with (first|((with_reducible refine g_idx (T:=22) ?_);refine seq_any rfl (any_index (T:=22) underlying22 sizeOf3 rfl rfl hvo (by omega) (by omega) (by omega) (fun bq oq hcellq=>?_));replace hcellq:CellsAt _ _ ⟨bq,oq,none⟩ [.int .i64 0]:=hcellq;simp only [NRM])|(with_reducible refine ld0 hS isAgg3 ?_))
    go_roundw
    case rel=>exact⟨1,by omega,rfl,by simp,by simp,by simp⟩
    case measure=>simp [intOf]
   ·have hxf:(x == 0)=false:=by simpa using hx
    have hq:=Hd (show x=z by rw [← hz,if_pos hx]);clear hz;clear hx
    go_wp2_with (first|((with_reducible refine g_idx (T:=22) ?_);refine seq_any rfl (any_index (T:=22) underlying22 sizeOf3 rfl rfl hvo (by omega) (by omega) (by omega) (fun bq oq hcellq=>?_));replace hcellq:CellsAt _ _ ⟨bq,oq,none⟩ [.int .i64 x]:=hcellq;simp only [NRM])|(with_reducible refine ld0 hS isAgg3 ?_))
    go_ret;exact⟨ret_int hq.out,rfl⟩
  ·obtain rfl:=h0 (by omega)
   clear h0 h1
   by_cases hx:y=0
   ·subst hx
    go_wp2_with (first|((with_reducible refine g_idx (T:=22) ?_);refine seq_any rfl (any_index (T:=22) underlying22 sizeOf3 rfl rfl hvo (by omega) (by omega) (by omega) (fun bq oq hcellq=>?_));replace hcellq:CellsAt _ _ ⟨bq,oq,none⟩ [.int .i64 0]:=hcellq;simp only [NRM])|(with_reducible refine ld0 hS isAgg3 ?_))
    go_roundw
    case rel=>exact⟨2,by omega,rfl,by simp,by simp,by simp⟩
    case measure=>simp [intOf]
   ·have hxf:(y == 0)=false:=by simpa using hx
    have hq:=Hd (show y=z by rw [← hz];simp);clear hz;clear hx
    go_wp2_with (first|((with_reducible refine g_idx (T:=22) ?_);refine seq_any rfl (any_index (T:=22) underlying22 sizeOf3 rfl rfl hvo (by omega) (by omega) (by omega) (fun bq oq hcellq=>?_));replace hcellq:CellsAt _ _ ⟨bq,oq,none⟩ [.int .i64 y]:=hcellq;simp only [NRM])|(with_reducible refine ld0 hS isAgg3 ?_))
    go_ret;exact⟨ret_int hq.out,rfl⟩
  ·obtain rfl:=h0 (by omega)
   obtain rfl:=h1 (by omega);go_wp2;go_ret;exact⟨ret_int (by rw [← hz];rfl),rfl⟩
theorem pcompare_any (p q:PR) (a b:Pt) (w:World) (S:Nat→Prop) (hp:IsP w S p a) (hq:IsP w S q b) (hL:Liv w S) :
 Calls Tryz.prog 70 #[.agg #[.bool p.x.num.neg,.slice p.x.num.ad p.x.num.n p.x.num.cap,.bool p.x.less.neg,.slice p.x.less.ad p.x.less.n p.x.less.cap,.bool p.y.num.neg,.slice p.y.num.ad p.y.num.n p.y.num.cap,.bool p.y.less.neg,.slice p.y.less.ad p.y.less.n p.y.less.cap],.agg #[.bool q.x.num.neg,.slice q.x.num.ad q.x.num.n q.x.num.cap,.bool q.x.less.neg,.slice q.x.less.ad q.x.less.n q.x.less.cap,.bool q.y.num.neg,.slice q.y.num.ad q.y.num.n q.y.num.cap,.bool q.y.less.neg,.slice q.y.less.ad q.y.less.n q.y.less.cap]] w fun e w'=>e=.returned (.int .i64 (cmpP a b))∧Pure w S w' S:=by
 obtain⟨hS,hF0,hO0,hp0⟩:=st0 hL
 go_enter func70,ntmps70
 go_wp2_with (with_reducible refine bxA hS fun bx wbx hS=>?_)
 refine rg0 [.p 0,.r 1,.p 2,.r 3,.p 5,.r 6,.p 7,.r 8,.e 4,.e 9,.e 10,.e 11,.p 12] [] hS fun w1 hS=>?_
 have hC:=hS
 repeat (with_reducible first|refine sldK 1 isAgg54 sizeOf54 ?_|refine sldK 2 isAgg54 sizeOf54 ?_|refine spL ?_)
 refine exL ?_
 go_wp2_with (fail)
 refine (compareQ_any p.x q.x a.x b.x _ S (hp.x.at hS hF0) (hq.x.at hS hF0) (Liv.at hS hF0)).mono ?_;rintro e w' ⟨rfl,hq1⟩;simp only [];go_step;have hp:=(hp.at hS hF0).grow hq1;have hq:=(hq.at hS hF0).grow hq1;have hC:=hC.below hq1.below hq1.drawn;replace hS:=hS.pcl hF0 hO0 hp0 hq1;obtain⟨F1,hF1,-,hp1,hO1,hS⟩:=hS;refine ext_end hC ?_;refine mvs ?_;refine exL ?_
 go_wp2_with (fail)
 refine (compareQ_any p.y q.y a.y b.y _ S (hp.y.at hS hF1) (hq.y.at hS hF1) (Liv.at hS hF1)).mono ?_;rintro e w' ⟨rfl,hq2⟩;simp only [];go_step;have hC:=hC.below hq2.below hq2.drawn;replace hS:=hS.pcl hF1 hO1 hp1 hq2;obtain⟨F2,hF2,-,hp2,hO2,hS⟩:=hS;refine ext_end hC ?_;refine mvs ?_;refine exL ?_
 ((with_reducible refine g_bs (T:=22) ?_);refine seq_buildSlice (k:=1) (z:=.int .i64 0) (len:=2) hS underlying22 sizeOf3 zeroValue3 (by decide) (by decide) (fill2n _ _) (fun bl wbl hS=>?_);simp only [NRM];simp only [NRH] at hS)
 refine ext_end ((hS.base hO2 hp2).sub (by simp)) ?_;refine mvs ?_;refine exL ?_
 go_wp2_with (fail)
 refine (or2_any bl _ _ (cmpP a b) rfl _ _ (SlC.ofBlk (k:=1) (n:=2) hS (List.mem_of_getElem? (i:=3) rfl) rfl (by decide))).mono ?_;rintro e w' ⟨rfl,rfl⟩;simp only [];go_step;refine ext_end ((hS.base hO2 hp2).sub (by simp)) ?_;refine mvs ?_;refine snL ?_;go_wp2;go_ret;exact⟨rfl,hp2.step hS hO2 hF2⟩
theorem withinF_any (x y z:FR) (a b c:Rat) (w:World) (S:Nat→Prop) (hx:IsF w S x a) (hy:IsF w S y b) (hz:IsF w S z c) (hL:Liv w S) :
 Calls Tryz.prog 174 #[.agg #[.bool x.num.neg,.slice x.num.ad x.num.n x.num.cap,.bool x.less.neg,.slice x.less.ad x.less.n x.less.cap],.agg #[.bool y.num.neg,.slice y.num.ad y.num.n y.num.cap,.bool y.less.neg,.slice y.less.ad y.less.n y.less.cap],.agg #[.bool z.num.neg,.slice z.num.ad z.num.n z.num.cap,.bool z.less.neg,.slice z.less.ad z.less.n z.less.cap],.func (.func 46) #[] #[]] w fun e w'=>e=.returned (.bool (decide (a≤b∧b≤c)))∧Pure w S w' S:=by
 obtain⟨hS,hF0,hO0,hp0⟩:=st0 hL;obtain⟨c1,hc1⟩:∃ c1,cmpQ a b=c1:=⟨_,rfl⟩;obtain⟨c2,hc2⟩:∃ c2,cmpQ b c=c2:=⟨_,rfl⟩;have h1:c1≤0↔a≤b:=by rw [← hc1];exact cmpQ_le
 have h2:c2≤0↔b≤c:=by rw [← hc2];exact cmpQ_le
 have hq:decide (a≤b∧b≤c)=(decide (c1≤0) && decide (c2≤0)):=by simp [h1,h2]
 rw [hq];clear hq h1 h2;replace hc1:=Hd hc1;replace hc2:=Hd hc2
 by_cases h1:c1≤0
 ·have h1d:decide (c1≤0)=true:=by simpa using h1
  rw [h1d]
  go_enter func174,ntmps174
  go_wp2_with (with_reducible first|refine bxA hS fun bx wbx hS=>?_|refine ldA 1 hS isAgg54 sizeOf54 ?_|refine ldA 2 hS isAgg54 sizeOf54 ?_)
  refine (compareQ_any x y a b _ S (hx.at hS hF0) (hy.at hS hF0) (Liv.at hS hF0)).mono ?_;rintro e w' ⟨rfl,hq1⟩;rw [hc1.out];have hy:=(hy.at hS hF0).grow hq1;have hz:=(hz.at hS hF0).grow hq1;replace hS:=hS.pcl hF0 hO0 hp0 hq1;obtain⟨F1,hF1,-,hp1,hO1,hS⟩:=hS;simp only []
  go_wp2_with (with_reducible first|refine ldA 2 hS isAgg54 sizeOf54 ?_|refine ldA 3 hS isAgg54 sizeOf54 ?_)
  refine (compareQ_any y z b c _ S (hy.at hS hF1) (hz.at hS hF1) (Liv.at hS hF1)).mono ?_;rintro e w' ⟨rfl,hq2⟩;rw [hc2.out];replace hS:=hS.pcl hF1 hO1 hp1 hq2;obtain⟨F2,hF2,-,hp2,hO2,hS⟩:=hS;simp only [];go_wp2;go_ret;exact⟨by simp,hp2.step hS hO2 hF2⟩
 ·have h1d:decide (c1≤0)=false:=by simpa using h1
  rw [h1d]
  go_enter func174,ntmps174
  go_wp2_with (with_reducible first|refine bxA hS fun bx wbx hS=>?_|refine ldA 1 hS isAgg54 sizeOf54 ?_|refine ldA 2 hS isAgg54 sizeOf54 ?_)
  refine (compareQ_any x y a b _ S (hx.at hS hF0) (hy.at hS hF0) (Liv.at hS hF0)).mono ?_;rintro e w' ⟨rfl,hq1⟩;rw [hc1.out];replace hS:=hS.pcl hF0 hO0 hp0 hq1;obtain⟨F1,hF1,-,hp1,hO1,hS⟩:=hS;simp only [];go_wp2;go_ret;exact⟨by simp,hp1.step hS hO1 hF1⟩
theorem withinI_any (x y z:Int) (w:World):Calls Tryz.prog 90 #[.int .i64 x,.int .i64 y,.int .i64 z,.func (.func 80) #[] #[]] w fun e w'=>e=.returned (.bool (decide (x≤y∧y≤z)))∧w=w':=by
 obtain⟨c1,hc1⟩:∃ c1,cmpZ x y=c1:=⟨_,rfl⟩;obtain⟨c2,hc2⟩:∃ c2,cmpZ y z=c2:=⟨_,rfl⟩;have h1:c1≤0↔x≤y:=by rw [← hc1];unfold cmpZ;split <;> (try split) <;> omega
 have h2:c2≤0↔y≤z:=by rw [← hc2];unfold cmpZ;split <;> (try split) <;> omega
 have hq:decide (x≤y∧y≤z)=(decide (c1≤0) && decide (c2≤0)):=by simp [h1,h2]
 rw [hq];clear hq h1 h2;replace hc1:=Hd hc1;replace hc2:=Hd hc2
 by_cases h1:c1≤0
 ·have h1d:decide (c1≤0)=true:=by simpa using h1
  rw [h1d]
  go_enter func90,ntmps90
  go_wp2_with (fail)
  refine (cmpInt_any x y _).mono ?_;rintro e w' ⟨rfl,rfl⟩;rw [hc1.out];simp only []
  go_wp2_with (fail)
  refine (cmpInt_any y z _).mono ?_;rintro e w' ⟨rfl,rfl⟩;rw [hc2.out];simp only [];go_wp2;go_ret;exact⟨by simp,rfl⟩
 ·have h1d:decide (c1≤0)=false:=by simpa using h1
  rw [h1d]
  go_enter func90,ntmps90
  go_wp2_with (fail)
  refine (cmpInt_any x y _).mono ?_;rintro e w' ⟨rfl,rfl⟩;rw [hc1.out];simp only [];go_wp2;go_ret;exact⟨by simp,rfl⟩
end Go.Proofs
