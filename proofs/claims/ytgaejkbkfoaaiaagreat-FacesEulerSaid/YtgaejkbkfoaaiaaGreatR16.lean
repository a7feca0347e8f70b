/- Texts for the walk of the law: JH JI JJ JK PS OV OW OZ JL. -/
import Derived.Test.YtgaejkbkfoaaiaaGreatR15
set_option maxRecDepth 100000
set_option maxHeartbeats 16000000
set_option linter.unusedVariables false
set_option linter.unusedSimpArgs false
namespace Go.Hp
open Go Go.RowKit
def lxor (F:Nat→Bool):List Nat→Bool
 | []=>false
 | h::t=>xor (F h) (lxor F t)
theorem lxor_append (F:Nat→Bool) (l':List Nat):∀ l,lxor F (l++l')=xor (lxor F l) (lxor F l')
 | []=>by show lxor F l'=xor false _;rw [Bool.false_xor]
 | h::t=>by show xor (F h) (lxor F (t++l'))=xor (xor (F h) (lxor F t)) _;rw [lxor_append F l' t,Bool.xor_assoc]
theorem lxor_perm (F:Nat→Bool) {l l':List Nat} (h:l.Perm l'):lxor F l=lxor F l':=by
 induction h with
 | nil=>rfl
 | cons x _ ih=>show xor _ _=xor _ _;rw [ih]
 | swap x y l =>
  show xor (F y) (xor (F x) (lxor F l))=xor (F x) (xor (F y) (lxor F l));rw [← Bool.xor_assoc,← Bool.xor_assoc,Bool.xor_comm (F y)]
 | trans _ _ h1 h2=>exact h1.trans h2
theorem lxor_congr {F G:Nat→Bool}:∀ {l:List Nat},(∀ h ∈ l,F h=G h)→lxor F l=lxor G l
 | [],_=>rfl
 | h::t,e=>by show xor _ _=xor _ _;rw [e h (List.mem_cons_self),lxor_congr fun x hx=>e x (List.mem_cons_of_mem _ hx)]
theorem lxor_xor (F G:Nat→Bool):∀ l,lxor (fun h=>xor (F h) (G h)) l=xor (lxor F l) (lxor G l)
 | []=>rfl
 | h::t=>by
  show xor (xor (F h) (G h)) (lxor _ t)=xor (xor (F h) (lxor F t)) (xor (G h) (lxor G t));rw [lxor_xor F G t];generalize F h=a;generalize G h=b;generalize lxor F t=c;generalize lxor G t=d;cases a <;> cases b <;> cases c <;> cases d <;> rfl
theorem lxor_and (F:Nat→Bool) (b:Bool):∀ l,lxor (fun h=>F h && b) l=(lxor F l && b)
 | []=>by cases b <;> rfl
 | h::t=>by
  show xor (F h && b) (lxor _ t)=(xor (F h) (lxor F t) && b);rw [lxor_and F b t];cases b <;> simp
theorem lxor_false {F:Nat→Bool}:∀ {l:List Nat},(∀ h ∈ l,F h=false)→lxor F l=false
 | [],_=>rfl
 | h::t,e=>by show xor _ _=_;rw [e h (List.mem_cons_self),lxor_false fun x hx=>e x (List.mem_cons_of_mem _ hx)];rfl
def outl (A B:Nat→Nat) (v:Nat):Nat→List Nat
 | 0=>[]
 | k+1=>outl A B v k++(if A k=v then [2*k] else if B k=v then [2*k+1] else [])
theorem lxor_outl {A B:Nat→Nat} (F:Nat→Bool) (v:Nat):∀ {m:Nat},(∀ e,e<m→A e≠B e)→lxor F (outl A B v m)=xsum (fun e=>xor (decide (A e=v) && F (2*e)) (decide (B e=v) && F (2*e+1))) m
 | 0,_=>rfl
 | m+1,h=>by
  show lxor F (outl A B v m++_)=xor (xsum _ m) _;rw [lxor_append,lxor_outl F v fun e he=>h e (by omega)];have:=h m (by omega)
  congr 1
  dsimp only
  by_cases h1:A m=v
  ·rw [if_pos h1,decide_eq_true h1,decide_eq_false (by omega)]
   show xor (F (2*m)) false=xor (true && F (2*m)) (false && _);cases F (2*m) <;> rfl
  ·rw [if_neg h1,decide_eq_false h1]
   by_cases h2:B m=v
   ·rw [if_pos h2,decide_eq_true h2]
    show xor (F (2*m+1)) false=xor (false && _) (true && F (2*m+1));cases F (2*m+1) <;> rfl
   ·rw [if_neg h2,decide_eq_false h2];rfl
theorem mem_outl {A B:Nat→Nat} {v h:Nat}:∀ {m:Nat},(∀ e,e<m→A e≠B e)→(h ∈ outl A B v m↔h<2*m∧orgF A B h=v)
 | 0,_=>by simp [outl]
 | m+1,bJ=>by
  have ih:=@mem_outl A B v h m (fun e he=>bJ e (by omega));have:=bJ m (by omega);show h ∈ outl A B v m++_↔_;rw [List.mem_append,ih];have ol:=orgF_l A B m;have or_:=orgF_r A B m
  constructor
  ·rintro (⟨h1,h2⟩|h1)
   ·exact⟨by omega,h2⟩
   ·split at h1
    ·rw [List.mem_singleton] at h1;subst h1;exact⟨by omega,by omega⟩
    ·split at h1
     ·rw [List.mem_singleton] at h1;subst h1;exact⟨by omega,by omega⟩
     ·cases h1
  ·rintro⟨h1,h2⟩
   by_cases aW:h<2*m
   ·exact .inl ⟨aW,h2⟩
   ·right
    rcases (by omega:h=2*m∨h=2*m+1) with rfl|rfl
    ·rw [if_pos (by omega)];exact List.mem_singleton.2 rfl
    ·rw [if_neg (by omega),if_pos (by omega)];exact List.mem_singleton.2 rfl
def lexP (a b:Int):Prop:=0<a∨(a=0∧0<b)
def lowZ (a b:Int):Prop:=b<0∨(b=0∧a<0)
instance (a b:Int):Decidable (lowZ a b):=by unfold lowZ;infer_instance
def leqZ (a b c d:Int):Prop:=(¬ lowZ a b∧lowZ c d)∨((lowZ a b↔lowZ c d)∧0≤a*d - b*c)
instance (a b c d:Int):Decidable (leqZ a b c d):=by unfold leqZ;infer_instance
theorem cr_pos {a b c d:Int} (ha:0<a) (hb:b<0) (hc:0≤c) (hd:0≤d) (h:0<c∨0<d):0<a*d - b*c:=by
 have h1:0≤a*d:=Int.mul_nonneg (by omega) hd;have h2:0≤(-b)*c:=Int.mul_nonneg (by omega) hc;rw [Int.neg_mul] at h2
 rcases h with h|h
 ·have h3:0<(-b)*c:=Int.mul_pos (by omega) h
  rw [Int.neg_mul] at h3;omega
 ·have h3:0<a*d:=Int.mul_pos ha h
  omega
section
variable {a b c d:Int}
theorem dir_pp (hu:lexP a b) (hw:lexP c d) (hn:(lowZ a b↔lowZ c d)→a*d - b*c≠0):decide (0<a*d - b*c)=xor (xor (decide (leqZ a b c d)) (decide (lowZ a b))) (decide (lowZ c d)):=by
 by_cases h1:lowZ a b <;> by_cases h2:lowZ c d
 ·have hn:=hn ⟨fun _=>h2,fun _=>h1⟩
  have:leqZ a b c d↔0<a*d - b*c:=by unfold leqZ;simp only [h1,h2];constructor <;> (intro h;first|omega|(simp at h ⊢;omega))
  rw [dec_iff this];simp [h1,h2]
 ·have h3:0<a*d - b*c:=by
   unfold lexP lowZ at *;exact cr_pos (by omega) (by omega) (by omega) (by omega) (by omega)
  have:¬ leqZ a b c d:=by unfold leqZ;simp [h1,h2]
  simp only [h1,h2,h3,this,decide_true,decide_false];rfl
 ·have h3:0<c*b - d*a:=by
   unfold lexP lowZ at *;exact cr_pos (by omega) (by omega) (by omega) (by omega) (by omega)
  rw [Int.mul_comm c,Int.mul_comm d] at h3;have h4:¬ 0<a*d - b*c:=by omega
  have:leqZ a b c d:=by unfold leqZ;simp [h1,h2]
  simp only [h1,h2,h4,this,decide_true,decide_false];rfl
 ·have hn:=hn ⟨fun h=>absurd h h1,fun h=>absurd h h2⟩
  have:leqZ a b c d↔0<a*d - b*c:=by unfold leqZ;simp only [h1,h2];constructor <;> (intro h;first|omega|(simp at h ⊢;omega))
  rw [dec_iff this];simp [h1,h2]
theorem dir_np (hu:lexP (-a) (-b)) (hw:lexP c d):leqZ a b c d↔lowZ c d:=by
 by_cases h1:lowZ a b <;> by_cases h2:lowZ c d
 ·have h3:0<c*(-b) - d*(-a):=by
   unfold lexP lowZ at *;exact cr_pos (by omega) (by omega) (by omega) (by omega) (by omega)
  rw [Int.mul_neg,Int.mul_neg,Int.mul_comm c,Int.mul_comm d] at h3;exact⟨fun _=>h2,fun _=>.inr ⟨⟨fun _=>h2,fun _=>h1⟩,by omega⟩⟩
 ·unfold leqZ;simp [h1,h2]
 ·exact⟨fun _=>h2,fun _=>.inl ⟨h1,h2⟩⟩
 ·have h3:0<(-a)*d - (-b)*c:=by
   unfold lexP lowZ at *;exact cr_pos (by omega) (by omega) (by omega) (by omega) (by omega)
  rw [Int.neg_mul,Int.neg_mul] at h3;refine⟨fun h=>?_,fun h=>absurd h h2⟩
  rcases h with h|h
  ·exact absurd h.2 h2
  ·omega
theorem dir_pn (hu:lexP a b) (hw:lexP (-c) (-d)):leqZ a b c d↔¬ lowZ a b:=by
 by_cases h1:lowZ a b <;> by_cases h2:lowZ c d
 ·have h3:0<a*(-d) - b*(-c):=by
   unfold lexP lowZ at *;exact cr_pos (by omega) (by omega) (by omega) (by omega) (by omega)
  rw [Int.mul_neg,Int.mul_neg] at h3;refine⟨fun h=>?_,fun h=>absurd h1 h⟩
  rcases h with h|h
  ·exact absurd h1 h.1
  ·omega
 ·unfold leqZ;simp [h1,h2]
 ·exact⟨fun _=>h1,fun _=>.inl ⟨h1,h2⟩⟩
 ·have h3:0<(-c)*b - (-d)*a:=by
   unfold lexP lowZ at *;exact cr_pos (by omega) (by omega) (by omega) (by omega) (by omega)
  rw [Int.neg_mul,Int.neg_mul,Int.mul_comm c,Int.mul_comm d] at h3;exact⟨fun _=>h1,fun _=>.inr ⟨⟨fun h=>absurd h h1,fun h=>absurd h h2⟩,by omega⟩⟩
theorem dir_nn (hu:lexP (-a) (-b)) (hw:lexP (-c) (-d)):0<c*b - d*a↔¬ leqZ a b c d:=by
 by_cases h1:lowZ a b <;> by_cases h2:lowZ c d
 ·unfold leqZ;simp only [h1,h2]
  rw [Int.mul_comm c,Int.mul_comm d]
  constructor
  ·intro h;simp;omega
  ·intro h;simp at h;omega
 ·have h3:0<(-c)*(-b) - (-d)*(-a):=by
   unfold lexP lowZ at *;exact cr_pos (by omega) (by omega) (by omega) (by omega) (by omega)
  rw [Int.neg_mul_neg,Int.neg_mul_neg] at h3;refine⟨fun _=>?_,fun _=>h3⟩;unfold leqZ;simp [h1,h2]
 ·have h3:0<(-a)*(-d) - (-b)*(-c):=by
   unfold lexP lowZ at *;exact cr_pos (by omega) (by omega) (by omega) (by omega) (by omega)
  rw [Int.neg_mul_neg,Int.neg_mul_neg] at h3;rw [Int.mul_comm c,Int.mul_comm d];exact⟨fun h=>by omega,fun h=>absurd (.inl ⟨h1,h2⟩) h⟩
 ·unfold leqZ;simp only [h1,h2]
  rw [Int.mul_comm c,Int.mul_comm d]
  constructor
  ·intro h;simp;omega
  ·intro h;simp at h;omega
theorem leqZ_refl (a b:Int):leqZ a b a b:=.inr ⟨Iff.rfl,by rw [Int.mul_comm b];omega⟩
end
structure Fan (p:Nat→Pt) (A B:Nat→Nat) (m n:Nat) (X Y:Nat→Int) (R:Nat→List Nat) (P:Nat→Nat):Prop where
 pos:∀ e,e<m→lexP (X (2*e)) (Y (2*e))∧X (2*e+1) = -X (2*e)∧Y (2*e+1) = -Y (2*e)
 vec:∀ e,e<m→∃ t:Rat,0<t∧(p (B e)).x - (p (A e)).x=t*(X (2*e):Int)∧(p (B e)).y - (p (A e)).y=t*(Y (2*e):Int)
 list:∀ v,v<n→(R v).Perm (outl A B v m)
 nd:∀ v,v<n→(R v).Nodup
 rV:∀ v,v<n→(R v).Pairwise fun g h=>leqZ (X g) (Y g) (X h) (Y h)
 anti:∀ v,v<n→∀ g ∈ R v,∀ h ∈ R v,leqZ (X g) (Y g) (X h) (Y h)→leqZ (X h) (Y h) (X g) (Y g)→g=h
 iG:∀ v,v<n→∀ j,j<(R v).length→P (tw (nth 0 (R v) j))=nth 0 (R v) ((j+(R v).length - 1) % (R v).length)
def conH (X Y:Nat→Int) (h k:Nat):Bool:=if k % 2=0 then decide (h % 2=0∧(h=k∨0<X h*Y k - Y h*X k)) else decide (h % 2=1∧h≠k∧0<X k*Y h - Y k*X h)
def inDH (X Y:Nat→Int) (h:Nat):Bool:=decide (h % 2=0∧lowZ (X h) (Y h))
def kapH (X Y:Nat→Int) (k:Nat):Bool:=if k % 2=0 then decide (lowZ (X k) (Y k)) else true
section
variable (p:Nat→Pt) (A B:Nat→Nat) (m:Nat) (g:Nat→Bool)
def parA (e:Nat):Bool:=xsum (fun f=>g f && belA p A B e f) m
def parH (k:Nat):Bool:=if k % 2=0 then parA p A B m g (k / 2) else xor (parA p A B m g (k / 2)) (g (k / 2))
end
theorem cross_cast {a b c d:Int} {s t:Rat} (hs:0<s) (ht:0<t):0<(s*(a:Int))*(t*(d:Int)) - (s*(b:Int))*(t*(c:Int))↔0<a*d - b*c:=by
 have e:(s*(a:Rat))*(t*(d:Rat)) - (s*(b:Rat))*(t*(c:Rat))=(s*t)*((a*d - b*c:Int):Rat):=by
  rw [Rat.intCast_sub,Rat.intCast_mul,Rat.intCast_mul];grind
 rw [e];have cA:0<s*t:=a0f hs ht
 constructor
 ·intro h
  have:=yE cA h
  exact_mod_cast this
 ·intro h
  exact a0f cA (by exact_mod_cast h)
section
variable {p:Nat→Pt} {A B:Nat→Nat} {m n:Nat} {X Y:Nat→Int} {R:Nat→List Nat} {P:Nat→Nat} (h:Plan p A B m n) (hf:Fan p A B m n X Y R P)
 include h hf
 omit h in
theorem Fan.even {e f:Nat} (he:e<m) (sX:f<m) (hv:A f=A e):0<bT (p (A e)) (p (B f)) (p (B e))↔0<X (2*f)*Y (2*e) - Y (2*f)*X (2*e):=by
  obtain⟨s,s0,s1,s2⟩:=hf.vec f sX;obtain⟨t,t0,t1,t2⟩:=hf.vec e he;rw [← cross_cast s0 t0,← t1,← t2,← s1,← s2,hv];unfold bT;exact Iff.rfl
 omit h in
theorem Fan.odd {e f:Nat} (he:e<m) (sX:f<m) (hv:B f=B e):0<bT (p (B e)) (p (A e)) (p (A f))↔0<X (2*e+1)*Y (2*f+1) - Y (2*e+1)*X (2*f+1):=by
  obtain⟨s,s0,s1,s2⟩:=hf.vec f sX;obtain⟨t,t0,t1,t2⟩:=hf.vec e he;rw [(hf.pos e he).2.1,(hf.pos e he).2.2,(hf.pos f sX).2.1,(hf.pos f sX).2.2,Int.neg_mul_neg,Int.neg_mul_neg,← cross_cast t0 s0,← t1,← t2,← s1,← s2,hv];have:bT (p (B e)) (p (A e)) (p (A f))=((p (B e)).x - (p (A e)).x)*((p (B e)).y - (p (A f)).y) - ((p (B e)).y - (p (A e)).y)*((p (B e)).x - (p (A f)).x):=by unfold bT;grind
  rw [this]
theorem Fan.at_vertex {g:Nat→Bool} (hg:∀ v,degB A B g m v=false) {k:Nat} (hk:k<2*m):parH p A B m g k=xor (xsum (fun f=>g f && belV p A B f (orgF A B k)) m) (lxor (fun h=>g (h / 2) && conH X Y h k) (outl A B (orgF A B k) m)):=by
 have bJ:∀ e,e<m→A e≠B e:=fun e he=>by have:=h.ab e he;omega
 rw [lxor_outl _ _ bJ,← xsum_xor]
 rcases Nat.mod_two_eq_zero_or_one k with ek|ek
 ·obtain⟨e,rfl⟩:∃ e,k=2*e:=⟨k / 2,by omega⟩
  have he:e<m:=by omega
  unfold parH;rw [if_pos ek,orgF_l,show 2*e / 2=e by omega];unfold parA;refine xsum_congr fun f sX=>?_
  obtain⟨f1,f2⟩:=h.ab f sX;rw [show 2*f / 2=f by omega,show (2*f+1) / 2=f by omega]
  have c1:conH X Y (2*f) (2*e)=decide (f=e∨0<X (2*f)*Y (2*e) - Y (2*f)*X (2*e)):=by
   unfold conH;rw [if_pos ek];exact dec_iff ⟨fun hh=>hh.2.elim (fun x=>.inl (by omega)) .inr,fun hh=>⟨by omega,hh.elim (fun x=>.inl (by omega)) .inr⟩⟩
  have c2:conH X Y (2*f+1) (2*e)=false:=by
   unfold conH;rw [if_pos ek];exact decide_eq_false fun hh=>by omega
  rw [c1,c2]
  by_cases ha:A f=A e
  ·rw [belV_no (.inl (by omega))]
   have:belA p A B e f=decide (f=e∨0<X (2*f)*Y (2*e) - Y (2*f)*X (2*e)):=by
    unfold belA;rw [belV_no (.inl (by omega)),Bool.false_or];exact dec_iff ⟨fun hh=>hh.2.elim .inl fun x=>.inr ((hf.even he sX ha).1 x),fun hh=>⟨ha,hh.elim .inl fun x=>.inr ((hf.even he sX ha).2 x)⟩⟩
   rw [this,ha];simp
  ·rw [belA_no ha,decide_eq_false ha];simp
 ·obtain⟨e,rfl⟩:∃ e,k=2*e+1:=⟨k / 2,by omega⟩
  have he:e<m:=by omega
  unfold parH;rw [if_neg (by omega),orgF_r,show (2*e+1) / 2=e by omega];unfold parA;rw [h.along hg he,← xsum_one g he,← xsum_xor];refine xsum_congr fun f sX=>?_
  obtain⟨f1,f2⟩:=h.ab f sX;rw [show 2*f / 2=f by omega,show (2*f+1) / 2=f by omega]
  have c1:conH X Y (2*f) (2*e+1)=false:=by
   unfold conH;rw [if_neg (by omega)];exact decide_eq_false fun hh=>by omega
  have c2:conH X Y (2*f+1) (2*e+1)=decide (f≠e∧0<X (2*e+1)*Y (2*f+1) - Y (2*e+1)*X (2*f+1)):=by
   unfold conH;rw [if_neg (by omega)];exact dec_iff ⟨fun hh=>⟨by omega,hh.2.2⟩,fun hh=>⟨by omega,by omega,hh.2⟩⟩
  rw [c1,c2]
  by_cases hb:B f=B e
  ·rw [belV_no (.inr (by omega))]
   by_cases lU:f=e
   ·subst lU
    have:belB p A B f f=true:=by unfold belB;simp
    rw [this];simp
   ·have:belB p A B e f=decide (f≠e∧0<X (2*e+1)*Y (2*f+1) - Y (2*e+1)*X (2*f+1)):=by
     rw [belB_eq hb lU];exact dec_iff ⟨fun hh=>⟨lU,(hf.odd he sX hb).1 hh⟩,fun hh=>(hf.odd he sX hb).2 hh.2⟩
    rw [this,hb,decide_eq_false (fun hh:e=f=>lU hh.symm)];simp
  ·rw [belB_no hb,decide_eq_false (fun hh:e=f=>hb (by rw [hh])),decide_eq_false hb];simp
theorem Fan.con_eq {v x k:Nat} (hv:v<n) (hx:x ∈ R v) (hk:k ∈ R v):conH X Y x k=xor (xor (decide (leqZ (X x) (Y x) (X k) (Y k))) (inDH X Y x)) (kapH X Y k):=by
 have bJ:∀ e,e<m→A e≠B e:=fun e he=>by have:=h.ab e he;omega
 obtain⟨x1,x2⟩:=(mem_outl bJ).1 (((hf.list v hv).mem_iff).1 hx);obtain⟨k1,k2⟩:=(mem_outl bJ).1 (((hf.list v hv).mem_iff).1 hk);have anti:=hf.anti v hv x hx k hk;unfold conH inDH kapH
 rcases Nat.mod_two_eq_zero_or_one x with ex|ex <;> rcases Nat.mod_two_eq_zero_or_one k with ek|ek
 ·rw [if_pos ek,if_pos ek]
  have hu:lexP (X x) (Y x):=by have:=(hf.pos (x / 2) (by omega)).1;rwa [show 2*(x / 2)=x by omega] at this
  have hw:lexP (X k) (Y k):=by have:=(hf.pos (k / 2) (by omega)).1;rwa [show 2*(k / 2)=k by omega] at this
  by_cases e:x=k
  ·subst e
   have:=leqZ_refl (X x) (Y x);simp [ex,this]
  ·have hd:=dir_pp hu hw (fun hl h0=>e (anti (.inr ⟨hl,by omega⟩) (.inr ⟨hl.symm,by rw [Int.mul_comm (X k),Int.mul_comm (Y k)];omega⟩)))
   rw [dec_iff (b:=0<X x*Y k - Y x*X k) ⟨fun hh=>hh.2.resolve_left e,fun hh=>⟨ex,.inr hh⟩⟩,hd,dec_iff (a:=x % 2=0∧lowZ (X x) (Y x)) (b:=lowZ (X x) (Y x)) ⟨fun hh=>hh.2,fun hh=>⟨ex,hh⟩⟩]
 ·rw [if_neg (by omega),if_neg (by omega)]
  have hu:lexP (X x) (Y x):=by have:=(hf.pos (x / 2) (by omega)).1;rwa [show 2*(x / 2)=x by omega] at this
  have hw:lexP (-X k) (-Y k):=by
   obtain⟨q1,q2,q3⟩:=hf.pos (k / 2) (by omega);rw [show 2*(k / 2)+1=k by omega] at q2 q3;rw [q2,q3,Int.neg_neg,Int.neg_neg];exact q1
  have hd:=dir_pn hu hw;rw [decide_eq_false (p:=x % 2=1∧_) (fun hh=>by omega),dec_iff hd,dec_iff (a:=x % 2=0∧lowZ (X x) (Y x)) (b:=lowZ (X x) (Y x)) ⟨fun hh=>hh.2,fun hh=>⟨ex,hh⟩⟩]
  by_cases hl:lowZ (X x) (Y x) <;> simp [hl]
 ·rw [if_pos ek,if_pos ek]
  have hw:lexP (X k) (Y k):=by have:=(hf.pos (k / 2) (by omega)).1;rwa [show 2*(k / 2)=k by omega] at this
  have hu:lexP (-X x) (-Y x):=by
   obtain⟨q1,q2,q3⟩:=hf.pos (x / 2) (by omega);rw [show 2*(x / 2)+1=x by omega] at q2 q3;rw [q2,q3,Int.neg_neg,Int.neg_neg];exact q1
  have hd:=dir_np hu hw;rw [decide_eq_false (p:=x % 2=0∧(x=k∨_)) (fun hh=>by omega),dec_iff hd,decide_eq_false (p:=x % 2=0∧_) (fun hh=>by omega)]
  by_cases hl:lowZ (X k) (Y k) <;> simp [hl]
 ·rw [if_neg (by omega),if_neg (by omega)]
  have hu:lexP (-X x) (-Y x):=by
   obtain⟨q1,q2,q3⟩:=hf.pos (x / 2) (by omega);rw [show 2*(x / 2)+1=x by omega] at q2 q3;rw [q2,q3,Int.neg_neg,Int.neg_neg];exact q1
  have hw:lexP (-X k) (-Y k):=by
   obtain⟨q1,q2,q3⟩:=hf.pos (k / 2) (by omega);rw [show 2*(k / 2)+1=k by omega] at q2 q3;rw [q2,q3,Int.neg_neg,Int.neg_neg];exact q1
  have hd:=dir_nn hu hw;rw [decide_eq_false (p:=x % 2=0∧lowZ (X x) (Y x)) (fun hh=>by omega)]
  by_cases e:x=k
  ·subst e
   have:=leqZ_refl (X x) (Y x);simp [this]
  ·rw [dec_iff (b:=¬ leqZ (X x) (Y x) (X k) (Y k)) ⟨fun hh=>hd.1 hh.2.2,fun hh=>⟨ex,e,hd.2 hh⟩⟩]
   by_cases hl:leqZ (X x) (Y x) (X k) (Y k) <;> simp [hl]
end
section
variable {p:Nat→Pt} {A B:Nat→Nat} {m n:Nat} {X Y:Nat→Int} {R:Nat→List Nat} {P:Nat→Nat} (h:Plan p A B m n) (hf:Fan p A B m n X Y R P)
 include h hf
 omit h in
theorem Fan.gP {v i:Nat} (hv:v<n) (hi:i<(R v).length) (g:Nat→Bool):lxor (fun x=>g (x / 2) && decide (leqZ (X x) (Y x) (X (nth 0 (R v) i)) (Y (nth 0 (R v) i)))) (R v)=lxor (fun x=>g (x / 2)) ((R v).take (i+1)):=by
  have hs:=hf.rV v hv;have ha:=hf.anti v hv;have hn:=hf.nd v hv;generalize R v=l at *;have hk:nth 0 l i=l[i]:=bS 0 l i hi;have hp:=List.pairwise_iff_getElem.1 hs
  have e1:lxor (fun x=>g (x / 2) && decide (leqZ (X x) (Y x) (X (nth 0 l i)) (Y (nth 0 l i)))) (l.take (i+1))=lxor (fun x=>g (x / 2)) (l.take (i+1)):=lxor_congr fun x hx=>by
   obtain⟨j,hj,e⟩:=List.getElem_of_mem hx;rw [List.length_take] at hj;rw [List.getElem_take] at e;subst e
   have:leqZ (X l[j]) (Y l[j]) (X (nth 0 l i)) (Y (nth 0 l i)):=by
    rw [hk]
    by_cases e:j=i
    ·subst e;exact leqZ_refl _ _
    ·exact hp j i (by omega) hi (by omega)
   simp [this]
  have e2:lxor (fun x=>g (x / 2) && decide (leqZ (X x) (Y x) (X (nth 0 l i)) (Y (nth 0 l i)))) (l.drop (i+1))=false:=lxor_false fun x hx=>by
   obtain⟨j,hj,e⟩:=List.getElem_of_mem hx;rw [List.length_drop] at hj;rw [List.getElem_drop] at e;subst e
   have:¬ leqZ (X l[i+1+j]) (Y l[i+1+j]) (X (nth 0 l i)) (Y (nth 0 l i)):=fun hl=>by
    rw [hk] at hl;have hr:=hp i (i+1+j) hi (by omega) (by omega);have:=ha _ (List.getElem_mem _) _ (List.getElem_mem _) hl hr;have:=(List.pairwise_iff_getElem.1 hn) i (i+1+j) hi (by omega) (by omega);omega
   simp [this]
  rw [← List.take_append_drop (i+1) l,lxor_append];rw [List.take_append_drop (i+1) l,e1,e2,Bool.xor_false]
theorem Fan.parH_at {g:Nat→Bool} (hg:∀ v,degB A B g m v=false) {v i:Nat} (hv:v<n) (hi:i<(R v).length):parH p A B m g (nth 0 (R v) i)=xor (xor (xsum (fun f=>g f && belV p A B f v) m) (lxor (fun x=>g (x / 2) && inDH X Y x) (R v))) (lxor (fun x=>g (x / 2)) ((R v).take (i+1))):=by
 have bJ:∀ e,e<m→A e≠B e:=fun e he=>by have:=h.ab e he;omega
 have uM:=cQ 0 (R v) i hi;obtain⟨k1,k2⟩:=(mem_outl bJ).1 (((hf.list v hv).mem_iff).1 uM)
 have a0U:lxor (fun x=>g (x / 2)) (R v)=false:=by
  rw [lxor_perm _ (hf.list v hv),lxor_outl _ _ bJ,← hg v];refine xsum_congr fun f _=>?_
  rw [show 2*f / 2=f by omega,show (2*f+1) / 2=f by omega];cases g f <;> simp
 rw [hf.at_vertex h hg k1,k2,← lxor_perm _ (hf.list v hv)]
 have:lxor (fun x=>g (x / 2) && conH X Y x (nth 0 (R v) i)) (R v)=xor (lxor (fun x=>g (x / 2) && inDH X Y x) (R v)) (lxor (fun x=>g (x / 2)) ((R v).take (i+1))):=by
  rw [← hf.gP hv hi g,lxor_congr (G:=fun x=>xor (xor (g (x / 2) && inDH X Y x) (g (x / 2) && decide (leqZ (X x) (Y x) (X (nth 0 (R v) i)) (Y (nth 0 (R v) i))))) (g (x / 2) && kapH X Y (nth 0 (R v) i))) (fun x hx=>by
   rw [hf.con_eq h hv hx uM];generalize decide (leqZ (X x) (Y x) (X (nth 0 (R v) i)) (Y (nth 0 (R v) i)))=a;generalize inDH X Y x=b;generalize kapH X Y (nth 0 (R v) i)=c;generalize g (x / 2)=d;cases a <;> cases b <;> cases c <;> cases d <;> rfl),lxor_xor,lxor_xor,lxor_and,a0U]
  simp
 rw [this,Bool.xor_assoc]
theorem Fan.par_next {g:Nat→Bool} (hg:∀ v,degB A B g m v=false) {x:Nat} (hx:x<2*m):parH p A B m g (P x)=parH p A B m g x:=by
 have bJ:∀ e,e<m→A e≠B e:=fun e he=>by have:=h.ab e he;omega
 have hv:orgF A B (tw x)<n:=by
  have:=a1Q hx;have:=h.ab (tw x / 2) (by omega);unfold orgF;split <;> omega
 generalize nC:orgF A B (tw x)=v at *;have hm:tw x ∈ R v:=((hf.list v hv).mem_iff).2 ((mem_outl bJ).2 ⟨a1Q hx,nC⟩);obtain⟨i,hi,e⟩:=List.getElem_of_mem hm;have e0:nth 0 (R v) i=tw x:=by rw [bS 0 _ i hi];exact e
 have h1:=hf.iG v hv i hi;have h2:=hf.parH_at h hg hv hi;rw [e0,aEI] at h1;rw [e0] at h2
 have h3:parH p A B m g (tw x)=xor (parH p A B m g x) (g (x / 2)):=by
  unfold parH;rw [aNm,aS3]
  rcases Nat.mod_two_eq_zero_or_one x with ex|ex
  ·rw [if_neg (by omega),if_pos ex]
  ·rw [if_pos (by omega),if_neg (by omega),Bool.xor_assoc,Bool.xor_self,Bool.xor_false]
 have a0U:lxor (fun x=>g (x / 2)) (R v)=false:=by
  rw [lxor_perm _ (hf.list v hv),lxor_outl _ _ bJ,← hg v];refine xsum_congr fun f _=>?_
  rw [show 2*f / 2=f by omega,show (2*f+1) / 2=f by omega];cases g f <;> simp
 have key:lxor (fun x=>g (x / 2)) ((R v).take (i+1))=xor (lxor (fun x=>g (x / 2)) ((R v).take i)) (g (x / 2)):=by
  rw [List.take_succ_eq_append_getElem hi,lxor_append,e];show xor _ (xor (g (tw x / 2)) false)=_;rw [aNm,Bool.xor_false]
 have h4:parH p A B m g (P x)=xor (xor (xsum (fun f=>g f && belV p A B f v) m) (lxor (fun x=>g (x / 2) && inDH X Y x) (R v))) (lxor (fun x=>g (x / 2)) ((R v).take i)):=by
  rw [h1];cases i with
  | zero =>
   rw [show (0+(R v).length - 1) % (R v).length=(R v).length - 1 by rw [Nat.mod_eq_of_lt (by omega)];omega];rw [hf.parH_at h hg hv (by omega),show (R v).length - 1+1=(R v).length by omega,List.take_length,a0U]
   rfl
  | succ i =>
   rw [show (i+1+(R v).length - 1) % (R v).length=i by rw [show i+1+(R v).length - 1=i+(R v).length by omega,Nat.add_mod_right,Nat.mod_eq_of_lt (by omega)]];rw [hf.parH_at h hg hv (by omega)]
 rw [key,← Bool.xor_assoc,← h4,h3] at h2;generalize parH p A B m g (P x)=a at *;generalize parH p A B m g x=b at *;generalize g (x / 2)=c at *;cases a <;> cases b <;> cases c <;> first|rfl|exact absurd h2 (by decide)
theorem Fan.uD (hp:PermF P (2*m)) (ho:∀ x,x<2*m→orgF A B (P x)=orgF A B (tw x)):Rot A B m P:=by
 have bJ:∀ e,e<m→A e≠B e:=fun e he=>by have:=h.ab e he;omega
 refine⟨hp,ho,fun x y hx hy e=>?_,fun g hg=>⟨parH p A B m g,fun x hx=>hf.par_next h hg hx,fun e he=>?_⟩⟩
 ·have hv:orgF A B x<n:=by
   have:=h.ab (x / 2) (by omega);unfold orgF;split <;> omega
  generalize nC:orgF A B x=v at *
  have key:∀ i,i<(R v).length→meet (fun x=>P (tw x)) (nth 0 (R v) i) (nth 0 (R v) 0):=fun i=>by
   induction i with
   | zero=>intro _;exact meet.refl _ _
   | succ i ih =>
    intro hi;have hs:=meet.step (fun x=>P (tw x)) (nth 0 (R v) (i+1));rw [hf.iG v hv (i+1) hi,show (i+1+(R v).length - 1) % (R v).length=i by rw [show i+1+(R v).length - 1=i+(R v).length by omega,Nat.add_mod_right,Nat.mod_eq_of_lt (by omega)]] at hs;exact hs.trans (ih (by omega))
  have at_:∀ x,x<2*m→orgF A B x=v→∃ i,i<(R v).length∧nth 0 (R v) i=x:=fun x hx hxv=>by
   obtain⟨i,hi,e⟩:=List.getElem_of_mem (((hf.list v hv).mem_iff).2 ((mem_outl bJ).2 ⟨hx,hxv⟩));exact⟨i,hi,by rw [bS 0 _ i hi];exact e⟩
  obtain⟨i,hi,rfl⟩:=at_ x hx nC;obtain⟨j,hj,rfl⟩:=at_ y hy e.symm;exact (key i hi).trans (key j hj).symm
 ·unfold parH
  rw [if_neg (by omega),if_pos (by omega),show (2*e+1) / 2=e by omega,show 2*e / 2=e by omega]
end
theorem fit_it (N:List Nat) (h:Nat):∀ j,fit (fun k=>nth 0 N k) j h=it N j h
 | 0=>rfl
 | j+1=>by show nth 0 N (fit _ j h)=nth 0 N (it N j h);rw [fit_it N h j]
theorem jg.f {N:List Nat} (h:jg N):PermF (fun k=>nth 0 N k) N.length:=⟨h.lt,h.inj⟩
theorem meet_orb {N:List Nat} (hp:jg N) {h k:Nat} (hh:h<N.length) (hk:k<N.length):meet (fun k=>nth 0 N k) h k↔k ∈ et N h:=by
 rw [xo hp hh]
 constructor
 ·intro hm
  obtain⟨q,-,e⟩:=hp.f.reach hh hk hm;exact⟨q,by rw [← fit_it];exact e⟩
 ·rintro⟨j,e⟩
  exact⟨j,0,by rw [fit_it];exact e⟩
theorem newP_least {N:List Nat} (hp:jg N) {k:Nat} (hk:k<N.length):newP (meet fun k=>nth 0 N k) k↔ed N k=k:=by
 obtain⟨l1,l2⟩:=a0s hp hk
 constructor
 ·intro h
  refine Classical.byContradiction fun e=>?_
  have aW:ed N k<k:=by have:=aIF hp hk;omega
  exact h _ aW ((meet_orb hp hk (by omega)).2 l1)
 ·intro e j hj hm
  have:=l2 j ((meet_orb hp hk (by omega)).1 hm);omega
theorem cntP_le {p q:Nat→Prop} {f:Nat→Nat} {M:Nat}:∀ {n:Nat},(∀ v,v<n→p v→f v<M∧q (f v))→(∀ u v,u<n→v<n→p u→p v→f u=f v→u=v)→cntP p n≤cntP q M
 | 0,_,_=>Nat.zero_le _
 | n+1,h,hi=>by
  by_cases hp:p n
  ·obtain⟨h1,h2⟩:=h n (by omega) hp
   have ih:=cntP_le (p:=p) (q:=fun i=>q i∧i≠f n) (f:=f) (M:=M) (n:=n) (fun v hv hpv=>⟨(h v (by omega) hpv).1,(h v (by omega) hpv).2,fun e=>by have:=hi v n (by omega) (by omega) hpv hp e;omega⟩) (fun u v hu hv=>hi u v (by omega) (by omega));have:=cntP_less (p:=q) (q:=fun i=>q i∧i≠f n) (k:=f n) h2 (fun _=>Iff.rfl) M;rw [if_pos h1] at this;rw [cntP_succ_pos hp];omega
  ·rw [cntP_succ_neg hp]
   exact cntP_le (fun v hv=>h v (by omega)) (fun u v hu hv=>hi u v (by omega) (by omega))
theorem cntP_split (p q:Nat→Prop):∀ n,cntP p n=cntP (fun i=>p i∧q i) n+cntP (fun i=>p i∧¬ q i) n
 | 0=>rfl
 | n+1=>by
  have ih:=cntP_split p q n
  by_cases hp:p n
  ·by_cases hq:q n
   ·rw [cntP_succ_pos hp,cntP_succ_pos (p:=fun i=>p i∧q i) ⟨hp,hq⟩,cntP_succ_neg (p:=fun i=>p i∧¬ q i) (fun h=>h.2 hq)];omega
   ·rw [cntP_succ_pos hp,cntP_succ_neg (p:=fun i=>p i∧q i) (fun h=>hq h.2),cntP_succ_pos (p:=fun i=>p i∧¬ q i) ⟨hp,hq⟩];omega
  ·rw [cntP_succ_neg hp,cntP_succ_neg (p:=fun i=>p i∧q i) (fun h=>hp h.1),cntP_succ_neg (p:=fun i=>p i∧¬ q i) (fun h=>hp h.1)];omega
section
variable {x:FI} {fB:Nat→Nat} (hx:x.Ok fB)
 include hx
theorem FI.Ok.O_count:x.O.length=1+cntP (fun k=>ed x.N k=k∧¬ x.W k) x.N.length:=by
 have key:∀ h,h≤x.N.length→(x.fO h).2.length=1+cntP (fun k=>ed x.N k=k∧¬ x.W k) h:=fun h=>by
  induction h with
  | zero=>intro _;rfl
  | succ h ih =>
   intro hh;have p:=hx.fO h (by omega);have ih:=ih (by omega);have hle:=aIF hx.perm (show h<x.N.length by omega);show (if nth 0 (x.fO h).1 h = -1 then _ else _:List Int × List Int).2.length=_
   by_cases hw:x.W h
   ·rw [if_neg (by rw [p.w h (by omega) hw];decide),cntP_succ_neg fun hc=>hc.2 hw,ih]
   ·by_cases hl:ed x.N h=h
    ·rw [if_pos (p.high h (by omega) hw (by omega)),cntP_succ_pos ⟨hl,hw⟩]
     simp only [List.length_append,List.length_singleton];omega
    ·obtain⟨i,i0,_,e,_⟩:=p.low h (by omega) hw (by omega)
     rw [if_neg (by rw [e];omega),cntP_succ_neg fun hc=>hl hc.1,ih]
 exact key x.N.length (Nat.le_refl _)
theorem FI.Ok.W_count:cntP (fun k=>ed x.N k=k∧x.W k) x.N.length=cntP (fun v=>nth 0 x.root v=v∧x.fh v=true) x.n:=by
 refine Nat.le_antisymm ?_ ?_
 ·refine cntP_le (f:=fun k=>nth 0 x.root (fB k)) (fun k hk hp=>?_) (fun k k' hk iI hp iY e=>?_)
  ·obtain⟨h1,h2,h3,h4⟩:=hx.aCM hk hp.2
   exact⟨h1,h3,h2⟩
  ·obtain⟨h1,h2,h3,h4⟩:=hx.aCM hk hp.2
   obtain⟨g1,g2,g3,g4⟩:=hx.aCM iI iY.2;have o1:=hx.zJ _ h1 h2;rw [← e] at g4;rw [← hp.1,← iY.1,a9U hx.perm o1 h4,a9U hx.perm o1 g4]
 ·refine cntP_le (f:=fun v=>ed x.N (x.out v)) (fun v hv hp=>?_) (fun u v hu hv hp iY e=>?_)
  ·have o1:=hx.zJ v hv hp.2
   refine⟨a0R hx.perm o1,a7y hx.perm o1,(hx.aTf o1).2 ((x.a7A _).2 ⟨v,hv,hp.2,hp.1,a9m hx.perm o1⟩)⟩
  ·have o1:=hx.zJ u hu hp.2
   have o2:=hx.zJ v hv iY.2;have h1:=hx.aJA o1 (a0s hx.perm o1).1;have h2:=hx.aJA o2 (a0s hx.perm o2).1;rw [hx.aK9 u hu hp.2,hp.1] at h1;rw [hx.aK9 v hv iY.2,iY.1,← e] at h2;exact h1.symm.trans h2
theorem FI.Ok.count:x.O.length+cntP (fun v=>nth 0 x.root v=v) x.n=1+clsN (meet fun k=>nth 0 x.N k) x.N.length+cntP (fun v=>x.fh v=false) x.n:=by
 have h1:clsN (meet fun k=>nth 0 x.N k) x.N.length=cntP (fun k=>ed x.N k=k) x.N.length:=cntP_congr fun k hk=>newP_least hx.perm hk
 have h2:=cntP_split (fun k=>ed x.N k=k) x.W x.N.length;have h3:=cntP_split (fun v=>nth 0 x.root v=v) (fun v=>x.fh v=true) x.n
 have h4:cntP (fun v=>nth 0 x.root v=v∧¬ x.fh v=true) x.n=cntP (fun v=>x.fh v=false) x.n:=cntP_congr fun v hv=>by
  constructor
  ·rintro⟨_,h⟩;exact Bool.eq_false_iff.2 h
  ·intro h;exact⟨hx.alone v hv h,by rw [h];decide⟩
 have h5:=hx.W_count;have h6:=hx.O_count;omega
end
structure cV where
 k:Int
 x:Int
 y:Int
 pos:0<k
variable (m:cV)
def cV.g (p:Gp):Gp:=⟨m.k*p.x+m.x,m.k*p.y+m.y⟩
def cV.s (s:Sz):Sz:=⟨m.g s.a,m.g s.b⟩
def cV.p (p:Pt):Pt:=⟨(m.k:Rat)*p.x+m.x,(m.k:Rat)*p.y+m.y⟩
def cV.sg (s:Sg):Sg:=⟨m.p s.a,m.p s.b⟩
theorem cV.nN:(0:Rat)<(m.k:Rat):=by have:=m.pos;exact_mod_cast this
theorem cV.pt (g:Gp):(m.g g).pt=m.p g.pt:=by
 unfold cV.g cV.p Gp.pt;simp only [Rat.intCast_add,Rat.intCast_mul]
theorem mul_lt {k a b:Rat} (hk:0<k):k*a<k*b↔a<b:=Rat.mul_lt_mul_left hk
theorem aDY {k a b:Rat} (hk:0<k):k*a≤k*b↔a≤b:=by
 have:=mul_lt (a:=b) (b:=a) hk
 grind
theorem a3J {k x a b:Rat} (hk:0<k):k*a+x<k*b+x↔a<b:=by
 have:=mul_lt (a:=a) (b:=b) hk;grind
theorem a1m {k x a b:Rat} (hk:0<k):k*a+x≤k*b+x↔a≤b:=by
 have:=aDY (a:=a) (b:=b) hk;grind
theorem a8h {k x a b:Rat} (hk:0<k):k*a+x=k*b+x↔a=b:=by
 have h1:=a1m (x:=x) (a:=a) (b:=b) hk;have h2:=a1m (x:=x) (a:=b) (b:=a) hk
 grind
theorem cV.lt {p q:Pt}:(m.p p).lt (m.p q)↔p.lt q:=by
 unfold Pt.lt cV.p;simp only [a3J m.nN,a8h m.nN]
theorem cV.inj {p q:Pt}:m.p p=m.p q↔p=q:=by
 obtain⟨a,b⟩:=p;obtain⟨c,d⟩:=q;unfold cV.p;simp only [Pt.mk.injEq,a8h m.nN]
theorem cV.bT (a b c:Pt):bT (m.p a) (m.p b) (m.p c)=(m.k:Rat)*m.k*bT a b c:=by
 unfold Hp.bT cV.p;grind
theorem cV.k2:(0:Rat)<(m.k:Rat)*m.k:=Rat.mul_pos m.nN m.nN
theorem cV.ne {s:Sz} (h:s.a≠s.b):(m.s s).a≠(m.s s).b:=fun e=>h (by
 have hk:=m.pos;obtain⟨⟨a,b⟩,⟨c,d⟩⟩:=s;have e:(⟨m.k*a+m.x,m.k*b+m.y⟩:Gp)=⟨m.k*c+m.x,m.k*d+m.y⟩:=e;rw [Gp.mk.injEq] at e ⊢;obtain⟨e1,e2⟩:=e;have e1:m.k*a=m.k*c:=by omega
 have e2:m.k*b=m.k*d:=by omega
 exact⟨Int.eq_of_mul_eq_mul_left (by omega) e1,Int.eq_of_mul_eq_mul_left (by omega) e2⟩)
theorem cV.dir {s:Sz} (h:s.a≠s.b):fN (m.s s)=fN s:=by
 obtain⟨h1,k,hk,hx,hy⟩:=yC h;obtain⟨h2,l,hl,gx,gy⟩:=yC (m.ne h);have ex:(m.s s).b.x - (m.s s).a.x=m.k*(s.b.x - s.a.x):=by show (m.k*s.b.x+m.x) - (m.k*s.a.x+m.x)=_;rw [Int.mul_sub];omega
 have ey:(m.s s).b.y - (m.s s).a.y=m.k*(s.b.y - s.a.y):=by show (m.k*s.b.y+m.y) - (m.k*s.a.y+m.y)=_;rw [Int.mul_sub];omega
 rw [ex,hx] at gx;rw [ey,hy] at gy;refine h2.eq h1 ?_;have kE:=m.pos;generalize fN (m.s s)=d at *;generalize fN s=e at *;have h3:(m.k*k*l)*(d.x*e.y)=(m.k*k*l)*(d.y*e.x):=by grind
 have h4:m.k*k*l≠0:=by
  intro h
  rcases Int.mul_eq_zero.1 h with h|h
  ·rcases Int.mul_eq_zero.1 h with h|h
   ·omega
   ·exact hk h
  ·exact hl h
 exact Int.eq_of_mul_eq_mul_left h4 h3
theorem aP1 {c a:Rat} (hc:0<c):e8 (c*a) 0=e8 a 0:=by
 have h1:=mul_lt (a:=a) (b:=0) hc;have h2:=mul_lt (a:=0) (b:=a) hc;have h0:c*0=0:=by grind
 rw [h0] at h1 h2;unfold e8;simp only [h1,h2]
theorem cV.nth {V:List Pt} {i:Nat} (hi:i<V.length):nth au (V.map m.p) i=m.p (nth au V i):=by
 rw [bS _ _ _ (by simpa using hi),bS _ _ _ hi,List.getElem_map]
section
variable {V:List Pt} {es:List Ed} (bV:∀ e ∈ es,e.a<V.length∧e.b<V.length)
 include bV
theorem cV.iN {e x:Nat} (he:e<es.length) (hx:x<V.length):iN (V.map m.p) es e x=iN V es e x:=by
 obtain⟨h1,h2⟩:=bV _ (cQ ah es e he);unfold Hp.iN;rw [m.nth h1,m.nth h2,m.nth hx,m.bT,aP1 m.k2]
 omit bV in
theorem cV.r6 {u v:Nat} (hu:u<V.length) (hv:v<V.length):r6 (V.map m.p) u v=r6 V u v:=by
  unfold Hp.r6;rw [m.nth hu,m.nth hv];unfold cV.p;simp only [a1m m.nN]
theorem cV.mr {e f:Nat} (he:e<es.length) (hf:f<es.length):mr (V.map m.p) es e f=mr V es e f:=by
 obtain⟨h1,h2⟩:=bV _ (cQ ah es e he);obtain⟨h3,h4⟩:=bV _ (cQ ah es f hf);unfold Hp.mr;rw [m.iN bV he h3,m.iN bV he h4,m.iN bV hf h1,m.iN bV hf h2]
theorem cV.nM {v e:Nat} (he:e<es.length) (hv:v<V.length):nM (V.map m.p) es v e=nM V es v e:=by
 obtain⟨h1,h2⟩:=bV _ (cQ ah es e he);unfold Hp.nM;rw [m.r6 h1 hv,m.r6 h2 hv,m.iN bV he hv]
theorem cV.fR {v:Nat} (hv:v<V.length):∀ k,k≤es.length→fR (V.map m.p) es v k=fR V es v k
 | 0,_=>rfl
 | k+1,hk=>by
  have ih:=cV.fR hv k (by omega);have hl:=a9h V es v k;have e1:∀ W:List Pt,Hp.fR W es v (k+1)=if Hp.nM W es v k then Hp.fR W es v k else if Hp.fR W es v k<0 then (k:Int) else if Hp.mr W es k (Hp.fR W es v k).toNat then (k:Int) else Hp.fR W es v k:=fun _=>rfl
  rw [e1,e1,ih,m.nM bV (by omega) hv]
  by_cases hb:Hp.fR V es v k<0
  ·simp only [hb,if_true]
  ·rw [m.mr bV (by omega) (by omega)]
theorem cV.oZ {v:Nat} (hv:v<V.length):oZ (V.map m.p) es v=oZ V es v:=by
 unfold Hp.oZ;rw [m.fR bV hv _ (Nat.le_refl _)]
end
def FI.wb (x:FI) (b:Nat→Option Nat):FI:=⟨x.N,x.m,x.n,x.root,x.out,x.fh,b⟩
theorem FI.aK1 (x:FI) (b:Nat→Option Nat):∀ h,(x.wb b).fO h=x.fO h
 | 0=>rfl
 | h+1=>by
  have ih:=FI.aK1 x b h;have e:∀ y:FI,y.fO (h+1)=if nth 0 (y.fO h).1 h = -1 then (lE (y.fO h).1 (et y.N h) (y.fO h).2.length,(y.fO h).2++[(ed y.N h:Int)]) else y.fO h:=fun _=>rfl
  rw [e,e,ih];rfl
theorem FI.aGY (x:FI) (b:Nat→Option Nat):(x.wb b).L2=x.L2∧(x.wb b).O=x.O:=by
 have h:=FI.aK1 x b x.N.length;exact⟨congrArg Prod.fst h,congrArg Prod.snd h⟩
theorem FI.aLh (x:FI) (b:Nat→Option Nat):∀ v,(∀ u,u<v→b u=x.nI u)→(x.wb b).gE v=x.gE v
 | 0,_=>by
  obtain⟨h1,h2⟩:=FI.aGY x b;have e:∀ y:FI,y.gE 0=⟨y.L2,List.replicate y.O.length [],List.replicate y.O.length []⟩:=fun _=>rfl
  rw [e,e,h1,h2]
 | v+1,h=>by
  have ih:=FI.aLh x b v (fun u hu=>h u (by omega));have e:∀ y:FI,y.gE (v+1)=y.a0a (y.gE v) v:=fun _=>rfl
  have hf:∀ L,(x.wb b).fK L v=x.fK L v:=fun L=>by
   have hb:(x.wb b).nI v=x.nI v:=h v (by omega);unfold FI.fK;rw [hb]
  rw [e,e,ih];unfold FI.a0a;rw [hf];rfl
theorem cV.fr {V:List Pt} {es:List Ed} (bV:∀ e ∈ es,e.a<V.length∧e.b<V.length) (RL:List (List Nat)) (out:Nat→Nat):(jR (V.map m.p) es RL out).fr=(jR V es RL out).fr:=by
 have e1:jR (V.map m.p) es RL out=(jR V es RL out).wb (Hp.oZ (V.map m.p) es):=by
  unfold jR FI.wb;rw [List.length_map]
 have e2:=FI.aLh (jR V es RL out) (Hp.oZ (V.map m.p) es) V.length (fun u hu=>m.oZ bV hu);have e3:=(FI.aGY (jR V es RL out) (Hp.oZ (V.map m.p) es)).2;rw [e1];have e:∀ y:FI,y.fr=⟨y.N,(y.gE y.n).L,y.O,(y.gE y.n).I.map qt,(y.gE y.n).A⟩:=fun _=>rfl
 have en:((jR V es RL out).wb (Hp.oZ (V.map m.p) es)).n=V.length:=rfl;have en2:(jR V es RL out).n=V.length:=rfl;rw [e,e,en,en2,e2,e3];rfl
theorem aLg {n d:Rat} (hd:0<d) (h0:0≤n) (h1:n≤d):0≤n / d∧n / d≤1:=by
 have bJ:d≠0:=by grind
 have ht:d*(n / d)=n:=by grind
 exact⟨(aDY hd).1 (by rw [ht];grind),(aDY hd).1 (by rw [ht];grind)⟩
theorem a3w {s:Sg} {p r x:Pt} (hp:cj s p) (hr:cj s r) (h1:p.lt x) (h2:x.lt r) (hc:bT p r x=0):cj s x:=by
 obtain⟨a1,b1,b2,b3,b4⟩:=hp;obtain⟨a2,c1,c2,c3,c4⟩:=hr;have pO:p.x≤x.x:=by unfold Pt.lt at h1;grind
 have uz:x.x≤r.x:=by unfold Pt.lt at h2;grind
 have key:∃ t:Rat,0≤t∧t≤1∧x.x=p.x+t*(r.x - p.x)∧x.y=p.y+t*(r.y - p.y):=by
  by_cases e:r.x=p.x
  ·have ex:x.x=p.x:=by grind
   have wE:p.y<x.y:=by unfold Pt.lt at h1;grind
   have tT:x.y<r.y:=by unfold Pt.lt at h2;grind
   have bJ:r.y - p.y≠0:=by grind
   have kx:0<r.y - p.y:=by grind
   obtain⟨f0,f1⟩:=aLg kx (n:=x.y - p.y) (by grind) (by grind);exact⟨(x.y - p.y) / (r.y - p.y),f0,f1,by grind,by grind⟩
  ·have kx:0<r.x - p.x:=by grind
   have bJ:r.x - p.x≠0:=by grind
   obtain⟨f0,f1⟩:=aLg kx (n:=x.x - p.x) (by grind) (by grind);exact⟨(x.x - p.x) / (r.x - p.x),f0,f1,by grind,by unfold bT at hc;grind⟩
 obtain⟨t,t0,t1,ex,ey⟩:=key;refine⟨?_,?_,?_,?_,?_⟩
 ·have:bT s.a s.b x=(1 - t)*bT s.a s.b p+t*bT s.a s.b r:=by unfold bT;rw [ex,ey];grind
  rw [this,a1,a2];grind
 ·generalize min s.a.x s.b.x=u at *
  grind
 ·generalize max s.a.x s.b.x=u at *
  grind
 ·have h:∀ u v w:Rat,u≤v→u≤w→u≤v+t*(w - v):=fun u v w h3 h4=>by
   have e1:v+t*(w - v) - u=(1 - t)*(v - u)+t*(w - u):=by grind
   have e2:0≤(1 - t)*(v - u):=Rat.mul_nonneg (by grind) (by grind);have e3:0≤t*(w - u):=Rat.mul_nonneg t0 (by grind)
   grind
  show min s.a.y s.b.y≤x.y;rw [ey];exact h _ _ _ b3 c3
 ·have h:∀ u v w:Rat,v≤u→w≤u→v+t*(w - v)≤u:=fun u v w h3 h4=>by
   have e1:u - (v+t*(w - v))=(1 - t)*(u - v)+t*(u - w):=by grind
   have e2:0≤(1 - t)*(u - v):=Rat.mul_nonneg (by grind) (by grind);have e3:0≤t*(u - w):=Rat.mul_nonneg t0 (by grind)
   grind
  show x.y≤max s.a.y s.b.y;rw [ey];exact h _ _ _ b4 c4
theorem aHQ {a b u v p q:Rat} (h:a≠0∨b≠0) (h1:a*v=b*u) (h2:a*q=b*p):u*q=v*p:=by
 rcases h with h|h
 ·have e:a*(u*q - v*p)=0:=by grind
  rcases Rat.mul_eq_zero.1 e with e|e
  ·exact absurd e h
  ·grind
 ·have e:b*(u*q - v*p)=0:=by grind
  rcases Rat.mul_eq_zero.1 e with e|e
  ·exact absurd e h
  ·grind
theorem aFR {C D M:Pt} (h:C.lt D) (ho:cj ⟨C,D⟩ M):M=C∨M=D∨(C.lt M∧M.lt D):=by
 obtain⟨a,b1,b2,b3,b4⟩:=ho;obtain⟨cx,cy⟩:=C;obtain⟨dx,dy⟩:=D;obtain⟨x,y⟩:=M;unfold bT at a;simp only [Pt.mk.injEq] at *;unfold Pt.lt at *;simp only at *
 rcases h with h|⟨h1,h2⟩
 ·have e1:cx≤x:=by grind
  have e2:x≤dx:=by grind
  by_cases f1:x=cx
  ·left;refine⟨f1,?_⟩
   have:(dx - cx)*(y - cy)=0:=by grind
   rcases Rat.mul_eq_zero.1 this with e|e <;> grind
  ·by_cases f2:x=dx
   ·right;left;refine⟨f2,?_⟩
    have:(dx - cx)*(y - dy)=0:=by grind
    rcases Rat.mul_eq_zero.1 this with e|e <;> grind
   ·right;right;exact⟨.inl (by grind),.inl (by grind)⟩
 ·have ex:x=cx:=by grind
  by_cases f1:y=cy
  ·exact .inl ⟨ex,f1⟩
  ·by_cases f2:y=dy
   ·exact .inr (.inl ⟨by grind,f2⟩)
   ·exact .inr (.inr ⟨.inr ⟨by grind,by grind⟩,.inr ⟨by grind,by grind⟩⟩)
theorem aDn {s:Sg} {P Q:Pt} (hP:bT s.a s.b P=0) (hQ:bT s.a s.b Q=0):(s.b.x - s.a.x)*(Q.y - P.y)=(s.b.y - s.a.y)*(Q.x - P.x):=by
 unfold bT at hP hQ;grind
theorem aAk {s t:Sg} (hs:s.b.x - s.a.x≠0∨s.b.y - s.a.y≠0) (ht:t.b.x - t.a.x≠0∨t.b.y - t.a.y≠0) (hd:fJ s t=0) {P Q M C:Pt} (hP:bT s.a s.b P=0) (hQ:bT s.a s.b Q=0) (hM:bT s.a s.b M=0) (hM':bT t.a t.b M=0) (hC:bT t.a t.b C=0):bT P Q C=0:=by
 have e1:=aDn hP hQ;have e2:=aDn hP hM;have e3:=aDn hM' hC;have e4:(t.b.x - t.a.x)*(s.b.y - s.a.y)=(t.b.y - t.a.y)*(s.b.x - s.a.x):=by unfold fJ at hd;grind
 have e5:=aHQ ht e4 e3;have e6:(s.b.x - s.a.x)*(C.y - P.y)=(s.b.y - s.a.y)*(C.x - P.x):=by grind
 have e7:=aHQ hs e1 e6;unfold bT;grind
theorem aJj {s t:Sg} (h:fJ s t=0):fJ t s=0:=by unfold fJ at *;grind
theorem aH1 {s:Sz} (h:s.a≠s.b):s.sg.b.x - s.sg.a.x≠0∨s.sg.b.y - s.sg.a.y≠0:=by
 by_cases e:s.b.x=s.a.x
 ·right
  intro e2;apply h;obtain⟨⟨a,b⟩,⟨c,d⟩⟩:=s;have e3:((d:Int):Rat) - (b:Int)=0:=e2;have e4:((d - b:Int):Rat)=0:=by rw [Rat.intCast_sub];exact e3
  have e5:d - b=0:=by exact_mod_cast e4
  simp only at e;simp only [Gp.mk.injEq];omega
 ·left
  intro e2;obtain⟨⟨a,b⟩,⟨c,d⟩⟩:=s;have e3:((c:Int):Rat) - (a:Int)=0:=e2;have e4:((c - a:Int):Rat)=0:=by rw [Rat.intCast_sub];exact e3
  have e5:c - a=0:=by exact_mod_cast e4
  apply e;simp only;omega
theorem eu.aSL {os:List Sz} {gs:List Gp} {V:List Pt} {es:List Ed} (h:eu os gs V es) (cJ:∀ t ∈ os,t.a≠t.b) {e f:Ed} (he:e ∈ es) (hf:f ∈ es) {M:Pt} (hM:M ∉ V) (hoe:cj ⟨nth au V e.a,nth au V e.b⟩ M) (pr:cj ⟨nth au V f.a,nth au V f.b⟩ M):e.a=f.a∧e.b=f.b:=by
 have hV:=h.arr.sv;obtain⟨s,hs,hn,_⟩:=h.dir e he;obtain⟨t,ht,hn',_⟩:=h.dir f hf;obtain⟨kZ,P,Q,hP,hQ,oP,oQ,vP⟩:=hn;obtain⟨a1S,C,D,hC,hD,oC,oD,aI6⟩:=hn';obtain⟨i1,i2⟩:=List.getElem?_eq_some_iff.1 hP;obtain⟨j1,j2⟩:=List.getElem?_eq_some_iff.1 hQ;obtain⟨k1,k2⟩:=List.getElem?_eq_some_iff.1 hC;obtain⟨l1,l2⟩:=List.getElem?_eq_some_iff.1 hD;have eP:nth au V e.a=P:=by rw [bS _ _ _ i1];exact i2
 have eQ:nth au V e.b=Q:=by rw [bS _ _ _ j1];exact j2
 have eC:nth au V f.a=C:=by rw [bS _ _ _ k1];exact k2
 have eD:nth au V f.b=D:=by rw [bS _ _ _ l1];exact l2
 rw [eP,eQ] at hoe;rw [eC,eD] at pr;have lPQ:=qA hV hP hQ kZ;have lCD:=qA hV hC hD a1S;have mC:C ∈ V:=k2 ▸ List.getElem_mem k1;have mD:D ∈ V:=l2 ▸ List.getElem_mem l1;have mP:P ∈ V:=i2 ▸ List.getElem_mem i1;have mQ:Q ∈ V:=j2 ▸ List.getElem_mem j1
 have lM:P.lt M∧M.lt Q:=by
  rcases aFR lPQ hoe with e|e|e
  ·exact absurd (e ▸ mP) hM
  ·exact absurd (e ▸ mQ) hM
  ·exact e
 have oM:=a3w oP oQ lM.1 lM.2 hoe.1
 obtain⟨c1,c2⟩:C.lt M∧M.lt D:=by
  rcases aFR lCD pr with e|e|e
  ·exact absurd (e ▸ mC) hM
  ·exact absurd (e ▸ mD) hM
  ·exact e
 have oM':=a3w oC oD c1 c2 pr.1
 have hd:fJ s.sg t.sg=0:=by
  by_cases hd:fJ s.sg t.sg=0
  ·exact hd
  ·exfalso
   apply hM;rw [h.arr.mv];obtain⟨i,hi,ei⟩:=List.getElem_of_mem hs;obtain⟨j,hj,ej⟩:=List.getElem_of_mem ht;refine .inr (.inr ⟨i,j,s.sg,t.sg,fun e=>hd ?_,by simp [hi,ei],by simp [hj,ej],oM,oM',.inl hd⟩);subst e;rw [ei] at ej;subst ej;unfold fJ;grind
 have ns:=aH1 (cJ s hs);have nt:=aH1 (cJ t ht);have q1:=aAk ns nt hd oP.1 oQ.1 oM.1 oM'.1 oC.1;have q2:=aAk ns nt hd oP.1 oQ.1 oM.1 oM'.1 oD.1;have q3:=aAk nt ns (aJj hd) oC.1 oD.1 oM'.1 oM.1 oP.1;have q4:=aAk nt ns (aJj hd) oC.1 oD.1 oM'.1 oM.1 oQ.1
 constructor
 ·rcases Nat.lt_trichotomy e.a f.a with a|a|a
  ·have l:=qA hV hP hC a
   have l2:=Pt.lt_trans c1 lM.2;exact absurd (a3w oP oQ l l2 q1) (vP _ _ a (a0t hV k1 j1 (by rw [eC,eQ];exact l2)) hC)
  ·exact a
  ·have l:=qA hV hC hP a
   have l2:=Pt.lt_trans lM.1 c2;exact absurd (a3w oC oD l l2 q3) (aI6 _ _ a (a0t hV i1 l1 (by rw [eP,eD];exact l2)) hP)
 ·rcases Nat.lt_trichotomy e.b f.b with a|a|a
  ·have l:=qA hV hQ hD a
   have l2:=Pt.lt_trans c1 lM.2;exact absurd (a3w oC oD l2 l q4) (aI6 _ _ (a0t hV k1 j1 (by rw [eC,eQ];exact l2)) a hQ)
  ·exact a
  ·have l:=qA hV hD hQ a
   have l2:=Pt.lt_trans lM.1 c2;exact absurd (a3w oP oQ l2 l q2) (vP _ _ (a0t hV i1 l1 (by rw [eP,eD];exact l2)) a hD)
theorem cross_t {u v:Rat} (h1:u<0) (h2:0<v):∃ t,0<t∧t<1∧u+t*(v - u)=0:=by
 have hd:0<v - u:=by grind
 have bJ:v - u≠0:=by grind
 have ht:(v - u)*(-u / (v - u)) = -u:=by grind
 refine⟨-u / (v - u),(mul_lt hd).1 (by rw [ht];grind),(mul_lt hd).1 (by rw [ht];grind),by grind⟩
theorem eu.side {os:List Sz} {gs:List Gp} {V:List Pt} {es:List Ed} (h:eu os gs V es) (cJ:∀ t ∈ os,t.a≠t.b) {e f:Ed} (he:e ∈ es) (hf:f ∈ es) {x y:Pt} (hx:cj ⟨nth au V f.a,nth au V f.b⟩ x) (hy:cj ⟨nth au V f.a,nth au V f.b⟩ y)
 (x1:(nth au V e.a).lt x) (x2:x.lt (nth au V e.b)) (y1:(nth au V e.a).lt y) (y2:y.lt (nth au V e.b)) (h1:bT (nth au V e.a) (nth au V e.b) x<0) (h2:0<bT (nth au V e.a) (nth au V e.b) y):False:=by
 have hV:=h.arr.sv;obtain⟨s,hs,hn,_⟩:=h.dir e he;obtain⟨kZ,P,Q,hP,hQ,oP,oQ,vP⟩:=hn;obtain⟨i1,i2⟩:=List.getElem?_eq_some_iff.1 hP;obtain⟨j1,j2⟩:=List.getElem?_eq_some_iff.1 hQ;have eP:nth au V e.a=P:=by rw [bS _ _ _ i1];exact i2
 have eQ:nth au V e.b=Q:=by rw [bS _ _ _ j1];exact j2
 have hpt:=fun M hM (hoe:cj ⟨nth au V e.a,nth au V e.b⟩ M) pr=>h.aSL cJ he hf (M:=M) hM hoe pr
 simp only [eP,eQ] at hpt x1 x2 y1 y2 h1 h2;obtain⟨t,t0',t1',lX⟩:=cross_t h1 h2;have hz:bT P Q (cvx t x y)=0:=by rw [area_cvx];exact lX
 have z1:=lt_cvx t0' t1' x1 y1;have z2:=cvx_lt' t0' t1' x2 y2;have ozQ:=cvx_on (Rat.le_of_lt t0') (Rat.le_of_lt t1') hx hy;have oe:=a3w (on_ends P Q).1 (on_ends P Q).2 z1 z2 hz;have osz:=a3w oP oQ z1 z2 hz;generalize cvx t x y=z at *
 have hzV:z ∉ V:=fun hm=>by
  obtain⟨w,hw,ew⟩:=List.getElem_of_mem hm;have e1:nth au V w=z:=by rw [bS _ _ _ hw];exact ew
  exact vP w z (a0t hV i1 hw (by rw [eP,e1];exact z1)) (a0t hV hw j1 (by rw [eQ,e1];exact z2)) (by rw [List.getElem?_eq_getElem hw,ew]) osz
 obtain⟨ea,eb⟩:=hpt z hzV oe ozQ;rw [← ea,← eb,eP,eQ] at hx;have:=hx.1;rw [show bT P Q x=0 from this] at h1;exact absurd h1 (Rat.lt_irrefl)
theorem turn_leq (a b:Gp):¬ jW b a<0↔leqZ a.x a.y b.x b.y:=by
 have hl:∀ d:Gp,kA d=if lowZ d.x d.y then 1 else 0:=fun d=>rfl
 have e:b.x*a.y - b.y*a.x = -(a.x*b.y - a.y*b.x):=by rw [Int.mul_comm b.x,Int.mul_comm b.y];omega
 unfold jW leqZ;rw [hl,hl,e];generalize a.x*b.y - a.y*b.x=z
 by_cases h1:lowZ a.x a.y <;> by_cases h2:lowZ b.x b.y
 ·simp only [h1,h2,if_true,not_true,false_and,false_or,true_and]
  unfold gQ
  split <;> (try split) <;> omega
 ·simp [h1,h2]
 ·simp [h1,h2]
 ·simp only [h1,h2,if_true,if_false,and_false,false_or,true_and]
  unfold gQ
  split <;> (try split) <;> omega
theorem outs_outl (es:List Ed) (v:Nat):∀ k,jX es v k=outl (fun e=>(nth ah es e).a) (fun e=>(nth ah es e).b) v k
 | 0=>rfl
 | k+1=>by
  show jX es v k++qj es v k=outl _ _ v k++_;rw [outs_outl es v k];rfl
section
variable {os:List Sz} {gs:List Gp} {V:List Pt} {es:List Ed} (hA:eu os gs V es) (cJ:∀ t ∈ os,t.a≠t.b)
 include hA cJ
theorem eu.plan:Plan (nth au V) (fun e=>(nth ah es e).a) (fun e=>(nth ah es e).b) es.length V.length:=by
 have hV:=hA.arr.sv;refine⟨fun u v kZ hv=>?_,fun e he=>?_,fun e f he hf h1 h2=>hA.aTa he hf h1 h2,fun e u he h1 h2 h0=>?_,fun e f x y he hf hx hy x1 x2 y1 y2=>hA.side cJ (cQ ah es e he) (cQ ah es f hf) hx hy x1 x2 y1 y2⟩
 ·rw [bS _ _ _ (by omega),bS _ _ _ hv]
  exact List.pairwise_iff_getElem.1 hV u v (by omega) hv kZ
 ·have:=hA.mw cJ (cQ ah es e he)
  exact⟨this.1,this.2.1⟩
 ·obtain⟨s,hs,hn,_⟩:=hA.dir _ (cQ ah es e he)
  obtain⟨kZ,P,Q,hP,hQ,oP,oQ,vP⟩:=hn;obtain⟨i1,i2⟩:=List.getElem?_eq_some_iff.1 hP;obtain⟨j1,j2⟩:=List.getElem?_eq_some_iff.1 hQ;have hu:u<V.length:=by omega
  have eP:nth au V (nth ah es e).a=P:=by rw [bS _ _ _ i1];exact i2
  have eQ:nth au V (nth ah es e).b=Q:=by rw [bS _ _ _ j1];exact j2
  have hU:V[u]? = some (nth au V u):=by rw [List.getElem?_eq_getElem hu,bS _ _ _ hu]
  rw [eP,eQ] at h0;exact vP u _ h1 h2 hU (a3w oP oQ (qA hV hP hU h1) (qA hV hU hQ h2) h0)
theorem eu.fan {RL:List (List Nat)} (hl:RL.length=V.length) (hR:∀ v,v<V.length→nU es v (nth [] RL v)):Fan (nth au V) (fun e=>(nth ah es e).a) (fun e=>(nth ah es e).b) es.length V.length (fun h=>(eh es h).x) (fun h=>(eh es h).y) (fun v=>nth [] RL v) (fun k=>nth 0 (jq es.length RL V.length) k):=by
 have hV:=hA.arr.sv;have bJ:∀ e ∈ es,e.a≠e.b:=fun e he=>by have:=(hA.mw cJ he).1;omega
 have bG:=zA.of bJ hl hR;refine⟨fun e he=>?_,fun e he=>?_,fun v hv=>?_,bG.nodup,fun v hv=>?_,fun v hv g hg k hk h1 h2=>?_,fun v hv j hj=>aJ0 bG _ (Nat.le_refl _) v hv j hj⟩
 ·have hp:=(hA.mw cJ (cQ ah es e he)).2.2.1.lex
  rw [a8H (by omega),aAj (by omega),show 2*e / 2=e by omega,show (2*e+1) / 2=e by omega];exact⟨hp,rfl,rfl⟩
 ·obtain⟨_,_,_,s,hs,hn,hd⟩:=hA.mw cJ (cQ ah es e he)
  obtain⟨kZ,P,Q,hP,hQ,oP,oQ,vP⟩:=hn;obtain⟨i1,i2⟩:=List.getElem?_eq_some_iff.1 hP;obtain⟨j1,j2⟩:=List.getElem?_eq_some_iff.1 hQ;have eP:nth au V (nth ah es e).a=P:=by rw [bS _ _ _ i1];exact i2
  have eQ:nth au V (nth ah es e).b=Q:=by rw [bS _ _ _ j1];exact j2
  obtain⟨t,ht,hx,hy⟩:=a2U (cJ s hs) oP oQ (qA hV hP hQ kZ);rw [a8H (by omega),show 2*e / 2=e by omega,hd,eP,eQ];exact⟨t,ht,hx,hy⟩
 ·have:=(hR v hv).perm
  unfold outs at this
  rwa [outs_outl] at this
 ·exact (hR v hv).sorted.imp fun {g h} hh=>(turn_leq _ _).1 hh
 ·exact aP4 hA cJ (((hR v hv).perm.mem_iff).1 hg) (((hR v hv).perm.mem_iff).1 hk) ((turn_leq _ _).2 h1) ((turn_leq _ _).2 h2)
theorem eu.euler {RL:List (List Nat)} {out:Nat→Nat} (hl:RL.length=V.length) (hR:∀ v,v<V.length→nU es v (nth [] RL v)) (ry:∀ v,v<V.length→nth [] RL v≠[]→out v ∈ nth [] RL v):(jR V es RL out).O.length+V.length=1+es.length+cntP (fun v=>nth 0 (nK (gT es) V.length) v=v) V.length:=by
 have hV:=hA.arr.sv;have bJ:∀ e ∈ es,e.a≠e.b:=fun e he=>by have:=(hA.mw cJ he).1;omega
 have bV:∀ e ∈ es,e.a<V.length∧e.b<V.length:=fun e he=>by have:=hA.mw cJ he;omega
 have bG:=zA.of bJ hl hR;have hx:=aKS (out:=out) hV bV bG ry;obtain⟨hp,ho⟩:=aT3 bG bV;have jP:=eu.plan hA cJ;have hfan:=eu.fan hA cJ hl hR;have hlen:(jq es.length RL V.length).length=2*es.length:=hx.len;have hpf:PermF (fun k=>nth 0 (jq es.length RL V.length) k) (2*es.length):=by rw [← hlen];exact hp.f
 have hrot:=hfan.uD jP hpf (fun x hx=>ho x hx);have gV:(gT es).length=es.length:=by unfold gT;simp
 have hends:∀ e,e<es.length→nth (0,0) (gT es) e=((nth ah es e).a,(nth ah es e).b):=fun e he=>by
  unfold gT;rw [bS _ _ _ (by simpa using he),bS _ _ _ he];simp
 have heu:=euler_rot (E:=gT es) (A:=fun e=>(nth (0,0) (gT es) e).1) (B:=fun e=>(nth (0,0) (gT es) e).2) (fun _=>rfl) (fun _=>rfl) (n:=V.length) (j:=es.length) (P:=fun k=>nth 0 (jq es.length RL V.length) k) (by omega) (fun e he=>by
  simp only [hends e he];have:=bV _ (cQ ah es e he);exact⟨this.1,this.2,bJ _ (cQ ah es e he)⟩) ?_
 ·have hc:=hx.count
  have e1:cntP (fun v=>(jR V es RL out).fh v=false) V.length=cntP (isoP (fun e=>(nth (0,0) (gT es) e).1) (fun e=>(nth (0,0) (gT es) e).2) es.length) V.length:=cntP_congr fun v hv=>by
   show decide (nth [] RL v≠[])=false↔_;rw [decide_eq_false_iff_not,Classical.not_not]
   have horg:∀ x,x<2*es.length→orgF (fun e=>(nth (0,0) (gT es) e).1) (fun e=>(nth (0,0) (gT es) e).2) x=iA es x:=fun x hx=>by
    unfold orgF iA;dsimp only;rw [hends _ (by omega)]
   constructor
   ·intro h x hx e
    have:=(bG.mem v x hv).2 ⟨hx,by rw [← horg x hx];exact e⟩;rw [h] at this;cases this
   ·intro h
    refine List.eq_nil_iff_forall_not_mem.2 fun x hxm=>?_
    obtain⟨h1,h2⟩:=(bG.mem v x hv).1 hxm;exact h x h1 (by rw [horg x h1];exact h2)
  have e2:cmpN (gT es) es.length V.length=cntP (fun v=>nth 0 (nK (gT es) V.length) v=v) V.length:=cntP_congr fun v hv=>by
   rw [aUb hv,gV]
  have e3:(jR V es RL out).N.length=2*es.length:=hlen;rw [e3] at hc;have e4:cntP (fun v=>nth 0 (jR V es RL out).root v=v) (jR V es RL out).n=cntP (fun v=>nth 0 (nK (gT es) V.length) v=v) V.length:=rfl;have e5:cntP (fun v=>(jR V es RL out).fh v=false) (jR V es RL out).n=cntP (fun v=>(jR V es RL out).fh v=false) V.length:=rfl;have e6:clsN (meet fun k=>nth 0 (jR V es RL out).N k) (2*es.length)=clsN (meet fun k=>nth 0 (jq es.length RL V.length) k) (2*es.length):=rfl;rw [e4,e5,e1,e6] at hc;rw [e2] at heu;omega
 ·
  have hAB:∀ e,e<es.length→(nth (0,0) (gT es) e).1=(nth ah es e).a∧(nth (0,0) (gT es) e).2=(nth ah es e).b:=fun e he=>by rw [hends e he];exact⟨rfl,rfl⟩
  have horg:∀ x,x<2*es.length→orgF (fun e=>(nth (0,0) (gT es) e).1) (fun e=>(nth (0,0) (gT es) e).2) x=orgF (fun e=>(nth ah es e).a) (fun e=>(nth ah es e).b) x:=fun x hx=>by
   unfold orgF;dsimp only;rw [(hAB _ (by omega)).1,(hAB _ (by omega)).2]
  refine⟨hrot.perm,fun x hx=>?_,fun x y hx hy e=>hrot.tr x y hx hy ?_,fun g hg=>hrot.par g fun v=>?_⟩
  ·rw [horg _ (hrot.perm.lt x hx),horg _ (a1Q hx)];exact hrot.fB x hx
  ·rw [← horg x hx,← horg y hy];exact e
  ·rw [← hg v]
   unfold degB;exact xsum_congr fun e he=>by simp only [(hAB e he).1,(hAB e he).2]
end
end Go.Hp
