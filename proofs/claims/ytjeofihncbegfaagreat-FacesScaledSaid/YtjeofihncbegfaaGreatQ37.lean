/- Of LW GE GF M1 M2. -/
import Derived.Test.YtjeofihncbegfaaGreatQ36
set_option maxRecDepth 100000
set_option maxHeartbeats 16000000
set_option linter.unusedVariables false
set_option linter.unusedSimpArgs false
namespace Go.Proofs
open Go Go.RowKit Go.Hp
def sqZ (x y s:Int):List Sz:=[⟨⟨x,y⟩,⟨x+s,y⟩⟩,⟨⟨x+s,y⟩,⟨x+s,y+s⟩⟩,⟨⟨x+s,y+s⟩,⟨x,y+s⟩⟩,⟨⟨x,y+s⟩,⟨x,y⟩⟩]
def lvS:List Sz:=sqZ 0 0 9++sqZ 3 3 2
def lvG:List Gp:=[⟨1,1⟩,⟨20,1⟩]
def lvV:List Pt:=[⟨0,0⟩,⟨0,9⟩,⟨1,1⟩,⟨3,3⟩,⟨3,5⟩,⟨5,3⟩,⟨5,5⟩,⟨9,0⟩,⟨9,9⟩,⟨20,1⟩]
def lvE:List Ed:=[⟨0,1,[3],⟨0,1⟩⟩,⟨0,7,[0],⟨1,0⟩⟩,⟨1,8,[2],⟨1,0⟩⟩,⟨3,4,[7],⟨0,1⟩⟩,⟨3,5,[4],⟨1,0⟩⟩,⟨4,6,[6],⟨1,0⟩⟩,⟨5,6,[5],⟨0,1⟩⟩,⟨7,8,[1],⟨0,1⟩⟩]
def lvR:List (List Nat):=[[2,0],[4,1],[],[8,6],[10,7],[12,9],[11,13],[14,3],[5,15],[]]
theorem lv_arr:ArrP lvS lvG lvV lvE:=arrB_ok (by decide +kernel)
def aroB (es:List Ed) (v:Nat) (l:List Nat):Bool:=l.isPerm (outs es v) && sortB (fun g h=>!decide (turnZ (crsZ es h) (crsZ es g)<0)) l
theorem aroB_ok {es:List Ed} {v:Nat} {l:List Nat} (h:aroB es v l=true):AroundL es v l:=by
 unfold aroB at h;rw [Bool.and_eq_true] at h;exact⟨List.isPerm_iff.1 h.1,sortB_iff _ (fun x y h=>by simpa using h) _ h.2⟩
theorem lv_aro (v:Nat) (hv:v<lvV.length):AroundL lvE v (nth [] lvR v):=by
 have h:(List.range lvV.length).all (fun v=>aroB lvE v (nth [] lvR v))=true:=by decide +kernel
 rw [List.all_eq_true] at h;exact aroB_ok (h v (List.mem_range.2 hv))
theorem lv_hos (t:Sz) (ht:t ∈ lvS):t.ok:=by
 have h:lvS.all (fun t=>decide ((-1073741824≤t.a.x∧t.a.x≤1073741824)∧(-1073741824≤t.a.y∧t.a.y≤1073741824)) && decide ((-1073741824≤t.b.x∧t.b.x≤1073741824)∧(-1073741824≤t.b.y∧t.b.y≤1073741824)) && decide (t.a≠t.b))=true:=by decide +kernel
 rw [List.all_eq_true] at h;have h1:=h t ht;simp only [Bool.and_eq_true,decide_eq_true_eq] at h1;exact⟨h1.1.1,h1.1.2,h1.2⟩
theorem lv_hgs (g:Gp) (hg:g ∈ lvG):g.ok:=by
 have h:lvG.all (fun g=>decide ((-1073741824≤g.x∧g.x≤1073741824)∧(-1073741824≤g.y∧g.y≤1073741824)))=true:=by decide +kernel
 rw [List.all_eq_true] at h;have h1:=h g hg;simp only [decide_eq_true_eq] at h1;exact h1
def lvX:FI:=faceIn lvV lvE lvR (fun v=>outL lvE (nth [] lvR v))
theorem lv_unique {V:List Pt} {es:List Ed} {RL:List (List Nat)} (h:ArrP lvS lvG V es) (hl:RL.length=V.length) (hR:∀ v,v<V.length→AroundL es v (nth [] RL v)):V=lvV∧es=lvE∧RL=lvR:=by
 have hos:∀ t ∈ lvS,t.a≠t.b:=fun t ht=>(lv_hos t ht).2.2
 obtain⟨rfl,rfl⟩:=h.unique hos lv_arr;refine⟨rfl,rfl,nth_ext [] (by rw [hl];rfl) (fun v hv=>?_)⟩;rw [hl] at hv;exact AroundL.unique lv_arr hos (hR v hv) (lv_aro v hv)
theorem lv_O:lvX.fr.O=[-1,1,7]:=by decide +kernel
theorem lv_L:lvX.fr.L=[0,1,1,0,0,1,1,2,2,1,1,2,2,1,1,0]:=by decide +kernel
theorem lv_I:lvX.fr.I.map List.length=[1,1,0]:=by
 have h:lvX.fr.I.map List.length=(lvX.ph3 lvX.n).I.map List.length:=by
  unfold FI.fr;rw [List.map_map];exact List.map_congr_left (fun l _=>srtN_len l)
 rw [h];decide +kernel
theorem lv_A:lvX.fr.A.map List.length=[1,1,0]:=by decide +kernel
theorem lv_nbs:nbs lvX.fr.L 1=[0,2]:=by
 rw [lv_L];refine sorted_ext (lt:=(· < ·)) (fun x=>Int.lt_irrefl x) (fun a b=>Int.lt_trans a b) (nbs_lt _ _) (by decide) (fun x=>?_);rw [mem_nbs]
 constructor
 ·rintro⟨k,hk,h1,h2,rfl⟩
  have h:(List.range 16).all (fun k=>!(decide (nth 0 [(0:Int),1,1,0,0,1,1,2,2,1,1,2,2,1,1,0] k=1)) || decide (nth 0 [(0:Int),1,1,0,0,1,1,2,2,1,1,2,2,1,1,0] (tw k)=1) || [(0:Int),2].contains (nth 0 [(0:Int),1,1,0,0,1,1,2,2,1,1,2,2,1,1,0] (tw k)))=true:=by decide +kernel
  rw [List.all_eq_true] at h;have h3:=h k (List.mem_range.2 hk);rw [Bool.or_eq_true,Bool.or_eq_true] at h3
  rcases h3 with (h3|h3)|h3
  ·rw [Bool.not_eq_true',decide_eq_false_iff_not] at h3;exact absurd h1 h3
  ·exact absurd (of_decide_eq_true h3) h2
  ·exact List.contains_iff_mem.1 h3
 ·intro h
  simp only [List.mem_cons,List.not_mem_nil,or_false] at h
  rcases h with rfl|rfl
  ·exact⟨1,by decide,by decide,by decide,by decide⟩
  ·exact⟨6,by decide,by decide,by decide,by decide⟩
end Go.Proofs
namespace Go.Hp
structure P3 where
 x:Int
 y:Int
 d:Int
theorem P3.ext' {p q:P3} (h1:p.x=q.x) (h2:p.y=q.y) (h3:p.d=q.d):p=q:=by cases p;cases q;simp_all
def P3.pt (p:P3):Pt:=⟨(p.x:Rat) / (p.d:Rat),(p.y:Rat) / (p.d:Rat)⟩
def g3 (x y d:Int):Nat:=Nat.gcd (Nat.gcd x.natAbs y.natAbs) d.natAbs
def P3.ok (p:P3):Prop:=0<p.d∧g3 p.x p.y p.d=1
theorem rdiv_eq {a b c d:Int} (hb:0<b) (hd:0<d):(a:Rat) / (b:Rat)=(c:Rat) / (d:Rat)↔a*d=c*b:=by
 have hb':(b:Rat)≠0:=by exact_mod_cast (by omega:b≠0)
 have hd':(d:Rat)≠0:=by exact_mod_cast (by omega:d≠0)
 constructor
 ·intro h
  have:(a:Rat)*d=c*b:=by
   have h1:(a:Rat)=c / d*b:=by rw [← h];grind
   rw [h1];grind
  exact_mod_cast this
 ·intro h
  have:(a:Rat)*d=c*b:=by exact_mod_cast h
  grind
theorem rdiv_lt {a b c d:Int} (hb:0<b) (hd:0<d):(a:Rat) / (b:Rat)<(c:Rat) / (d:Rat)↔a*d<c*b:=by
 have hb':(0:Rat)<(b:Rat):=by exact_mod_cast hb
 have hd':(0:Rat)<(d:Rat):=by exact_mod_cast hd
 have hbd:(0:Rat)<(b:Rat)*d:=Rat.mul_pos hb' hd';have e1:(a:Rat) / b*(b*d)=a*d:=by grind
 have e2:(c:Rat) / d*(b*d)=c*b:=by grind
 constructor
 ·intro h
  have:(a:Rat)*d<c*b:=by
   rw [← e1,← e2];exact (Rat.mul_lt_mul_right hbd).2 h
  exact_mod_cast this
 ·intro h
  have:(a:Rat)*d<c*b:=by exact_mod_cast h
  rw [← e1,← e2] at this;exact (Rat.mul_lt_mul_right hbd).1 this
theorem nat_cop {x y d x' y' d':Nat} (h:Nat.gcd (Nat.gcd x y) d=1) (hx:x*d'=x'*d) (hy:y*d'=y'*d):d ∣ d':=by
 have h1:d ∣ Nat.gcd x y*d':=by
  rw [← Nat.gcd_mul_right,hx,hy,Nat.gcd_mul_right];exact⟨_,Nat.mul_comm _ _⟩
 exact Nat.Coprime.dvd_of_dvd_mul_left (show Nat.Coprime d (Nat.gcd x y) by rw [Nat.coprime_comm];exact h) h1
theorem P3.inj {p q:P3} (hp:p.ok) (hq:q.ok) (h:p.pt=q.pt):p=q:=by
 obtain⟨hp0,hp1⟩:=hp;obtain⟨hq0,hq1⟩:=hq;have hx:p.x*q.d=q.x*p.d:=(rdiv_eq hp0 hq0).1 (congrArg Pt.x h);have hy:p.y*q.d=q.y*p.d:=(rdiv_eq hp0 hq0).1 (congrArg Pt.y h);have nx:p.x.natAbs*q.d.natAbs=q.x.natAbs*p.d.natAbs:=by rw [← Int.natAbs_mul,← Int.natAbs_mul,hx]
 have ny:p.y.natAbs*q.d.natAbs=q.y.natAbs*p.d.natAbs:=by rw [← Int.natAbs_mul,← Int.natAbs_mul,hy]
 have d1:=nat_cop hp1 nx ny;have d2:=nat_cop hq1 nx.symm ny.symm;have hd:p.d.natAbs=q.d.natAbs:=Nat.dvd_antisymm d1 d2;have hd':p.d=q.d:=by omega
 have hne:q.d≠0:=by omega
 refine P3.ext' ?_ ?_ hd'
 ·rw [hd'] at hx;exact Int.eq_of_mul_eq_mul_right hne hx
 ·rw [hd'] at hy;exact Int.eq_of_mul_eq_mul_right hne hy
def P3.make (x y d:Int):P3 :=
 let s:Int:=if d<0 then -1 else 1
 ⟨s*x / (g3 x y d:Nat),s*y / (g3 x y d:Nat),s*d / (g3 x y d:Nat)⟩
theorem P3.make_ok {x y d:Int} (hd:d≠0):(P3.make x y d).ok∧(P3.make x y d).pt=⟨(x:Rat) / d,(y:Rat) / d⟩:=by
 have key:∀ x y d:Int,0<d→(P3.mk (x / (g3 x y d:Nat)) (y / (g3 x y d:Nat)) (d / (g3 x y d:Nat))).ok∧(P3.mk (x / (g3 x y d:Nat)) (y / (g3 x y d:Nat)) (d / (g3 x y d:Nat))).pt=⟨(x:Rat) / d,(y:Rat) / d⟩:=by
  intro x y d hd;obtain⟨g,hg⟩:∃ g,g=g3 x y d:=⟨_,rfl⟩;have hgd:g ∣ d.natAbs:=by rw [hg];exact Nat.gcd_dvd_right _ _
  have hgx:g ∣ x.natAbs:=by rw [hg];exact Nat.dvd_trans (Nat.gcd_dvd_left _ _) (Nat.gcd_dvd_left _ _)
  have hgy:g ∣ y.natAbs:=by rw [hg];exact Nat.dvd_trans (Nat.gcd_dvd_left _ _) (Nat.gcd_dvd_right _ _)
  have hg0:0<g:=Nat.pos_of_dvd_of_pos hgd (by omega);obtain⟨u,hu⟩:(g:Int) ∣ x:=Int.ofNat_dvd_left.2 hgx;obtain⟨v,hv⟩:(g:Int) ∣ y:=Int.ofNat_dvd_left.2 hgy;obtain⟨e,he⟩:(g:Int) ∣ d:=Int.ofNat_dvd_left.2 hgd;have hg0':(g:Int)≠0:=by omega
  rw [← hg,hu,hv,he,Int.mul_ediv_cancel_left _ hg0',Int.mul_ediv_cancel_left _ hg0',Int.mul_ediv_cancel_left _ hg0']
  have he0:0<e:=by
   rcases Int.lt_trichotomy e 0 with h|h|h
   ·have:=Int.mul_neg_of_pos_of_neg (show (0:Int)<g by omega) h;omega
   ·subst h;simp at he;omega
   ·exact h
  refine⟨⟨he0,?_⟩,?_⟩
  ·have h1:g3 x y d=g*g3 u v e:=by
    unfold g3;rw [hu,hv,he,Int.natAbs_mul,Int.natAbs_mul,Int.natAbs_mul,Int.natAbs_natCast,Nat.gcd_mul_left,Nat.gcd_mul_left]
   rw [← hg] at h1;show g3 u v e=1;have h2:g*1=g*g3 u v e:=by omega
   exact (Nat.eq_of_mul_eq_mul_left hg0 h2).symm
  ·have hgr:((g:Int):Rat)≠0:=by exact_mod_cast hg0'
   have her:((e:Int):Rat)≠0:=by exact_mod_cast (by omega:e≠0)
   apply Pt.ext'
   ·show (u:Rat) / e=((g*u:Int):Rat) / ((g*e:Int):Rat)
    rw [Rat.intCast_mul,Rat.intCast_mul];grind
   ·show (v:Rat) / e=((g*v:Int):Rat) / ((g*e:Int):Rat)
    rw [Rat.intCast_mul,Rat.intCast_mul];grind
 unfold P3.make
 by_cases h:d<0
 ·have h3:g3 (-x) (-y) (-d)=g3 x y d:=by unfold g3;simp
  have:=key (-x) (-y) (-d) (by omega);rw [h3] at this;simp only [if_pos h,Int.neg_one_mul];refine⟨this.1,this.2.trans ?_⟩;have hdr:((d:Int):Rat)≠0:=by exact_mod_cast hd
  apply Pt.ext'
  ·show ((-x:Int):Rat) / ((-d:Int):Rat)=(x:Rat) / d
   rw [Rat.intCast_neg,Rat.intCast_neg];grind
  ·show ((-y:Int):Rat) / ((-d:Int):Rat)=(y:Rat) / d
   rw [Rat.intCast_neg,Rat.intCast_neg];grind
 ·have:=key x y d (by omega)
  simp only [if_neg h,Int.one_mul];exact this
def P3.of (x y:Int):P3:=⟨x,y,1⟩
theorem P3.of_ok (x y:Int):(P3.of x y).ok:=⟨(by decide:(0:Int)<1),by simp [P3.of,g3]⟩
theorem P3.of_pt (x y:Int):(P3.of x y).pt=⟨(x:Rat),(y:Rat)⟩:=by
 apply Pt.ext' <;> simp [P3.of,P3.pt] <;> grind
end Go.Hp
namespace Go.Hp
theorem castPos {d:Int} (h:0<d):(0:Rat)<(d:Rat):=by exact_mod_cast h
theorem castNe {d:Int} (h:d≠0):(d:Rat)≠0:=by exact_mod_cast h
def P3.low (a b:P3):Prop:=a.x*b.d - b.x*a.d<0∨(a.x*b.d - b.x*a.d=0∧a.y*b.d - b.y*a.d<0)
theorem P3.lt_iff {a b:P3} (ha:a.ok) (hb:b.ok):a.pt.lt b.pt↔a.low b:=by
 unfold Pt.lt P3.pt P3.low;simp only;rw [rdiv_lt ha.1 hb.1,rdiv_lt ha.1 hb.1,rdiv_eq ha.1 hb.1];omega
def sideI (a b c:P3):Int:=(b.x*a.d - a.x*b.d)*(c.y*a.d - a.y*c.d) - (b.y*a.d - a.y*b.d)*(c.x*a.d - a.x*c.d)
theorem sideI_area {a b c:P3} (ha:0<a.d) (hb:0<b.d) (hc:0<c.d):area a.pt b.pt c.pt*((a.d:Rat)*b.d*(a.d*c.d))=(sideI a b c:Rat):=by
 have h1:=castNe (show a.d≠0 by omega);have h2:=castNe (show b.d≠0 by omega);have h3:=castNe (show c.d≠0 by omega);unfold area sideI P3.pt;simp only [Rat.intCast_sub,Rat.intCast_mul]
 grind
theorem sideI_pos {a b c:P3} (ha:0<a.d) (hb:0<b.d) (hc:0<c.d):(0<sideI a b c↔0<area a.pt b.pt c.pt)∧(sideI a b c=0↔area a.pt b.pt c.pt=0):=by
 have e:=sideI_area ha hb hc;obtain⟨m,hm⟩:∃ m,m=((a.d:Rat)*b.d*(a.d*c.d)):=⟨_,rfl⟩;have hm0:0<m:=by rw [hm];exact Rat.mul_pos (Rat.mul_pos (castPos ha) (castPos hb)) (Rat.mul_pos (castPos ha) (castPos hc))
 rw [← hm] at e;obtain⟨q,hq⟩:∃ q,q=area a.pt b.pt c.pt:=⟨_,rfl⟩;rw [← hq] at e ⊢;obtain⟨z,hz⟩:∃ z,z=sideI a b c:=⟨_,rfl⟩;rw [← hz] at e ⊢
 constructor
 ·constructor
  ·intro h
   have:(0:Rat)<(z:Rat):=castPos h;rw [← e,Rat.mul_comm] at this;exact rpos_of hm0 this
  ·intro h
   have:(0:Rat)<(z:Rat):=by rw [← e];exact Rat.mul_pos h hm0
   exact_mod_cast this
 ·constructor
  ·intro h
   have:(z:Rat)=0:=by rw [h];rfl
   rw [← e] at this
   grind
  ·intro h
   have:(z:Rat)=0:=by rw [← e,h];grind
   exact_mod_cast this
def sgI (ax ay bx by':Int):Sg:=⟨⟨(ax:Rat),(ay:Rat)⟩,⟨(bx:Rat),(by':Rat)⟩⟩
def inI (ax ay bx by':Int) (p:P3):Prop:=min ax bx*p.d≤p.x∧p.x≤max ax bx*p.d∧min ay by'*p.d≤p.y∧p.y≤max ay by'*p.d
theorem rle_div {m x d:Int} (hd:0<d):(m:Rat)≤(x:Rat) / (d:Rat)↔m*d≤x:=by
 have h:=@rdiv_lt x d m 1 hd (by decide);have e:(m:Rat) / ((1:Int):Rat)=m:=by simp;grind
 rw [e] at h
 constructor
 ·intro h1
  by_cases h2:x<m*d
  ·exfalso
   have:=h.2 (by omega)
   grind
  ·omega
 ·intro h1
  rcases rtot (m:Rat) ((x:Rat) / d) with h2|h2
  ·exact h2
  ·apply Classical.byContradiction
   intro h3;have:(x:Rat) / d<m:=by grind
   have:=h.1 this;omega
theorem rdiv_le {m x d:Int} (hd:0<d):(x:Rat) / (d:Rat)≤(m:Rat)↔x≤m*d:=by
 have h:=@rdiv_lt m 1 x d (by decide) hd;have e:(m:Rat) / ((1:Int):Rat)=m:=by simp;grind
 rw [e] at h
 constructor
 ·intro h1
  by_cases h2:m*d<x
  ·exfalso
   have:=h.2 (by omega)
   grind
  ·omega
 ·intro h1
  rcases rtot ((x:Rat) / d) (m:Rat) with h2|h2
  ·exact h2
  ·apply Classical.byContradiction
   intro h3;have:(m:Rat)<(x:Rat) / d:=by grind
   have:=h.1 this;omega
theorem castMin' (a b:Int):min (a:Rat) (b:Rat)=((min a b:Int):Rat):=by
 have h1:(a:Rat)≤b↔a≤b:=by constructor <;> intro h <;> exact_mod_cast h
 rcases Int.le_total a b with h|h
 ·rw [Int.min_eq_left h];have:=h1.2 h;grind
 ·rw [Int.min_eq_right h]
  have h2:(b:Rat)≤a:=by exact_mod_cast h
  grind
theorem castMax' (a b:Int):max (a:Rat) (b:Rat)=((max a b:Int):Rat):=by
 rcases Int.le_total a b with h|h
 ·rw [Int.max_eq_right h]
  have h2:(a:Rat)≤b:=by exact_mod_cast h
  grind
 ·rw [Int.max_eq_left h]
  have h2:(b:Rat)≤a:=by exact_mod_cast h
  grind
theorem onI_iff {ax ay bx by':Int} {p:P3} (hp:0<p.d):onS (sgI ax ay bx by') p.pt↔sideI (P3.of ax ay) (P3.of bx by') p=0∧inI ax ay bx by' p:=by
 unfold onS;have e1:(sgI ax ay bx by').a=(P3.of ax ay).pt:=(P3.of_pt ax ay).symm;have e2:(sgI ax ay bx by').b=(P3.of bx by').pt:=(P3.of_pt bx by').symm;rw [e1,e2,← (sideI_pos (P3.of_ok ax ay).1 (P3.of_ok bx by').1 hp).2];refine and_congr_right fun _=>?_
 unfold inBox inI;show min (ax:Rat) (bx:Rat)≤(p.x:Rat) / p.d∧(p.x:Rat) / p.d≤max (ax:Rat) (bx:Rat)∧min (ay:Rat) (by':Rat)≤(p.y:Rat) / p.d∧(p.y:Rat) / p.d≤max (ay:Rat) (by':Rat)↔_;rw [castMin',castMin',castMax',castMax',rle_div hp,rle_div hp,rdiv_le hp,rdiv_le hp]
theorem crossing_make {ax ay bx by' cx cy ex ey d n:Int} (hd:d=(bx - ax)*(ey - cy) - (by' - ay)*(ex - cx)) (hn:n=(cx - ax)*(ey - cy) - (cy - ay)*(ex - cx)) (h0:d≠0) :
 (P3.make (ax*d+(bx - ax)*n) (ay*d+(by' - ay)*n) d).pt=crossing (sgI ax ay bx by') (sgI cx cy ex ey)∧det (sgI ax ay bx by') (sgI cx cy ex ey)=(d:Rat):=by
 have hdt:det (sgI ax ay bx by') (sgI cx cy ex ey)=(d:Rat):=by
  rw [hd];unfold det sgI;simp only [Rat.intCast_sub,Rat.intCast_mul]
 refine⟨(P3.make_ok h0).2.trans ?_,hdt⟩;have hdr:=castNe h0;unfold crossing;rw [area_det,hdt]
 have hna:area (sgI cx cy ex ey).a (sgI cx cy ex ey).b (sgI ax ay bx by').a=(n:Rat):=by
  rw [hn];unfold area sgI;simp only [Rat.intCast_sub,Rat.intCast_mul];grind
 rw [hna];apply Pt.ext'
 ·show ((ax*d+(bx - ax)*n:Int):Rat) / d=(ax:Rat)+(n:Rat) / d*((bx:Rat) - ax)
  simp only [Rat.intCast_sub,Rat.intCast_mul,Rat.intCast_add];grind
 ·show ((ay*d+(by' - ay)*n:Int):Rat) / d=(ay:Rat)+(n:Rat) / d*((by':Rat) - ay)
  simp only [Rat.intCast_sub,Rat.intCast_mul,Rat.intCast_add];grind
theorem det_zero {ax ay bx by' cx cy ex ey d:Int} (hd:d=(bx - ax)*(ey - cy) - (by' - ay)*(ex - cx)):det (sgI ax ay bx by') (sgI cx cy ex ey)=0↔d=0:=by
 have hdt:det (sgI ax ay bx by') (sgI cx cy ex ey)=(d:Rat):=by
  rw [hd];unfold det sgI;simp only [Rat.intCast_sub,Rat.intCast_mul]
 rw [hdt]
 constructor
 ·intro h;exact_mod_cast h
 ·intro h;rw [h];rfl
end Go.Hp
namespace Go.Hp
open Go.Proofs.Tryz
open Go Go.RowKit
def P3.bd (p:P3):Prop:=p.x.natAbs<1073741824∧p.y.natAbs<1073741824∧p.d.natAbs<1073741824
theorem mul_bd {a b:Int} (ha:a.natAbs<1073741824) (hb:b.natAbs<1073741824):(a*b).natAbs<1152921504606846976:=by
 rw [Int.natAbs_mul];have h1:a.natAbs*b.natAbs≤1073741824*b.natAbs:=Nat.mul_le_mul_right _ (by omega);have h2:1073741824*b.natAbs<1073741824*1073741824:=by omega
 omega
theorem wrapMul {a b:Int} (ha:a.natAbs<1073741824) (hb:b.natAbs<1073741824):IntKind.i64.wrap (a*b)=a*b:=by
 have:=mul_bd ha hb;exact w6
theorem g3_eq (x y d:Int):Int.gcd (Int.gcd x y:Nat) d=g3 x y d:=by unfold g3 Int.gcd;simp
theorem tdiv_dvd {a:Int} {g:Nat} (h:(g:Int) ∣ a):a.tdiv (g:Int)=a / (g:Int):=by
 obtain⟨k,rfl⟩:=h
 by_cases hg:(g:Int)=0
 ·rw [hg];simp
 ·rw [Int.mul_tdiv_cancel_left _ hg,Int.mul_ediv_cancel_left _ hg]
theorem g3_dvd (x y d:Int):((g3 x y d:Nat):Int) ∣ x∧((g3 x y d:Nat):Int) ∣ y∧((g3 x y d:Nat):Int) ∣ d:=by
 unfold g3;refine⟨Int.ofNat_dvd_left.2 (Nat.dvd_trans (Nat.gcd_dvd_left _ _) (Nat.gcd_dvd_left _ _)),Int.ofNat_dvd_left.2 (Nat.dvd_trans (Nat.gcd_dvd_left _ _) (Nat.gcd_dvd_right _ _)),Int.ofNat_dvd_left.2 (Nat.gcd_dvd_right _ _)⟩
theorem gcd_bd {x y:Int} {B:Nat} (hx:x.natAbs<B) (hy:y.natAbs<B):Int.gcd x y<B:=by
 unfold Int.gcd
 by_cases h:x.natAbs=0
 ·rw [h,Nat.gcd_zero_left];exact hy
 ·exact Nat.lt_of_le_of_lt (Nat.gcd_le_left _ (by omega)) hx
end Go.Hp
namespace Go.Proofs
open Go.Proofs.Tryz
open Go.RowKit Go.Hp
theorem mcommon_any (a b:Int) (w:World) (ha:a.natAbs<1099511627776) (hb:b.natAbs<1099511627776) :
 Calls Tryz.prog 223 #[.int .i64 a,.int .i64 b] w fun e w'=>e=.returned (.int .i64 (Int.gcd a b:Nat))∧w'=w:=by
 obtain⟨G,hG⟩:∃ G,Int.gcd a b=G:=⟨_,rfl⟩;rw [hG];have hw1:IntKind.i64.wrap (-a) = -a:=w6;have hw2:IntKind.i64.wrap (-b) = -b:=w6
 by_cases h1:a<0
 ·have d1:decide (a<0)=true:=by simpa using h1
  replace h1:a<0:=h1
  by_cases h2:b<0
  ·have d2:decide (b<0)=true:=by simpa using h2
   have hg:=Hd (show Int.gcd (-a) (-b)=G by rw [← hG];simp);clear hG
   go_enter func223,ntmps223
   go_wp2
   go_loopw [0,1] (fun va vb wr=>∃ x y:Int,va=.int .i64 x∧vb=.int .i64 y∧wr=w∧0≤x∧0≤y∧x<1099511627776∧y<1099511627776∧Int.gcd x y=G) (fun va vb _=>(intOf vb).natAbs)
   case atStart=>exact⟨-a,-b,rfl,rfl,rfl,by omega,by omega,by omega,by omega,hg.out⟩
   case round =>
    obtain⟨x,y,rfl,rfl,rfl,hx0,hy0,hx,hy,hg2⟩:=hrel
    by_cases h0:y=0
    ·subst h0
     have hg3:(G:Int)=x:=by rw [← hg2,Int.gcd_zero];omega
     replace hg3:=Hd hg3;clear hg2;go_wp2;go_ret;exact⟨by rw [hg3.out];rfl,rfl⟩
    ·have hyt:decide (0<y)=true:=by simp;omega
     have hyf:(y == 0)=false:=by simp [h0]
     have hm:=Int.tmod_eq_emod_of_nonneg (b:=y) hx0;have hg3:=gcd_tmod x y;have hb3:=@tmod_bd x y h0;have hn3:0≤Int.tmod x y:=Int.tmod_nonneg _ hx0;rw [hm] at hg3 hb3 hn3;have hw:IntKind.i64.wrap (x % y)=x % y:=w6;have hb4:(x % y)<1099511627776:=by omega
     replace hg2:=Hd hg2;replace hg3:=Hd hg3;replace hb3:=Hd hb3;replace hb4:=Hd hb4;replace hn3:=Hd hn3;go_wp2;go_roundw
     case rel=>exact⟨y,x % y,rfl,rfl,trivial,hy0,hn3.out,hy,hb4.out,hg3.out.trans hg2.out⟩
     case measure=>exact hb3.out
  ·have d2:decide (b<0)=false:=by simpa using h2
   have hg:=Hd (show Int.gcd (-a) b=G by rw [← hG];simp);clear hG
   go_enter func223,ntmps223
   go_wp2
   go_loopw [0,1] (fun va vb wr=>∃ x y:Int,va=.int .i64 x∧vb=.int .i64 y∧wr=w∧0≤x∧0≤y∧x<1099511627776∧y<1099511627776∧Int.gcd x y=G) (fun va vb _=>(intOf vb).natAbs)
   case atStart=>exact⟨-a,b,rfl,rfl,rfl,by omega,by omega,by omega,by omega,hg.out⟩
   case round =>
    obtain⟨x,y,rfl,rfl,rfl,hx0,hy0,hx,hy,hg2⟩:=hrel
    by_cases h0:y=0
    ·subst h0
     have hg3:(G:Int)=x:=by rw [← hg2,Int.gcd_zero];omega
     replace hg3:=Hd hg3;clear hg2;go_wp2;go_ret;exact⟨by rw [hg3.out];rfl,rfl⟩
    ·have hyt:decide (0<y)=true:=by simp;omega
     have hyf:(y == 0)=false:=by simp [h0]
     have hm:=Int.tmod_eq_emod_of_nonneg (b:=y) hx0;have hg3:=gcd_tmod x y;have hb3:=@tmod_bd x y h0;have hn3:0≤Int.tmod x y:=Int.tmod_nonneg _ hx0;rw [hm] at hg3 hb3 hn3;have hw:IntKind.i64.wrap (x % y)=x % y:=w6;have hb4:(x % y)<1099511627776:=by omega
     replace hg2:=Hd hg2;replace hg3:=Hd hg3;replace hb3:=Hd hb3;replace hb4:=Hd hb4;replace hn3:=Hd hn3;go_wp2;go_roundw
     case rel=>exact⟨y,x % y,rfl,rfl,trivial,hy0,hn3.out,hy,hb4.out,hg3.out.trans hg2.out⟩
     case measure=>exact hb3.out
 ·have d1:decide (a<0)=false:=by simpa using h1
  by_cases h2:b<0
  ·have d2:decide (b<0)=true:=by simpa using h2
   have hg:=Hd (show Int.gcd a (-b)=G by rw [← hG];simp);clear hG
   go_enter func223,ntmps223
   go_wp2
   go_loopw [0,1] (fun va vb wr=>∃ x y:Int,va=.int .i64 x∧vb=.int .i64 y∧wr=w∧0≤x∧0≤y∧x<1099511627776∧y<1099511627776∧Int.gcd x y=G) (fun va vb _=>(intOf vb).natAbs)
   case atStart=>exact⟨a,-b,rfl,rfl,rfl,by omega,by omega,by omega,by omega,hg.out⟩
   case round =>
    obtain⟨x,y,rfl,rfl,rfl,hx0,hy0,hx,hy,hg2⟩:=hrel
    by_cases h0:y=0
    ·subst h0
     have hg3:(G:Int)=x:=by rw [← hg2,Int.gcd_zero];omega
     replace hg3:=Hd hg3;clear hg2;go_wp2;go_ret;exact⟨by rw [hg3.out];rfl,rfl⟩
    ·have hyt:decide (0<y)=true:=by simp;omega
     have hyf:(y == 0)=false:=by simp [h0]
     have hm:=Int.tmod_eq_emod_of_nonneg (b:=y) hx0;have hg3:=gcd_tmod x y;have hb3:=@tmod_bd x y h0;have hn3:0≤Int.tmod x y:=Int.tmod_nonneg _ hx0;rw [hm] at hg3 hb3 hn3;have hw:IntKind.i64.wrap (x % y)=x % y:=w6;have hb4:(x % y)<1099511627776:=by omega
     replace hg2:=Hd hg2;replace hg3:=Hd hg3;replace hb3:=Hd hb3;replace hb4:=Hd hb4;replace hn3:=Hd hn3;go_wp2;go_roundw
     case rel=>exact⟨y,x % y,rfl,rfl,trivial,hy0,hn3.out,hy,hb4.out,hg3.out.trans hg2.out⟩
     case measure=>exact hb3.out
  ·have d2:decide (b<0)=false:=by simpa using h2
   have hg:=Hd hG;clear hG
   go_enter func223,ntmps223
   go_wp2
   go_loopw [0,1] (fun va vb wr=>∃ x y:Int,va=.int .i64 x∧vb=.int .i64 y∧wr=w∧0≤x∧0≤y∧x<1099511627776∧y<1099511627776∧Int.gcd x y=G) (fun va vb _=>(intOf vb).natAbs)
   case atStart=>exact⟨a,b,rfl,rfl,rfl,by omega,by omega,by omega,by omega,hg.out⟩
   case round =>
    obtain⟨x,y,rfl,rfl,rfl,hx0,hy0,hx,hy,hg2⟩:=hrel
    by_cases h0:y=0
    ·subst h0
     have hg3:(G:Int)=x:=by rw [← hg2,Int.gcd_zero];omega
     replace hg3:=Hd hg3;clear hg2;go_wp2;go_ret;exact⟨by rw [hg3.out];rfl,rfl⟩
    ·have hyt:decide (0<y)=true:=by simp;omega
     have hyf:(y == 0)=false:=by simp [h0]
     have hm:=Int.tmod_eq_emod_of_nonneg (b:=y) hx0;have hg3:=gcd_tmod x y;have hb3:=@tmod_bd x y h0;have hn3:0≤Int.tmod x y:=Int.tmod_nonneg _ hx0;rw [hm] at hg3 hb3 hn3;have hw:IntKind.i64.wrap (x % y)=x % y:=w6;have hb4:(x % y)<1099511627776:=by omega
     replace hg2:=Hd hg2;replace hg3:=Hd hg3;replace hb3:=Hd hb3;replace hb4:=Hd hb4;replace hn3:=Hd hn3;go_wp2;go_roundw
     case rel=>exact⟨y,x % y,rfl,rfl,trivial,hy0,hn3.out,hy,hb4.out,hg3.out.trans hg2.out⟩
     case measure=>exact hb3.out
theorem make05_any (x y d:Int) (w:World) (hx:x.natAbs<1099511627776) (hy:y.natAbs<1099511627776) (hd:d.natAbs<1099511627776) (h0:d≠0) :
 Calls Tryz.prog 157 #[.int .i64 x,.int .i64 y,.int .i64 d] w fun e w'=>e=.returned (.agg #[.int .i64 (P3.make x y d).x,.int .i64 (P3.make x y d).y,.int .i64 (P3.make x y d).d])∧Pure w (fun _=>False) w' (fun _=>False):=by
 obtain⟨M,hM⟩:∃ M,P3.make x y d=M:=⟨_,rfl⟩;rw [hM];unfold P3.make at hM;simp only at hM;have w1:IntKind.i64.wrap (-x) = -x:=w6;have w2:IntKind.i64.wrap (-y) = -y:=w6;have w3:IntKind.i64.wrap (-d) = -d:=w6;obtain⟨v1,v2,v3⟩:=g3_dvd x y d;have ge:=g3_eq x y d;have kb:=gcd_bd hx hy;have t1:=natAbs_tdiv_le x (g3 x y d);have t2:=natAbs_tdiv_le y (g3 x y d);have t3:=natAbs_tdiv_le d (g3 x y d);have u1:=tdiv_dvd v1;have u2:=tdiv_dvd v2;have u3:=tdiv_dvd v3;have hg0:((g3 x y d:Nat):Int)≠0:=fun h=>h0 (by rw [h] at v3;exact Int.zero_dvd.1 v3)
 have n1:(-1*x) / ((g3 x y d:Nat):Int) = -(x.tdiv (g3 x y d:Nat)):=by rw [u1,Int.neg_one_mul];exact Int.neg_ediv_of_dvd v1
 have n2:(-1*y) / ((g3 x y d:Nat):Int) = -(y.tdiv (g3 x y d:Nat)):=by rw [u2,Int.neg_one_mul];exact Int.neg_ediv_of_dvd v2
 have n3:(-1*d) / ((g3 x y d:Nat):Int) = -(d.tdiv (g3 x y d:Nat)):=by rw [u3,Int.neg_one_mul];exact Int.neg_ediv_of_dvd v3
 have gn:Int.gcd (Int.gcd x y:Nat) (-d)=g3 x y d:=by rw [← ge];simp
 have kn:Int.gcd (-x) (-y)=Int.gcd x y:=by simp
 obtain⟨K,hK⟩:∃ K:Nat,Int.gcd x y=K:=⟨_,rfl⟩;obtain⟨G,hG⟩:∃ G:Int,((g3 x y d:Nat):Int)=G:=⟨_,rfl⟩;rw [hK] at kb kn ge gn;rw [hG] at u1 u2 u3 n1 n2 n3 hg0 t1 t2 t3 hM;have gn2:((Int.gcd (K:Int) (-d):Nat):Int)=G:=by rw [gn,hG]
 have ge2:((Int.gcd (K:Int) d:Nat):Int)=G:=by rw [ge,hG]
 have q1:IntKind.i64.wrap (x.tdiv G)=x.tdiv G:=w6;have q2:IntKind.i64.wrap (y.tdiv G)=y.tdiv G:=w6;have q3:IntKind.i64.wrap (d.tdiv G)=d.tdiv G:=w6;have q4:IntKind.i64.wrap (-(x.tdiv G)) = -(x.tdiv G):=w6;have q5:IntKind.i64.wrap (-(y.tdiv G)) = -(y.tdiv G):=w6;have q6:IntKind.i64.wrap (-(d.tdiv G)) = -(d.tdiv G):=w6;have hG0:(G == 0)=false:=by simpa using hg0
 clear v1 v2 v3 ge gn hG h0 t1 t2 t3;have hS:=Heap.start w
 by_cases hneg:d<0
 ·have d1:decide (d<0)=true:=by simpa using hneg
  simp only [if_pos hneg] at hM;rw [n1,n2,n3] at hM;clear n1 n2 n3 u1 u2 u3 hneg;replace hM:=Hd hM;replace kn:=Hd kn;replace hK:=Hd hK;replace gn2:=Hd gn2;replace ge2:=Hd ge2
  go_enter func157,ntmps157
  go_wp2_with (with_reducible refine alA hS zeroValue152 fun br wbr hS=>?_)
  refine (mcommon_any (-x) (-y) _ (by omega) (by omega)).mono ?_;rintro e w' ⟨rfl,rfl⟩;rw [kn.out];simp only []
  go_wp2_with (fail)
  refine (mcommon_any (K:Int) (-d) _ (by omega) (by omega)).mono ?_;rintro e w' ⟨rfl,rfl⟩;rw [gn2.out];simp only [];go_wp2;refine rg0 [.p 0,.p 1,.p 2,.p 3,.p 4,.p 5,.p 6,.p 7,.p 8,.p 9,.m 10] [10] hS fun w1 hS=>?_
  refine mvs ?_;refine muL ?_
  (with_reducible refine stA 1 hS sizeOf152 fun _ hS=>?_)
  refine mut_end ?_;refine snL ?_;go_wp2;exact ret_c 1 hS rfl rfl rfl isAgg152 sizeOf152 rfl rfl ⟨by first|(rw [← hM.out];done)|(rw [← hM.out];rfl),hS.pure _⟩
 ·have d1:decide (d<0)=false:=by simpa using hneg
  simp only [if_neg hneg,Int.one_mul] at hM;rw [← u1,← u2,← u3] at hM;clear n1 n2 n3 u1 u2 u3 hneg;replace hM:=Hd hM;replace kn:=Hd kn;replace hK:=Hd hK;replace gn2:=Hd gn2;replace ge2:=Hd ge2
  go_enter func157,ntmps157
  go_wp2_with (with_reducible refine alA hS zeroValue152 fun br wbr hS=>?_)
  refine (mcommon_any (x) (y) _ (by omega) (by omega)).mono ?_;rintro e w' ⟨rfl,rfl⟩;rw [hK.out];simp only []
  go_wp2_with (fail)
  refine (mcommon_any (K:Int) (d) _ (by omega) (by omega)).mono ?_;rintro e w' ⟨rfl,rfl⟩;rw [ge2.out];simp only [];go_wp2;refine rg0 [.p 0,.p 1,.p 2,.p 3,.p 4,.p 5,.p 6,.p 7,.p 8,.p 9,.m 10] [10] hS fun w1 hS=>?_
  refine mvs ?_;refine muL ?_
  (with_reducible refine stA 1 hS sizeOf152 fun _ hS=>?_)
  refine mut_end ?_;refine snL ?_;go_wp2;exact ret_c 1 hS rfl rfl rfl isAgg152 sizeOf152 rfl rfl ⟨by first|(rw [← hM.out];done)|(rw [← hM.out];rfl),hS.pure _⟩
end Go.Proofs
namespace Go.Hp
open Go.Proofs.Tryz
open Go Go.RowKit
theorem mul_bdk {a b:Int} {m n:Nat} (ha:a.natAbs≤m) (hb:b.natAbs≤n):(a*b).natAbs≤m*n:=by
 rw [Int.natAbs_mul];exact Nat.mul_le_mul ha hb
end Go.Hp
namespace Go.Proofs
open Go.Proofs.Tryz
open Go.RowKit Go.Hp
theorem of05_any (x y:Int) (w:World):Calls Tryz.prog 97 #[.agg #[.int .i64 x,.int .i64 y]] w fun e w'=>e=.returned (.agg #[.int .i64 x,.int .i64 y,.int .i64 1])∧Pure w (fun _=>False) w' (fun _=>False):=by
 have hS:=Heap.start w
 go_enter func97,ntmps97
 go_wp2_with (with_reducible first|refine bxA hS fun bx wbx hS=>?_|refine alA hS zeroValue152 fun br wbr hS=>?_|refine ldB 1 hS isAgg3 ?_|refine stA 2 hS sizeOf152 fun _ hS=>?_)
 exact ret_c 2 hS rfl rfl rfl isAgg152 sizeOf152 rfl rfl ⟨rfl,hS.pure _⟩
theorem sign05_any (n:Int) (w:World):Calls Tryz.prog 222 #[.int .i64 n] w fun e w'=>e=.returned (.int .i64 (sgnZ n))∧w'=w:=by
 obtain⟨s,hs⟩:∃ s,sgnZ n=s:=⟨_,rfl⟩;rw [hs];unfold sgnZ at hs
 by_cases h1:n<0
 ·have d1:decide (n<0)=true:=by simpa using h1
  rw [if_pos h1] at hs;subst hs;clear h1
  go_enter func222,ntmps222
  go_wp2;go_ret;exact⟨rfl,rfl⟩
 ·have d1:decide (n<0)=false:=by simpa using h1
  rw [if_neg h1] at hs
  by_cases h2:0<n
  ·have d2:decide (0<n)=true:=by simpa using h2
   rw [if_pos h2] at hs;subst hs;clear h1 h2
   go_enter func222,ntmps222
   go_wp2;go_ret;exact⟨rfl,rfl⟩
  ·have d2:decide (0<n)=false:=by simpa using h2
   rw [if_neg h2] at hs;subst hs;clear h1 h2
   go_enter func222,ntmps222
   go_wp2;go_ret;exact⟨rfl,rfl⟩
def cmp3 (a b:P3):Int:=if sgnZ (a.x*b.d - b.x*a.d)≠0 then sgnZ (a.x*b.d - b.x*a.d) else sgnZ (a.y*b.d - b.y*a.d)
theorem sgnZ_neg {a:Int}:sgnZ a<0↔a<0:=by unfold sgnZ;split <;> (try split) <;> omega
theorem cmp3_low (a b:P3):cmp3 a b<0↔a.low b:=by
 unfold cmp3 P3.low;have h1:=@sgnZ_neg (a.x*b.d - b.x*a.d);have h2:=@sgnZ_neg (a.y*b.d - b.y*a.d);have h3:=@sgnZ_zero (a.x*b.d - b.x*a.d)
 split <;> omega
theorem cmp05_any (a b:P3) (w:World) (ha:a.bd) (hb:b.bd):Calls Tryz.prog 156 #[.agg #[.int .i64 a.x,.int .i64 a.y,.int .i64 a.d],.agg #[.int .i64 b.x,.int .i64 b.y,.int .i64 b.d]] w fun e w'=>e=.returned (.int .i64 (cmp3 a b))∧Pure w (fun _=>False) w' (fun _=>False):=by
 obtain⟨ax,ay,ad⟩:=a;obtain⟨bx,by',bd⟩:=b;obtain⟨a1,a2,a3⟩:=ha;obtain⟨b1,b2,b3⟩:=hb;simp only at a1 a2 a3 b1 b2 b3;obtain⟨c,hc⟩:∃ c,cmp3 ⟨ax,ay,ad⟩ ⟨bx,by',bd⟩=c:=⟨_,rfl⟩;rw [hc];unfold cmp3 at hc;simp only at hc;have m1:=mul_bd a1 b3;have m2:=mul_bd b1 a3;have m3:=mul_bd a2 b3;have m4:=mul_bd b2 a3;have w1:=wrapMul a1 b3;have w2:=wrapMul b1 a3;have w3:=wrapMul a2 b3;have w4:=wrapMul b2 a3;have w5:IntKind.i64.wrap (ax*bd - bx*ad)=ax*bd - bx*ad:=Go.Hp.w6;have w6:IntKind.i64.wrap (ay*bd - by'*ad)=ay*bd - by'*ad:=Go.Hp.w6
 have s1:=fun w=>sign05_any (ax*bd - bx*ad) w
 have s2:=fun w=>sign05_any (ay*bd - by'*ad) w
 obtain⟨u,hu⟩:∃ u,sgnZ (ax*bd - bx*ad)=u:=⟨_,rfl⟩;obtain⟨v,hv⟩:∃ v,sgnZ (ay*bd - by'*ad)=v:=⟨_,rfl⟩;simp only [hu] at s1 hc;simp only [hv] at s2 hc;clear hu hv m1 m2 m3 m4 a1 a2 a3 b1 b2 b3;have hS:=Heap.start w
 by_cases h0:u=0
 ·have hf:(u == 0)=true:=by simp [h0]
  rw [if_neg (by simpa using h0)] at hc;subst hc;subst h0
  go_enter func156,ntmps156
  go_wp2_with (with_reducible first|refine bxA hS fun bx1 wbx1 hS=>?_|refine bxA hS fun bx2 wbx2 hS=>?_|refine ldB 1 hS isAgg3 ?_|refine ldB 2 hS isAgg3 ?_)
  refine (s1 _).mono ?_;rintro e w' ⟨rfl,rfl⟩;simp only []
  go_wp2_with (with_reducible first|refine ldB 1 hS isAgg3 ?_|refine ldB 2 hS isAgg3 ?_)
  refine (s2 _).mono ?_;rintro e w' ⟨rfl,rfl⟩;simp only [];go_wp2;go_ret;exact⟨rfl,hS.pure _⟩
 ·have hf:(u == 0)=false:=by simp [h0]
  rw [if_pos h0] at hc;subst hc
  go_enter func156,ntmps156
  go_wp2_with (with_reducible first|refine bxA hS fun bx1 wbx1 hS=>?_|refine bxA hS fun bx2 wbx2 hS=>?_|refine ldB 1 hS isAgg3 ?_|refine ldB 2 hS isAgg3 ?_)
  refine (s1 _).mono ?_;rintro e w' ⟨rfl,rfl⟩;simp only [];go_wp2;go_ret;exact⟨rfl,hS.pure _⟩
end Go.Proofs
