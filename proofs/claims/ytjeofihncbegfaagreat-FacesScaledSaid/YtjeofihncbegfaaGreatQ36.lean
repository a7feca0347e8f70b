/- Of UA UB FV FU NB LV. -/
import Derived.Test.YtjeofihncbegfaaGreatQ35
set_option maxRecDepth 100000
set_option maxHeartbeats 16000000
set_option linter.unusedVariables false
set_option linter.unusedSimpArgs false
namespace Go.Hp
open Go
structure Prim (d:Gp):Prop where
 lex:0<d.x∨(d.x=0∧0<d.y)
 cop:Int.gcd d.x d.y=1
theorem gcd_dvd {a b c:Int} (h:a ∣ b*c) (hg:Int.gcd a b=1):a ∣ c:=by
 have h1:a.natAbs ∣ b.natAbs*c.natAbs:=by rw [← Int.natAbs_mul];exact Int.natAbs_dvd_natAbs.2 h
 have h2:Nat.Coprime a.natAbs b.natAbs:=hg;exact Int.natAbs_dvd_natAbs.1 (h2.dvd_of_dvd_mul_left h1)
theorem Prim.eq {d e:Gp} (hd:Prim d) (he:Prim e) (h:d.x*e.y=d.y*e.x):d=e:=by
 obtain⟨a,b⟩:=d;obtain⟨p,q⟩:=e;have l1:=hd.lex;have l2:=he.lex;have c1:=hd.cop;have c2:=he.cop;simp only at *;have h1:a ∣ p:=gcd_dvd (b:=b) ⟨q,h.symm⟩ c1;have h2:p ∣ a:=gcd_dvd (b:=q) ⟨b,by rw [Int.mul_comm q a,h,Int.mul_comm]⟩ c2
 have e1:a=p:=by
  have n1:=Int.natAbs_dvd_natAbs.2 h1;have n2:=Int.natAbs_dvd_natAbs.2 h2;have:=Nat.dvd_antisymm n1 n2;omega
 subst e1
 by_cases h0:a=0
 ·subst h0
  rw [Int.gcd_zero_left] at c1 c2;have:b=q:=by omega
  rw [this]
 ·have:q=b:=Int.eq_of_mul_eq_mul_left h0 (by rw [h,Int.mul_comm])
  rw [this]
theorem dirZ_spec {s:Sz} (hne:s.a≠s.b):Prim (dirZ s)∧∃ k:Int,k≠0∧s.b.x - s.a.x=k*(dirZ s).x∧s.b.y - s.a.y=k*(dirZ s).y:=by
 have hne2:¬ (s.b.x - s.a.x=0∧s.b.y - s.a.y=0):=fun h=>hne (by
  obtain⟨⟨ax,ay⟩,⟨bx,by'⟩⟩:=s;simp only at h;simp only [Gp.mk.injEq];omega)
 unfold dirZ;generalize s.b.x - s.a.x=dx at *;generalize s.b.y - s.a.y=dy at *
 have hg:0<Int.gcd dx dy:=by
  rcases Nat.eq_zero_or_pos (Int.gcd dx dy) with h|h
  ·exact absurd (Int.gcd_eq_zero_iff.1 h) hne2
  ·exact h
 have d1:((Int.gcd dx dy:Nat):Int) ∣ dx:=Int.gcd_dvd_left dx dy;have d2:((Int.gcd dx dy:Nat):Int) ∣ dy:=Int.gcd_dvd_right dx dy;have hc:=Int.gcd_ediv_gcd_ediv_gcd hg;rw [Int.tdiv_eq_ediv_of_dvd d1,Int.tdiv_eq_ediv_of_dvd d2];have e1:dx=(Int.gcd dx dy:Nat)*(dx / (Int.gcd dx dy:Nat)):=(Int.mul_ediv_cancel' d1).symm;have e2:dy=(Int.gcd dx dy:Nat)*(dy / (Int.gcd dx dy:Nat)):=(Int.mul_ediv_cancel' d2).symm;generalize hG:((Int.gcd dx dy:Nat):Int)=g at *;have hgp:0<g:=by rw [← hG];omega
 generalize dx / g=u at *;generalize dy / g=v at *;clear hG hg d1 d2;subst e1 e2
 have hx0:∀ x:Int,g*x<0↔x<0:=fun x=>by
  constructor
  ·intro h;exact Classical.byContradiction fun hn=>by
    have:=Int.mul_nonneg (Int.le_of_lt hgp) (Int.not_lt.1 hn);omega
  ·intro h;exact Int.mul_neg_of_pos_of_neg hgp h
 have hz0:∀ x:Int,g*x=0↔x=0:=fun x=>by
  rw [Int.mul_eq_zero];omega
 simp only [hx0,hz0];simp only [hz0] at hne2
 by_cases h:u<0∨(u=0∧v<0)
 ·rw [if_pos h]
  refine⟨⟨by simp only;omega,by simp only [Int.gcd_neg,Int.neg_gcd];exact hc⟩,-g,by omega,?_,?_⟩ <;> simp only [Int.neg_mul_neg]
 ·rw [if_neg h]
  exact⟨⟨by simp only;omega,hc⟩,g,by omega,rfl,rfl⟩
theorem dirZ_rat {s:Sz} (hne:s.a≠s.b):∃ k:Rat,k≠0∧s.sg.b.x - s.sg.a.x=k*((dirZ s).x:Rat)∧s.sg.b.y - s.sg.a.y=k*((dirZ s).y:Rat):=by
 obtain⟨_,k,h0,h1,h2⟩:=dirZ_spec hne;refine⟨(k:Rat),fun h=>h0 (Rat.intCast_inj.1 (by simpa using h)),?_,?_⟩
 ·have:=congrArg (Int.cast:Int→Rat) h1
  rw [Rat.intCast_sub,Rat.intCast_mul] at this;exact this
 ·have:=congrArg (Int.cast:Int→Rat) h2
  rw [Rat.intCast_sub,Rat.intCast_mul] at this;exact this
theorem rat_cancel {k a b:Rat} (hk:k≠0) (h:k*a=k*b):a=b:=by
 have:k*(a - b)=0:=by grind
 rcases Rat.mul_eq_zero.1 this with h|h
 ·exact absurd h hk
 ·grind
theorem onS_dir {s:Sz} (hne:s.a≠s.b) {p q:Pt} (hp:onS s.sg p) (hq:onS s.sg q):((dirZ s).x:Rat)*(q.y - p.y)=((dirZ s).y:Rat)*(q.x - p.x):=by
 obtain⟨k,h0,h1,h2⟩:=dirZ_rat hne;have a1:=hp.1;have a2:=hq.1;unfold area at a1 a2;rw [h1,h2] at a1 a2;refine rat_cancel h0 ?_
 grind
theorem Prim.nz {d:Gp} (h:Prim d):(0:Rat)<(d.x:Rat)∨((d.x:Rat)=0∧(0:Rat)<(d.y:Rat)):=by
 rcases h.lex with h|⟨h1,h2⟩
 ·exact .inl (Rat.intCast_pos.2 h)
 ·exact .inr ⟨by rw [h1];rfl,Rat.intCast_pos.2 h2⟩
theorem onS_by {s:Sz} (hne:s.a≠s.b) {p q:Pt} (hp:onS s.sg p) (hq:onS s.sg q) (hl:p.lt q):∃ t:Rat,0<t∧q.x - p.x=t*((dirZ s).x:Rat)∧q.y - p.y=t*((dirZ s).y:Rat):=by
 have h:=onS_dir hne hp hq;have hn:=(dirZ_spec hne).1.nz;generalize ((dirZ s).x:Rat)=u at *;generalize ((dirZ s).y:Rat)=v at *;unfold Pt.lt at hl
 rcases hn with hu|⟨hu,hv⟩
 ·have hu0:u≠0:=by grind
  have hm:u*((q.x - p.x) / u)=q.x - p.x:=by rw [Rat.mul_comm,Rat.div_mul_cancel hu0]
  have hmy:u*(q.y - p.y)=u*((q.x - p.x) / u*v):=by grind
  have hy:=rat_cancel hu0 hmy;refine⟨(q.x - p.x) / u,?_,by grind,hy⟩
  rcases hl with hl|⟨hl,hl2⟩
  ·exact rpos_of hu (by rw [hm];grind)
  ·exfalso
   have:q.x - p.x=0:=by grind
   rw [this] at hy
   grind
 ·subst hu
  have hv0:v≠0:=by grind
  have hx:v*(q.x - p.x)=v*0:=by grind
  have hx0:=rat_cancel hv0 hx;have hm:v*((q.y - p.y) / v)=q.y - p.y:=by rw [Rat.mul_comm,Rat.div_mul_cancel hv0]
  refine⟨(q.y - p.y) / v,?_,by grind,by grind⟩
  rcases hl with hl|⟨hl,hl2⟩
  ·grind
  ·exact rpos_of hv (by rw [hm];grind)
theorem onS_convex {s:Sg} {p q r:Pt} {l:Rat} (hp:onS s p) (hq:onS s q) (h0:0≤l) (h1:l≤1) (hx:r.x=p.x+l*(q.x - p.x)) (hy:r.y=p.y+l*(q.y - p.y)):onS s r:=by
 obtain⟨a1,b1,b2,b3,b4⟩:=hp;obtain⟨a2,c1,c2,c3,c4⟩:=hq
 have key:∀ m M x y:Rat,m≤x→x≤M→m≤y→y≤M→m≤x+l*(y - x)∧x+l*(y - x)≤M:=fun m M x y g1 g2 g3 g4=>by
  have k1:=rmul_nn h0 (show 0≤y - m by grind);have k2:=rmul_nn (show 0≤1 - l by grind) (show 0≤x - m by grind);have k3:=rmul_nn h0 (show 0≤M - y by grind);have k4:=rmul_nn (show 0≤1 - l by grind) (show 0≤M - x by grind)
  constructor <;> grind
 have e1:=key _ _ _ _ b1 b2 c1 c2;have e2:=key _ _ _ _ b3 b4 c3 c4;refine⟨?_,by rw [hx];exact e1.1,by rw [hx];exact e1.2,by rw [hy];exact e2.1,by rw [hy];exact e2.2⟩;unfold area at *;rw [hx,hy]
 grind
theorem dirZ_eq {s t:Sz} (hs:s.a≠s.b) (ht:t.a≠t.b) {p q:Pt} (hp:onS s.sg p) (hq:onS s.sg q) (hp':onS t.sg p) (hq':onS t.sg q) (hl:p.lt q):dirZ s=dirZ t:=by
 obtain⟨a,ha,hax,hay⟩:=onS_by hs hp hq hl;obtain⟨b,hb,hbx,hby⟩:=onS_by ht hp' hq' hl;refine (dirZ_spec hs).1.eq (dirZ_spec ht).1 ?_
 have h1:((dirZ s).x:Rat)*((dirZ t).y:Rat)=((dirZ s).y:Rat)*((dirZ t).x:Rat):=by
  have hb0:a*b≠0:=by have:=rmul_pos ha hb;grind
  refine rat_cancel hb0 ?_;generalize ((dirZ s).x:Rat)=u at *;generalize ((dirZ s).y:Rat)=v at *;generalize ((dirZ t).x:Rat)=u' at *;generalize ((dirZ t).y:Rat)=v' at *;have e1:a*u=b*u':=by rw [← hax,← hbx]
  have e2:a*v=b*v':=by rw [← hay,← hby]
  grind
 rw [← Rat.intCast_mul,← Rat.intCast_mul] at h1;exact Rat.intCast_inj.1 h1
end Go.Hp
namespace Go.Hp
open Go
theorem lt_at {V:List Pt} (hV:V.Pairwise Pt.lt) {u v:Nat} {p q:Pt} (hp:V[u]? = some p) (hq:V[v]? = some q) (h:u<v):p.lt q:=by
 obtain⟨a1,a2⟩:=List.getElem?_eq_some_iff.1 hp;obtain⟨b1,b2⟩:=List.getElem?_eq_some_iff.1 hq;have:=List.pairwise_iff_getElem.1 hV u v a1 b1 h
 rwa [a2,b2] at this
theorem ArrP.unique {os:List Sz} {gs:List Gp} {V V':List Pt} {es es':List Ed} (hos:∀ t ∈ os,t.a≠t.b) (h:ArrP os gs V es) (h':ArrP os gs V' es'):V=V'∧es=es':=by
 obtain⟨e1,e2⟩:=h.arr.unique h'.arr;subst e1;refine⟨rfl,?_⟩;have hl:es.length=es'.length:=by simpa using congrArg List.length e2
 apply List.ext_getElem hl;intro i h1 h2
 have e3:(es[i].a,es[i].b)=(es'[i].a,es'[i].b):=by
  have:=congrArg (fun l=>l[i]?) e2
  simpa [h1,h2] using this
 have m1:=List.getElem_mem h1;have m2:=List.getElem_mem h2;generalize es[i]=e at *;generalize es'[i]=e' at *;rw [Prod.mk.injEq] at e3;obtain⟨ea,eb⟩:=e3
 have hof:e.of=e'.of:=by
  refine sorted_ext (lt:=(· < ·)) (fun x=>Nat.lt_irrefl x) (fun a b=>Nat.lt_trans a b) (h.ofs _ m1) (h'.ofs _ m2) (fun k=>?_);rw [h.of _ m1,h'.of _ m2,ea,eb]
 have hdir:e.dir=e'.dir:=by
  obtain⟨s,hs,hn,hd⟩:=h.dir _ m1;obtain⟨t,ht,hn',hd'⟩:=h'.dir _ m2;rw [hd,hd'];rw [← ea,← eb] at hn';obtain⟨huv,p,q,hp,hq,op,oq,_⟩:=hn;obtain⟨_,p',q',hp',hq',op',oq',_⟩:=hn';rw [hp] at hp';cases hp';rw [hq] at hq';cases hq';exact dirZ_eq (hos s hs) (hos t ht) op oq op' oq' (lt_at h.arr.sv hp hq huv)
 obtain⟨a,b,o,d⟩:=e;obtain⟨a',b',o',d'⟩:=e';simp only at ea eb hof hdir;rw [ea,eb,hof,hdir]
theorem ArrP.edge {os:List Sz} {gs:List Gp} {V:List Pt} {es:List Ed} (h:ArrP os gs V es) (hos:∀ t ∈ os,t.a≠t.b) {e:Ed} (he:e ∈ es):e.a<e.b∧e.b<V.length∧Prim e.dir∧∃ s ∈ os,nextOn V s.sg e.a e.b∧e.dir=dirZ s:=by
 obtain⟨h1,h2⟩:=h.arr.lt (List.mem_map.2 ⟨e,he,rfl⟩);obtain⟨s,hs,hn,hd⟩:=h.dir e he;exact⟨h1,h2,by rw [hd];exact (dirZ_spec (hos s hs)).1,s,hs,hn,hd⟩
theorem ArrP.pair_inj {os:List Sz} {gs:List Gp} {V:List Pt} {es:List Ed} (h:ArrP os gs V es) {i j:Nat} (hi:i<es.length) (hj:j<es.length) (ha:(nth ed0 es i).a=(nth ed0 es j).a) (hb:(nth ed0 es i).b=(nth ed0 es j).b):i=j:=by
 have hp:=List.pairwise_map.1 h.arr.se;rw [nth_eq _ _ _ hi,nth_eq _ _ _ hj] at ha hb
 rcases Nat.lt_trichotomy i j with hij|hij|hij
 ·have:=List.pairwise_iff_getElem.1 hp i j hi hj hij
  unfold ltE at this;simp only at this;omega
 ·exact hij
 ·have:=List.pairwise_iff_getElem.1 hp j i hj hi hij
  unfold ltE at this;simp only at this;omega
theorem lex_pos {u v t:Rat} {p q:Pt} (hn:0<u∨(u=0∧0<v)) (hl:p.lt q) (hx:q.x - p.x=t*u) (hy:q.y - p.y=t*v):0<t:=by
 unfold Pt.lt at hl
 rcases hn with hu|⟨rfl,hv⟩
 ·rcases hl with hl|⟨hl,hl2⟩
  ·exact rpos_of hu (by grind)
  ·exfalso
   have h0:t*u=0:=by grind
   rcases Rat.mul_eq_zero.1 h0 with h|h <;> grind
 ·rcases hl with hl|⟨hl,hl2⟩
  ·grind
  ·exact rpos_of hv (by grind)
theorem fwd_apart {V:List Pt} (hV:V.Pairwise Pt.lt) {s t:Sz} (hs:s.a≠s.b) (ht:t.a≠t.b) {v b c:Nat} (h1:nextOn V s.sg v b) (h2:nextOn V t.sg v c) (hd:dirZ s=dirZ t) (hbc:b<c):False:=by
 obtain⟨huv,p,q,hp,hq,op,oq,_⟩:=h1;obtain⟨huv',p',r,hp',hr,op',or',hno⟩:=h2;rw [hp] at hp';cases hp';have hqr:=lt_at hV hq hr hbc;obtain⟨a,ha,hax,hay⟩:=onS_by hs op oq (lt_at hV hp hq huv);obtain⟨b',hb,hbx,hby⟩:=onS_by ht op' or' (lt_at hV hp hr huv');have hn:=(dirZ_spec ht).1.nz;rw [hd] at hax hay;have hab:=lex_pos (t:=b' - a) hn hqr (by grind) (by grind);have hb0:b'≠0:=by grind
 have hm:a / b'*b'=a:=Rat.div_mul_cancel hb0;refine hno b q huv hbc hq (onS_convex (l:=a / b') op' or' ?_ ?_ ?_ ?_)
 ·have:0<a / b':=rpos_of hb (by rw [Rat.mul_comm,hm];exact ha)
  grind
 ·have:0<1 - a / b':=rpos_of hb (by grind)
  grind
 ·grind
 ·grind
theorem bwd_apart {V:List Pt} (hV:V.Pairwise Pt.lt) {s t:Sz} (hs:s.a≠s.b) (ht:t.a≠t.b) {v b c:Nat} (h1:nextOn V s.sg b v) (h2:nextOn V t.sg c v) (hd:dirZ s=dirZ t) (hbc:b<c):False:=by
 obtain⟨huv,p,q,hp,hq,op,oq,hno⟩:=h1;obtain⟨huv',r,q',hr,hq',or',oq',_⟩:=h2;rw [hq] at hq';cases hq';have hpr:=lt_at hV hp hr hbc;obtain⟨a,ha,hax,hay⟩:=onS_by hs op oq (lt_at hV hp hq huv);obtain⟨b',hb,hbx,hby⟩:=onS_by ht or' oq' (lt_at hV hr hq huv');have hn:=(dirZ_spec hs).1.nz;rw [← hd] at hbx hby;have hab:=lex_pos (t:=a - b') hn hpr (by grind) (by grind);have ha0:a≠0:=by grind
 have hm:(a - b') / a*a=a - b':=Rat.div_mul_cancel ha0;refine hno c r hbc huv' hr (onS_convex (l:=(a - b') / a) op oq ?_ ?_ ?_ ?_)
 ·have:0<(a - b') / a:=rpos_of ha (by rw [Rat.mul_comm,hm];exact hab)
  grind
 ·have:0<1 - (a - b') / a:=rpos_of ha (by grind)
  grind
 ·grind
 ·grind
theorem turn_zero {a b:Gp} (h1:¬ turnZ a b<0) (h2:¬ turnZ b a<0):halfZ a=halfZ b∧a.x*b.y=a.y*b.x:=by
 unfold turnZ sgnZ at h1 h2
 by_cases h:halfZ a=halfZ b
 ·rw [if_pos h] at h1
  rw [if_pos h.symm] at h2;refine⟨h,?_⟩;have e:b.x*a.y - b.y*a.x = -(a.x*b.y - a.y*b.x):=by grind
  rw [e] at h2
  have hz:a.x*b.y - a.y*b.x=0:=by
   generalize a.x*b.y - a.y*b.x=z at *
   split at h1 <;> split at h2 <;> (try split at h1) <;> (try split at h2) <;> omega
  omega
 ·exfalso
  rw [if_neg h] at h1;rw [if_neg (fun e=>h e.symm)] at h2
  split at h1 <;> split at h2 <;> omega
theorem half_neg {d:Gp} (h:Prim d):halfZ d≠halfZ ⟨-d.x,-d.y⟩:=by
 have:=h.lex;unfold halfZ;simp only
 split <;> split <;> omega
end Go.Hp
namespace Go.Proofs
open Go.RowKit Go.Hp
theorem crs_even {es:List Ed} {h:Nat} (e:h % 2=0):crsZ es h=(nth ed0 es (h / 2)).dir:=by unfold crsZ;rw [if_neg (by omega)]
theorem crs_odd {es:List Ed} {h:Nat} (e:h % 2=1):crsZ es h=⟨-(nth ed0 es (h / 2)).dir.x,-(nth ed0 es (h / 2)).dir.y⟩:=by unfold crsZ;rw [if_pos e]
theorem turn_anti {os:List Sz} {gs:List Gp} {V:List Pt} {es:List Ed} (hA:ArrP os gs V es) (hos:∀ t ∈ os,t.a≠t.b) {v g k:Nat} (hg:g ∈ outs es v) (hk:k ∈ outs es v) (h1:¬ turnZ (crsZ es k) (crsZ es g)<0) (h2:¬ turnZ (crsZ es g) (crsZ es k)<0):g=k:=by
 have hne:∀ e ∈ es,e.a≠e.b:=fun e he=>by have:=(hA.edge hos he).1;omega
 obtain⟨gl,go⟩:=(mem_outsTo (Nat.le_refl _) hne).1 hg;obtain⟨kl,ko⟩:=(mem_outsTo (Nat.le_refl _) hne).1 hk;obtain⟨hh,hc⟩:=turn_zero h1 h2;obtain⟨_,_,p1,s,hs,n1,d1⟩:=hA.edge hos (nth_mem ed0 es _ gl);obtain⟨_,_,p2,t,ht,n2,d2⟩:=hA.edge hos (nth_mem ed0 es _ kl);have inj:=@ArrP.pair_inj os gs V es hA (g / 2) (k / 2) gl kl;have fwd:=fun {v b c}=>@fwd_apart V hA.arr.sv s t (hos s hs) (hos t ht) v b c
 have fwd':=fun {v b c}=>@fwd_apart V hA.arr.sv t s (hos t ht) (hos s hs) v b c
 have bwd:=fun {v b c}=>@bwd_apart V hA.arr.sv s t (hos s hs) (hos t ht) v b c
 have bwd':=fun {v b c}=>@bwd_apart V hA.arr.sv t s (hos t ht) (hos s hs) v b c
 unfold orgE at go ko
 rcases Nat.mod_two_eq_zero_or_one g with eg|eg <;> rcases Nat.mod_two_eq_zero_or_one k with ek|ek
 ·rw [if_pos eg] at go
  rw [if_pos ek] at ko;rw [crs_even eg,crs_even ek] at hc;have hd:(nth ed0 es (g / 2)).dir=(nth ed0 es (k / 2)).dir:=p1.eq p2 (by grind);rw [go] at n1;rw [ko] at n2;have hde:dirZ s=dirZ t:=by rw [← d1,← d2,hd]
  have hb:(nth ed0 es (g / 2)).b=(nth ed0 es (k / 2)).b:=by
   rcases Nat.lt_trichotomy (nth ed0 es (g / 2)).b (nth ed0 es (k / 2)).b with h|h|h
   ·exact (fwd n1 n2 hde h).elim
   ·exact h
   ·exact (fwd' n2 n1 hde.symm h).elim
  have:=inj (go.trans ko.symm) hb;omega
 ·exfalso
  rw [crs_even eg,crs_odd ek] at hc hh;have hd:(nth ed0 es (g / 2)).dir=(nth ed0 es (k / 2)).dir:=p1.eq p2 (by simp only at hc;grind);rw [hd] at hh;exact half_neg p2 hh.symm
 ·exfalso
  rw [crs_odd eg,crs_even ek] at hc hh;have hd:(nth ed0 es (g / 2)).dir=(nth ed0 es (k / 2)).dir:=p1.eq p2 (by simp only at hc;grind);rw [hd] at hh;exact half_neg p2 hh
 ·rw [if_neg (by omega)] at go
  rw [if_neg (by omega)] at ko;rw [crs_odd eg,crs_odd ek] at hc;have hd:(nth ed0 es (g / 2)).dir=(nth ed0 es (k / 2)).dir:=p1.eq p2 (by simp only at hc;grind);rw [go] at n1;rw [ko] at n2;have hde:dirZ s=dirZ t:=by rw [← d1,← d2,hd]
  have ha:(nth ed0 es (g / 2)).a=(nth ed0 es (k / 2)).a:=by
   rcases Nat.lt_trichotomy (nth ed0 es (g / 2)).a (nth ed0 es (k / 2)).a with h|h|h
   ·exact (bwd n1 n2 hde h).elim
   ·exact h
   ·exact (bwd' n2 n1 hde.symm h).elim
  have:=inj ha (go.trans ko.symm);omega
theorem AroundL.unique {os:List Sz} {gs:List Gp} {V:List Pt} {es:List Ed} (hA:ArrP os gs V es) (hos:∀ t ∈ os,t.a≠t.b) {v:Nat} {l l':List Nat} (h:AroundL es v l) (h':AroundL es v l'):l=l' :=
 List.Perm.eq_of_pairwise (fun a b ha hb r1 r2=>turn_anti hA hos ((h.perm.mem_iff).1 ha) ((h'.perm.mem_iff).1 hb) r1 r2) h.sorted h'.sorted (h.perm.trans h'.perm.symm)
end Go.Proofs
namespace Go.Hp
open Go.Proofs.Tryz
open Go Go.RowKit
end Go.Hp
namespace Go.Proofs
open Go.Proofs.Tryz
open Go.RowKit Go.Hp
end Go.Proofs
namespace Go.Hp
open Go.Proofs.Tryz
open Go Go.RowKit
def nbTo (L:List Int) (f:Int):Nat→List Int
 | 0=>[]
 | h+1=>if nth 0 L h=f∧nth 0 L (tw h)≠f then nbTo L f h++[nth 0 L (tw h)] else nbTo L f h
theorem nbTo_len (L:List Int) (f:Int):∀ h,(nbTo L f h).length≤h
 | 0=>Nat.le_refl _
 | h+1=>by
  have:=nbTo_len L f h;unfold nbTo;split <;> simp <;> omega
theorem mem_nbTo (L:List Int) (f x:Int):∀ h,x ∈ nbTo L f h↔∃ k,k<h∧nth 0 L k=f∧nth 0 L (tw k)≠f∧nth 0 L (tw k)=x
 | 0=>by simp [nbTo]
 | h+1=>by
  have ih:=mem_nbTo L f x h;unfold nbTo
  split
  ·rename_i hc
   rw [List.mem_append,ih,List.mem_singleton]
   constructor
   ·rintro (⟨k,a,b,c,d⟩|e)
    ·exact⟨k,by omega,b,c,d⟩
    ·exact⟨h,by omega,hc.1,hc.2,e.symm⟩
   ·rintro⟨k,a,b,c,d⟩
    by_cases e:k=h
    ·subst e;exact .inr d.symm
    ·exact .inl ⟨k,by omega,b,c,d⟩
  ·rename_i hc
   rw [ih]
   constructor
   ·rintro⟨k,a,b,c,d⟩;exact⟨k,by omega,b,c,d⟩
   ·rintro⟨k,a,b,c,d⟩
    by_cases e:k=h
    ·subst e;exact absurd ⟨b,c⟩ hc
    ·exact⟨k,by omega,b,c,d⟩
end Go.Hp
namespace Go.Proofs
open Go.Proofs.Tryz
open Go.RowKit Go.Hp
def nbs (L:List Int) (f:Int):List Int:=Lib.compact (srt (nbTo L f L.length))
theorem neighbours_any (L:List Int) (m:Nat) (hm:L.length=2*m) (hle:L.length≤1000000) (face:Int) (a1 a2 a3 a4 a5:Option Addr) (n1 c1 n2 c2 n3 c3 n4 c4 n5 c5:Nat) (hf0:0≤face) (hf1:face<(n3:Int)) (w:World) (hL:Ints w (Old w) (.slice a2 n2 c2) L) :
 Calls Tryz.prog 20 #[.agg #[.slice a1 n1 c1,.slice a2 n2 c2,.slice a3 n3 c3,.slice a4 n4 c4,.slice a5 n5 c5],.int .i64 face] w fun e w'=>∃ ad c,e=.returned (.tuple #[.slice ad (nbs L face).length c,.int .i64 0])∧Heap w w' [.frz (Old w) w,.row (.slice ad (nbs L face).length c) 3 1 (nbs L face).length (iv (nbs L face))]:=by
 have hn2:=hL.len;subst hn2;have d0:decide ((n3:Int)≤face)=false:=by simp;omega
 have d1:decide (face<0)=false:=by simp;omega
 have hS:=Heap.start w
 go_enter func20,ntmps20
 go_wp2_with (with_reducible first|refine bxA hS fun bx wbx hS=>?_|refine ldB 1 hS isAgg22 ?_)
 have hS:=hS.addNil 3 1;simp only [List.cons_append,List.nil_append] at hS
 try try simp only [NRG]
 go_loopw [6,22] (fun v6 v22 wr=>∃ (h:Nat) (ad:Option Addr) (c:Nat),h≤L.length∧v22=.int .i64 (h:Int)∧v6=.slice ad (nbTo L face h).length c∧Heap w wr [.frz (Old w) w,.blk bx (.cells #[.slice a1 n1 c1,.slice a2 L.length c2,.slice a3 n3 c3,.slice a4 n4 c4,.slice a5 n5 c5] 37 (0,0)),.row (.slice ad (nbTo L face h).length c) 3 1 (nbTo L face h).length (iv (nbTo L face h))]) (fun _ v22 _=>L.length - (intOf v22).toNat)
 case atStart=>exact⟨0,none,0,by omega,rfl,rfl,hS⟩
 case round =>
  clear hS;obtain⟨h,ad,c,hh,rfl,rfl,hS⟩:=hrel
  by_cases hhl:h<L.length
  ·have hx:=xor1_bits (h:=h) (by omega)
   have htl:tw h<L.length:=by rw [hm];exact tw_lt (by omega)
   have hst:nbTo L face (h+1)=if nth 0 L h=face∧nth 0 L (tw h)≠face then nbTo L face h++[nth 0 L (tw h)] else nbTo L face h:=rfl
   have hbl:=nbTo_len L face h;obtain⟨B,hB⟩:∃ B,nbTo L face h=B:=⟨_,rfl⟩;rw [hB] at hS hst hbl;rw [hB];replace hB:=Hd hB
   by_cases q1:nth 0 L h=face
   ·have e1:(nth 0 L h == face)=true:=by simp [q1]
    by_cases q2:nth 0 L (tw h)=face
    ·rw [if_neg (fun h=>h.2 q2)] at hst
     have e2:(nth 0 L (tw h) != face)=false:=by simp [q2]
     replace hst:=Hd hst;replace q1:=Hd q1;replace q2:=Hd q2
     go_wp2_with (with_reducible first|refine ldB 1 hS isAgg22 ?_|refine ixI underlying22 sizeOf3 fun _ _ _=>?_|refine ld0 hS isAgg3 ?_)
     go_roundw
     case rel=>exact⟨h+1,ad,c,by omega,by simp,by rw [hst.out],by rw [hst.out];exact hS⟩
     case measure=>simp [intOf];omega
    ·rw [if_pos ⟨q1,q2⟩] at hst
     have e2:(nth 0 L (tw h) != face)=true:=by simp [q2]
     have hl2:(nbTo L face (h+1)).length=B.length+1:=by rw [hst];simp
     have hv2:iv (nbTo L face (h+1))=iv B++[.int .i64 (nth 0 L (tw h))]:=by rw [hst];simp [iv]
     replace hl2:=Hd hl2;replace hv2:=Hd hv2;replace hst:=Hd hst;replace q1:=Hd q1;replace q2:=Hd q2
     go_wp2_with (first|(with_reducible first|refine ldB 1 hS isAgg22 ?_|refine ixI underlying22 sizeOf3 fun _ _ _=>?_|refine ld0 hS isAgg3 ?_)|((with_reducible refine g_bs (T:=22) ?_);refine seq_bs1 (T:=22) (v:=.int .i64 _) hS underlying22 sizeOf3 zeroValue3 rfl rfl rfl (by decide) (by decide) rfl (fun bq wbq hS=>?_);simp only [NRM];simp only [Value.cells] at hS)|((with_reducible refine g_app ?_);refine seq_append_lit (t:=22) 2 hS underlying22 infoI rfl (by decide) rfl rfl rfl rfl (by simp [Value.oneCell']) (by omega) (by unfold maxLen;omega) (fun ad2 cp2 _ hS=>?_);simp only [NRM];simp only [List.set_cons_succ,List.set_cons_zero] at hS))
     go_roundw
     case rel=>exact⟨h+1,ad2,cp2,by omega,by simp,by rw [hl2.out],by rw [hl2.out,hv2.out];exact hS.sb⟩
     case measure=>simp [intOf];omega
   ·have e1:(nth 0 L h == face)=false:=by simp [q1]
    rw [if_neg (fun h=>q1 h.1)] at hst;replace hst:=Hd hst;replace q1:=Hd q1
    go_wp2_with (with_reducible first|refine ldB 1 hS isAgg22 ?_|refine ixI underlying22 sizeOf3 fun _ _ _=>?_|refine ld0 hS isAgg3 ?_)
    go_roundw
    case rel=>exact⟨h+1,ad,c,by omega,by simp,by rw [hst.out],by rw [hst.out];exact hS⟩
    case measure=>simp [intOf];omega
  ·obtain rfl:L.length=h:=by omega
   have hbl:=nbTo_len L face L.length;have hnb:Lib.compact (srt (nbTo L face L.length))=nbs L face:=rfl;have hsl:(srt (nbTo L face L.length)).length=(nbTo L face L.length).length:=srt_len _;obtain⟨B,hB⟩:∃ B,nbTo L face L.length=B:=⟨_,rfl⟩;rw [hB] at hS hbl hnb hsl;rw [hB];replace hB:=Hd hB;replace hnb:=Hd hnb;replace hsl:=Hd hsl
   go_wp2_with (fail)
   refine (sort_row 2 hS rfl (by omega)).mono ?_;rintro e w5 ⟨rfl,hS5⟩;simp only [List.set_cons_succ,List.set_cons_zero] at hS5;simp only []
   go_wp2_with (fail)
   refine (compact_row 2 hS5 rfl (by omega)).mono ?_;rintro e w6 ⟨rfl,hS6⟩;simp only [List.set_cons_succ,List.set_cons_zero] at hS6;rw [hnb.out] at hS6 ⊢;simp only [];go_wp2;refine bodyPost_ret (results_tmp2 rfl _ _ _) rfl ?_;exact⟨ad,c,rfl,hS6.sub (by repeat (first|exact List.Sublist.refl _|apply List.Sublist.cons_cons|apply List.Sublist.cons|exact List.nil_sublist _))⟩
end Go.Proofs
namespace Go.Proofs
open Go Go.RowKit Go.Hp
theorem get_bang {α:Type} [Inhabited α] (xs:List α) (i:Nat) (h:i<xs.length):xs.toArray[i]! = xs[i]:=by
 rw [getElem!_pos xs.toArray i (by simpa using h)];simp
theorem compact_mem {xs:List Int} (x:Int) (hs:xs.Pairwise (· ≤ ·)):x ∈ Lib.compact xs↔x ∈ xs:=by
 constructor
 ·exact fun h=>(compact_sub xs).subset h
 ·intro h
  have key:∀ m,m≤xs.length→∀ i (hi:i<m) (hi2:i<xs.length),xs[i] ∈ Lib.compactUpTo xs.toArray m:=by
   intro m
   induction m with
   | zero=>intro _ i hi;omega
   | succ m ih =>
    intro hm i hi hi2;rw [Lib.compactUpTo_succ]
    rcases Nat.lt_or_ge i m with h1|h1
    ·exact List.mem_append_left _ (ih (by omega) i h1 hi2)
    ·obtain rfl:i=m:=by omega
     by_cases hk:Lib.keeps xs.toArray i=true
     ·rw [if_pos hk,get_bang _ _ hi2];simp
     ·rw [if_neg hk,List.append_nil]
      simp only [Lib.keeps,decide_eq_true_iff,not_or,ne_eq,Decidable.not_not] at hk;obtain⟨h0,h2⟩:=hk;rw [get_bang _ _ hi2,get_bang _ _ (by omega)] at h2;rw [h2];exact ih (by omega) (i - 1) (by omega) (by omega)
  obtain⟨i,hi,rfl⟩:=List.mem_iff_getElem.1 h;exact key xs.length (Nat.le_refl _) i hi hi
theorem compact_lt {xs:List Int} (hs:xs.Pairwise (· ≤ ·)):(Lib.compact xs).Pairwise (· < ·):=by
 have key:∀ m,m≤xs.length→(Lib.compactUpTo xs.toArray m).Pairwise (· < ·)∧∀ x ∈ Lib.compactUpTo xs.toArray m,0<m∧∀ (h:m - 1<xs.length),x≤xs[m - 1]:=by
  intro m
  induction m with
  | zero=>intro _;exact⟨by simp [Lib.compactUpTo],by simp [Lib.compactUpTo]⟩
  | succ m ih =>
   intro hm;obtain⟨h1,h2⟩:=ih (by omega);have hm2:m<xs.length:=by omega
   have hstep:∀ (h:m - 1<xs.length),0<m→xs[m - 1]≤xs[m]:=fun h h0=>(List.pairwise_iff_getElem.1 hs) _ _ h hm2 (by omega)
   rw [Lib.compactUpTo_succ]
   by_cases hk:Lib.keeps xs.toArray m=true
   ·rw [if_pos hk,get_bang _ _ hm2]
    refine⟨pairwise_snoc h1 fun x hx=>?_,fun x hx=>⟨by omega,fun h=>?_⟩⟩
    ·obtain⟨h0,h3⟩:=h2 x hx
     have h4:=h3 (by omega);have h5:=hstep (by omega) h0;simp only [Lib.keeps,decide_eq_true_iff] at hk
     rcases hk with hk|hk
     ·omega
     ·rw [get_bang _ _ hm2,get_bang _ _ (by omega:m - 1<xs.length)] at hk
      have:xs[m]≠xs[m - 1]:=hk;omega
    ·simp only [Nat.add_sub_cancel]
     rcases List.mem_append.1 hx with h3|h3
     ·obtain⟨h0,h4⟩:=h2 x h3
      have:=h4 (by omega);have:=hstep (by omega) h0;omega
     ·simp at h3;omega
   ·rw [if_neg hk,List.append_nil]
    refine⟨h1,fun x hx=>⟨by omega,fun h=>?_⟩⟩;simp only [Nat.add_sub_cancel];obtain⟨h0,h4⟩:=h2 x hx;have:=h4 (by omega);have:=hstep (by omega) h0;omega
 exact (key xs.length (Nat.le_refl _)).1
theorem mem_nbs (L:List Int) (f x:Int):x ∈ nbs L f↔∃ k,k<L.length∧nth 0 L k=f∧nth 0 L (tw k)≠f∧nth 0 L (tw k)=x:=by
 unfold nbs;rw [compact_mem _ (srt_sorted _)];unfold srt;rw [(List.mergeSort_perm _ _).mem_iff,mem_nbTo]
theorem nbs_lt (L:List Int) (f:Int):(nbs L f).Pairwise (· < ·):=compact_lt (srt_sorted _)
end Go.Proofs
namespace Go.Hp
open Go
def nextB (V:List Pt) (s:Sg) (u v:Nat):Bool:=decide (u<v) && decide (v<V.length) && decide (onS s (nth pt0 V u)) && decide (onS s (nth pt0 V v)) && (List.range v).all fun w=>decide (w≤u) || !decide (onS s (nth pt0 V w))
theorem nextB_iff (V:List Pt) (s:Sg) (u v:Nat):nextB V s u v=true↔nextOn V s u v:=by
 unfold nextB nextOn;simp only [Bool.and_eq_true,decide_eq_true_eq,List.all_eq_true,List.mem_range,Bool.or_eq_true,Bool.not_eq_true',decide_eq_false_iff_not]
 constructor
 ·rintro⟨⟨⟨⟨h1,h2⟩,h3⟩,h4⟩,h5⟩
  refine⟨h1,nth pt0 V u,nth pt0 V v,?_,?_,h3,h4,fun w r h6 h7 hw=>?_⟩
  ·rw [nth_eq _ _ _ (by omega)];exact List.getElem?_eq_getElem _
  ·rw [nth_eq _ _ _ h2];exact List.getElem?_eq_getElem _
  ·obtain⟨hl,rfl⟩:=List.getElem?_eq_some_iff.1 hw
   rcases h5 w h7 with h|h
   ·omega
   ·rw [nth_eq _ _ _ hl] at h;exact h
 ·rintro⟨h1,p,q,hp,hq,op,oq,hno⟩
  obtain⟨hu,rfl⟩:=List.getElem?_eq_some_iff.1 hp;obtain⟨hv,rfl⟩:=List.getElem?_eq_some_iff.1 hq;refine⟨⟨⟨⟨h1,hv⟩,by rw [nth_eq _ _ _ hu];exact op⟩,by rw [nth_eq _ _ _ hv];exact oq⟩,fun w hw=>?_⟩
  by_cases h6:w≤u
  ·exact .inl h6
  ·right
   rw [nth_eq _ _ _ (by omega)];exact hno w _ (by omega) hw (List.getElem?_eq_getElem (by omega))
def sortB {α:Type} (lt:α→α→Bool):List α→Bool
 | []=>true
 | x::l=>l.all (lt x) && sortB lt l
theorem sortB_iff {α:Type} {R:α→α→Prop} (lt:α→α→Bool) (h:∀ x y,lt x y=true→R x y):∀ l,sortB lt l=true→l.Pairwise R
 | [],_=>List.Pairwise.nil
 | x::l,hl=>by
  unfold sortB at hl;rw [Bool.and_eq_true,List.all_eq_true] at hl;exact List.pairwise_cons.2 ⟨fun y hy=>h x y (hl.1 y hy),sortB_iff lt h l hl.2⟩
def arrB (os:List Sz) (gs:List Gp) (V:List Pt) (es:List Ed):Bool :=
 sortB (fun p q:Pt=>decide (p.lt q)) V &&
 V.all (fun p=>(gs.map Gp.pt).contains p || os.any fun s=>decide (p=s.sg.a) || decide (p=s.sg.b)) &&
 (gs.map Gp.pt).all (fun p=>V.contains p) && os.all (fun s=>V.contains s.sg.a && V.contains s.sg.b) &&
 os.all (fun s=>os.all fun t=>decide (s=t) || (cutsL s.sg t.sg).all fun p=>V.contains p) &&
 sortB (fun x y:Nat × Nat=>decide (x.1<y.1) || (decide (x.1=y.1) && decide (x.2<y.2))) (es.map fun e=>(e.a,e.b)) &&
 es.all (fun e=>os.any fun s=>nextB V s.sg e.a e.b && decide (e.dir=dirZ s)) &&
 os.all (fun s=>(List.range V.length).all fun u=>(List.range V.length).all fun v=>!nextB V s.sg u v || (es.map fun e=>(e.a,e.b)).contains (u,v)) &&
 es.all (fun e=>sortB (fun x y:Nat=>decide (x<y)) e.of && e.of.all (fun i=>decide (i<os.length)) && (List.range os.length).all fun i=>e.of.contains i == nextB V (nth s0 os i).sg e.a e.b) &&
 sortB (fun s t:Sz=>!decide (s=t)) os
theorem arrB_ok {os:List Sz} {gs:List Gp} {V:List Pt} {es:List Ed} (h:arrB os gs V es=true):ArrP os gs V es:=by
 unfold arrB at h;simp only [Bool.and_eq_true] at h;obtain⟨⟨⟨⟨⟨⟨⟨⟨⟨h1,h2⟩,h3⟩,h4⟩,h5⟩,h6⟩,h7⟩,h8⟩,h9⟩,h10⟩:=h;have hnd:os.Pairwise (fun s t=>s≠t):=sortB_iff _ (fun x y h=>by simpa using h) os h10;have hV:V.Pairwise Pt.lt:=sortB_iff _ (fun x y h=>by simpa using h) V h1;rw [List.all_eq_true] at h2 h3 h4 h5 h7 h8 h9;have hat:∀ i s,os[i]? = some s→s ∈ os:=fun i s h=>List.mem_of_getElem? h
 refine⟨⟨hV,fun p=>⟨fun hp=>?_,fun hp=>?_⟩,sortB_iff _ (fun x y h=>by unfold ltE;simpa using h) _ h6,fun u v=>⟨fun he=>?_,fun he=>?_⟩⟩,fun e he i=>?_,fun e he=>?_,fun e he=>?_⟩
 ·have:=h2 p hp
  rw [Bool.or_eq_true,List.contains_iff_mem,List.any_eq_true] at this
  rcases this with h|⟨s,hs,h⟩
  ·exact .inl h
  ·refine .inr (.inl ⟨s.sg,List.mem_map.2 ⟨s,hs,rfl⟩,?_⟩)
   simpa using h
 ·rcases hp with h|⟨t,ht,h⟩|⟨i,j,s,t,hij,hi,hj,hc⟩
  ·exact List.contains_iff_mem.1 (h3 p h)
  ·obtain⟨s,hs,rfl⟩:=List.mem_map.1 ht
   have:=h4 s hs;rw [Bool.and_eq_true,List.contains_iff_mem,List.contains_iff_mem] at this
   rcases h with rfl|rfl
   ·exact this.1
   ·exact this.2
  ·rw [List.getElem?_map] at hi hj
   obtain⟨s',hs',rfl⟩:=Option.map_eq_some_iff.1 hi;obtain⟨t',ht',rfl⟩:=Option.map_eq_some_iff.1 hj;have h11:=h5 s' (hat _ _ hs');rw [List.all_eq_true] at h11;have h12:=h11 t' (hat _ _ ht');rw [Bool.or_eq_true] at h12
   rcases h12 with h12|h12
   ·exfalso
    have e:=of_decide_eq_true h12;subst e;obtain⟨a1,a2⟩:=List.getElem?_eq_some_iff.1 hs';obtain⟨b1,b2⟩:=List.getElem?_eq_some_iff.1 ht'
    rcases Nat.lt_trichotomy i j with h|h|h
    ·exact List.pairwise_iff_getElem.1 hnd i j a1 b1 h (a2.trans b2.symm)
    ·exact hij h
    ·exact List.pairwise_iff_getElem.1 hnd j i b1 a1 h (b2.trans a2.symm)
   ·rw [List.all_eq_true] at h12
    exact List.contains_iff_mem.1 (h12 p ((cuts_iff _ _ _).2 hc))
 ·obtain⟨e,hm,hp⟩:=List.mem_map.1 he
  rw [Prod.mk.injEq] at hp;obtain⟨rfl,rfl⟩:=hp;have:=h7 e hm;rw [List.any_eq_true] at this;obtain⟨s,hs,h⟩:=this;rw [Bool.and_eq_true] at h;exact⟨s.sg,List.mem_map.2 ⟨s,hs,rfl⟩,(nextB_iff _ _ _ _).1 h.1⟩
 ·obtain⟨t,ht,hn⟩:=he
  obtain⟨s,hs,rfl⟩:=List.mem_map.1 ht;have h11:=h8 s hs;rw [List.all_eq_true] at h11;obtain⟨huv,p,q,hp,hq,_⟩:=id hn;have hu:=(List.getElem?_eq_some_iff.1 hp).1;have hv:=(List.getElem?_eq_some_iff.1 hq).1;have h12:=h11 u (List.mem_range.2 hu);rw [List.all_eq_true] at h12;have h13:=h12 v (List.mem_range.2 hv);rw [Bool.or_eq_true] at h13
  rcases h13 with h|h
  ·rw [(nextB_iff _ _ _ _).2 hn] at h;cases h
  ·exact List.contains_iff_mem.1 h
 ·have:=h9 e he
  simp only [Bool.and_eq_true,List.all_eq_true,decide_eq_true_eq,List.mem_range,beq_iff_eq] at this;obtain⟨⟨_,g2⟩,g3⟩:=this
  constructor
  ·intro hi
   have hl:=g2 i hi;have h11:=g3 i hl;rw [List.contains_iff_mem.2 hi] at h11;exact⟨nth s0 os i,by rw [nth_eq _ _ _ hl];exact List.getElem?_eq_getElem _,(nextB_iff _ _ _ _).1 h11.symm⟩
  ·rintro⟨s,hs,hn⟩
   obtain⟨hl,rfl⟩:=List.getElem?_eq_some_iff.1 hs;have h11:=g3 i hl;rw [nth_eq _ _ _ hl,(nextB_iff _ _ _ _).2 hn] at h11;exact List.contains_iff_mem.1 h11
 ·have:=h9 e he
  simp only [Bool.and_eq_true] at this;exact sortB_iff _ (fun x y h=>by simpa using h) _ this.1.1
 ·have:=h7 e he
  rw [List.any_eq_true] at this;obtain⟨s,hs,h⟩:=this;rw [Bool.and_eq_true] at h;exact⟨s,hs,(nextB_iff _ _ _ _).1 h.1,of_decide_eq_true h.2⟩
end Go.Hp
