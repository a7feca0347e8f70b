/- Texts for the walk of the law: PN UA UB LV UC. -/
import Derived.Test.YtihpoboahbpaiaaGreatQ37
set_option maxRecDepth 100000
set_option maxHeartbeats 16000000
set_option linter.unusedVariables false
set_option linter.unusedSimpArgs false
namespace Go.Hp
open Go Go.RowKit
theorem Heap.pcallN {w0 w wr w':World} {H:List Chunk} {F S S':Nat→Prop} (hS:Heap w0 w (.frz F wr::H)) (h0:w0.drawn=0) (hF:∀ k,S k→F k) (hq:Pure (nd w) S w' S'):∃ F',(∀ k,S' k→F' k)∧(∀ k,F k→F' k)∧Heap w0 w' (.frz F' w'::H):=by
 have hb:Below w.heap.size w w':=⟨hq.below.os,hq.below.tape,hq.below.output,hq.below.size,hq.below.block⟩;obtain⟨F',h1,h2,h3⟩:=hS.pcallD h0 hb;exact⟨F',fun k hk=>(hq.new k hk).elim (fun h=>h1 k (hF k h)) (fun h=>h2 k h),h1,h3⟩
theorem Pure.transN {w0 w w':World} {S0 S S':Nat→Prop} (h:Pure w0 S0 w S) (h0:w0.drawn=0) (hq:Pure (nd w) S w' S'):Pure w0 S0 w' S':=by
 have hb:Below w.heap.size w w':=⟨hq.below.os,hq.below.tape,hq.below.output,hq.below.size,hq.below.block⟩;refine⟨h.below.trans (hb.mono h.below.size),by rw [h0];exact Nat.zero_le _,fun k hk=>hq.sub k (h.sub k hk),fun k hk=>?_⟩
 rcases hq.new k hk with h1|h1
 ·rcases h.new k h1 with h2|h2
  ·exact .inl h2
  ·exact .inr ⟨h2.1,Nat.lt_of_lt_of_le h2.2 hb.size⟩
 ·exact .inr ⟨Nat.le_trans h.below.size h1.1,h1.2⟩
theorem Pure.below0 {w w':World} {S S':Nat→Prop} (hq:Pure (nd w) S w' S'):Below w.heap.size w w':=⟨hq.below.os,hq.below.tape,hq.below.output,hq.below.size,hq.below.block⟩
end Go.Hp
namespace Go.Proofs
open Go.RowKit Go.Hp
theorem rows_cell {w:World} {S:Nat→Prop} {v:Value} {I:List (List Nat)} (h:RowsOf w S v I) {i:Nat} (hi:i<I.length):∃ (R:List (Option Addr × Nat × Nat)) (ad:Option Addr) (n c:Nat),SlC w S 1 v I.length (R.map sv)∧((R.map sv).drop (i*1)).take 1=[.slice ad n c]∧Nats w S (.slice ad n c) (nth [] I i)∧n=(nth [] I i).length:=by
 obtain⟨R,h1,h2,h3⟩:=h;have h4:=h3 i hi;have hr:i<R.length:=by omega
 refine⟨R,(nth (none,0,0) R i).1,(nth (none,0,0) R i).2.1,(nth (none,0,0) R i).2.2,h2,?_,h4,Nats.len h4⟩;rw [Nat.mul_one,nth_eq _ _ _ hr,List.drop_eq_getElem_cons (by simpa using hr)];simp [sv]
end Go.Proofs
namespace Go.Hp
open Go
structure Prim (d:Gp):Prop where
 lex:0<d.x∨(d.x=0∧0<d.y)
 cop:Int.gcd d.x d.y=1
theorem gcd_dvd {a b c:Int} (h:a ∣ b*c) (hg:Int.gcd a b=1):a ∣ c:=by
 have h1:a.natAbs ∣ b.natAbs*c.natAbs:=by rw [← Int.natAbs_mul];exact Int.natAbs_dvd_natAbs.2 h
 have h2:Nat.Coprime a.natAbs b.natAbs:=hg;exact Int.natAbs_dvd_natAbs.1 (h2.dvd_of_dvd_mul_left h1)
theorem Prim.eq {d e:Gp} (hd:Prim d) (he:Prim e) (h:d.x*e.y=d.y*e.x):d=e:=by
 obtain⟨a,b⟩:=d;obtain⟨p,q⟩:=e;have l1:=hd.lex;have l2:=he.lex;have c1:=hd.cop;have c2:=he.cop;simp only at *;have h1:a ∣ p:=gcd_dvd (b:=b) ⟨q,h.symm⟩ c1;have h2:p ∣ a:=gcd_dvd (b:=q) ⟨b,by rw [Int.mul_comm q a,h,Int.mul_comm]⟩ c2
 have e1:a=p:=by
  have n1:=Int.natAbs_dvd_natAbs.2 h1;have n2:=Int.natAbs_dvd_natAbs.2 h2;have:=Nat.dvd_antisymm n1 n2;omega
 subst e1
 by_cases h0:a=0
 ·subst h0
  rw [Int.gcd_zero_left] at c1 c2;have:b=q:=by omega
  rw [this]
 ·have:q=b:=Int.eq_of_mul_eq_mul_left h0 (by rw [h,Int.mul_comm])
  rw [this]
theorem dirZ_spec {s:Sz} (hne:s.a≠s.b):Prim (dirZ s)∧∃ k:Int,k≠0∧s.b.x - s.a.x=k*(dirZ s).x∧s.b.y - s.a.y=k*(dirZ s).y:=by
 have hne2:¬ (s.b.x - s.a.x=0∧s.b.y - s.a.y=0):=fun h=>hne (by
  obtain⟨⟨ax,ay⟩,⟨bx,by'⟩⟩:=s;simp only at h;simp only [Gp.mk.injEq];omega)
 unfold dirZ;generalize s.b.x - s.a.x=dx at *;generalize s.b.y - s.a.y=dy at *
 have hg:0<Int.gcd dx dy:=by
  rcases Nat.eq_zero_or_pos (Int.gcd dx dy) with h|h
  ·exact absurd (Int.gcd_eq_zero_iff.1 h) hne2
  ·exact h
 have d1:((Int.gcd dx dy:Nat):Int) ∣ dx:=Int.gcd_dvd_left dx dy;have d2:((Int.gcd dx dy:Nat):Int) ∣ dy:=Int.gcd_dvd_right dx dy;have hc:=Int.gcd_ediv_gcd_ediv_gcd hg;rw [Int.tdiv_eq_ediv_of_dvd d1,Int.tdiv_eq_ediv_of_dvd d2];have e1:dx=(Int.gcd dx dy:Nat)*(dx / (Int.gcd dx dy:Nat)):=(Int.mul_ediv_cancel' d1).symm;have e2:dy=(Int.gcd dx dy:Nat)*(dy / (Int.gcd dx dy:Nat)):=(Int.mul_ediv_cancel' d2).symm;generalize hG:((Int.gcd dx dy:Nat):Int)=g at *;have hgp:0<g:=by rw [← hG];omega
 generalize dx / g=u at *;generalize dy / g=v at *;clear hG hg d1 d2;subst e1 e2
 have hx0:∀ x:Int,g*x<0↔x<0:=fun x=>by
  constructor
  ·intro h;exact Classical.byContradiction fun hn=>by
    have:=Int.mul_nonneg (Int.le_of_lt hgp) (Int.not_lt.1 hn);omega
  ·intro h;exact Int.mul_neg_of_pos_of_neg hgp h
 have hz0:∀ x:Int,g*x=0↔x=0:=fun x=>by
  rw [Int.mul_eq_zero];omega
 simp only [hx0,hz0];simp only [hz0] at hne2
 by_cases h:u<0∨(u=0∧v<0)
 ·rw [if_pos h]
  refine⟨⟨by simp only;omega,by simp only [Int.gcd_neg,Int.neg_gcd];exact hc⟩,-g,by omega,?_,?_⟩ <;> simp only [Int.neg_mul_neg]
 ·rw [if_neg h]
  exact⟨⟨by simp only;omega,hc⟩,g,by omega,rfl,rfl⟩
theorem dirZ_rat {s:Sz} (hne:s.a≠s.b):∃ k:Rat,k≠0∧s.sg.b.x - s.sg.a.x=k*((dirZ s).x:Rat)∧s.sg.b.y - s.sg.a.y=k*((dirZ s).y:Rat):=by
 obtain⟨_,k,h0,h1,h2⟩:=dirZ_spec hne;refine⟨(k:Rat),fun h=>h0 (Rat.intCast_inj.1 (by simpa using h)),?_,?_⟩
 ·have:=congrArg (Int.cast:Int→Rat) h1
  rw [Rat.intCast_sub,Rat.intCast_mul] at this;exact this
 ·have:=congrArg (Int.cast:Int→Rat) h2
  rw [Rat.intCast_sub,Rat.intCast_mul] at this;exact this
theorem rat_cancel {k a b:Rat} (hk:k≠0) (h:k*a=k*b):a=b:=by
 have:k*(a - b)=0:=by grind
 rcases Rat.mul_eq_zero.1 this with h|h
 ·exact absurd h hk
 ·grind
theorem onS_dir {s:Sz} (hne:s.a≠s.b) {p q:Pt} (hp:onS s.sg p) (hq:onS s.sg q):((dirZ s).x:Rat)*(q.y - p.y)=((dirZ s).y:Rat)*(q.x - p.x):=by
 obtain⟨k,h0,h1,h2⟩:=dirZ_rat hne;have a1:=hp.1;have a2:=hq.1;unfold area at a1 a2;rw [h1,h2] at a1 a2;refine rat_cancel h0 ?_
 grind
theorem Prim.nz {d:Gp} (h:Prim d):(0:Rat)<(d.x:Rat)∨((d.x:Rat)=0∧(0:Rat)<(d.y:Rat)):=by
 rcases h.lex with h|⟨h1,h2⟩
 ·exact .inl (Rat.intCast_pos.2 h)
 ·exact .inr ⟨by rw [h1];rfl,Rat.intCast_pos.2 h2⟩
theorem onS_by {s:Sz} (hne:s.a≠s.b) {p q:Pt} (hp:onS s.sg p) (hq:onS s.sg q) (hl:p.lt q):∃ t:Rat,0<t∧q.x - p.x=t*((dirZ s).x:Rat)∧q.y - p.y=t*((dirZ s).y:Rat):=by
 have h:=onS_dir hne hp hq;have hn:=(dirZ_spec hne).1.nz;generalize ((dirZ s).x:Rat)=u at *;generalize ((dirZ s).y:Rat)=v at *;unfold Pt.lt at hl
 rcases hn with hu|⟨hu,hv⟩
 ·have hu0:u≠0:=by grind
  have hm:u*((q.x - p.x) / u)=q.x - p.x:=by rw [Rat.mul_comm,Rat.div_mul_cancel hu0]
  have hmy:u*(q.y - p.y)=u*((q.x - p.x) / u*v):=by grind
  have hy:=rat_cancel hu0 hmy;refine⟨(q.x - p.x) / u,?_,by grind,hy⟩
  rcases hl with hl|⟨hl,hl2⟩
  ·exact rpos_of hu (by rw [hm];grind)
  ·exfalso
   have:q.x - p.x=0:=by grind
   rw [this] at hy
   grind
 ·subst hu
  have hv0:v≠0:=by grind
  have hx:v*(q.x - p.x)=v*0:=by grind
  have hx0:=rat_cancel hv0 hx;have hm:v*((q.y - p.y) / v)=q.y - p.y:=by rw [Rat.mul_comm,Rat.div_mul_cancel hv0]
  refine⟨(q.y - p.y) / v,?_,by grind,by grind⟩
  rcases hl with hl|⟨hl,hl2⟩
  ·grind
  ·exact rpos_of hv (by rw [hm];grind)
theorem onS_convex {s:Sg} {p q r:Pt} {l:Rat} (hp:onS s p) (hq:onS s q) (h0:0≤l) (h1:l≤1) (hx:r.x=p.x+l*(q.x - p.x)) (hy:r.y=p.y+l*(q.y - p.y)):onS s r:=by
 obtain⟨a1,b1,b2,b3,b4⟩:=hp;obtain⟨a2,c1,c2,c3,c4⟩:=hq
 have key:∀ m M x y:Rat,m≤x→x≤M→m≤y→y≤M→m≤x+l*(y - x)∧x+l*(y - x)≤M:=fun m M x y g1 g2 g3 g4=>by
  have k1:=rmul_nn h0 (show 0≤y - m by grind);have k2:=rmul_nn (show 0≤1 - l by grind) (show 0≤x - m by grind);have k3:=rmul_nn h0 (show 0≤M - y by grind);have k4:=rmul_nn (show 0≤1 - l by grind) (show 0≤M - x by grind)
  constructor <;> grind
 have e1:=key _ _ _ _ b1 b2 c1 c2;have e2:=key _ _ _ _ b3 b4 c3 c4;refine⟨?_,by rw [hx];exact e1.1,by rw [hx];exact e1.2,by rw [hy];exact e2.1,by rw [hy];exact e2.2⟩;unfold area at *;rw [hx,hy]
 grind
theorem dirZ_eq {s t:Sz} (hs:s.a≠s.b) (ht:t.a≠t.b) {p q:Pt} (hp:onS s.sg p) (hq:onS s.sg q) (hp':onS t.sg p) (hq':onS t.sg q) (hl:p.lt q):dirZ s=dirZ t:=by
 obtain⟨a,ha,hax,hay⟩:=onS_by hs hp hq hl;obtain⟨b,hb,hbx,hby⟩:=onS_by ht hp' hq' hl;refine (dirZ_spec hs).1.eq (dirZ_spec ht).1 ?_
 have h1:((dirZ s).x:Rat)*((dirZ t).y:Rat)=((dirZ s).y:Rat)*((dirZ t).x:Rat):=by
  have hb0:a*b≠0:=by have:=rmul_pos ha hb;grind
  refine rat_cancel hb0 ?_;generalize ((dirZ s).x:Rat)=u at *;generalize ((dirZ s).y:Rat)=v at *;generalize ((dirZ t).x:Rat)=u' at *;generalize ((dirZ t).y:Rat)=v' at *;have e1:a*u=b*u':=by rw [← hax,← hbx]
  have e2:a*v=b*v':=by rw [← hay,← hby]
  grind
 rw [← Rat.intCast_mul,← Rat.intCast_mul] at h1;exact Rat.intCast_inj.1 h1
end Go.Hp
namespace Go.Hp
open Go
theorem lt_at {V:List Pt} (hV:V.Pairwise Pt.lt) {u v:Nat} {p q:Pt} (hp:V[u]? = some p) (hq:V[v]? = some q) (h:u<v):p.lt q:=by
 obtain⟨a1,a2⟩:=List.getElem?_eq_some_iff.1 hp;obtain⟨b1,b2⟩:=List.getElem?_eq_some_iff.1 hq;have:=List.pairwise_iff_getElem.1 hV u v a1 b1 h
 rwa [a2,b2] at this
theorem ArrP.unique {os:List Sz} {gs:List Gp} {V V':List Pt} {es es':List Ed} (hos:∀ t ∈ os,t.a≠t.b) (h:ArrP os gs V es) (h':ArrP os gs V' es'):V=V'∧es=es':=by
 obtain⟨e1,e2⟩:=h.arr.unique h'.arr;subst e1;refine⟨rfl,?_⟩;have hl:es.length=es'.length:=by simpa using congrArg List.length e2
 apply List.ext_getElem hl;intro i h1 h2
 have e3:(es[i].a,es[i].b)=(es'[i].a,es'[i].b):=by
  have:=congrArg (fun l=>l[i]?) e2
  simpa [h1,h2] using this
 have m1:=List.getElem_mem h1;have m2:=List.getElem_mem h2;generalize es[i]=e at *;generalize es'[i]=e' at *;rw [Prod.mk.injEq] at e3;obtain⟨ea,eb⟩:=e3
 have hof:e.of=e'.of:=by
  refine sorted_ext (lt:=(· < ·)) (fun x=>Nat.lt_irrefl x) (fun a b=>Nat.lt_trans a b) (h.ofs _ m1) (h'.ofs _ m2) (fun k=>?_);rw [h.of _ m1,h'.of _ m2,ea,eb]
 have hdir:e.dir=e'.dir:=by
  obtain⟨s,hs,hn,hd⟩:=h.dir _ m1;obtain⟨t,ht,hn',hd'⟩:=h'.dir _ m2;rw [hd,hd'];rw [← ea,← eb] at hn';obtain⟨huv,p,q,hp,hq,op,oq,_⟩:=hn;obtain⟨_,p',q',hp',hq',op',oq',_⟩:=hn';rw [hp] at hp';cases hp';rw [hq] at hq';cases hq';exact dirZ_eq (hos s hs) (hos t ht) op oq op' oq' (lt_at h.arr.sv hp hq huv)
 obtain⟨a,b,o,d⟩:=e;obtain⟨a',b',o',d'⟩:=e';simp only at ea eb hof hdir;rw [ea,eb,hof,hdir]
theorem ArrP.edge {os:List Sz} {gs:List Gp} {V:List Pt} {es:List Ed} (h:ArrP os gs V es) (hos:∀ t ∈ os,t.a≠t.b) {e:Ed} (he:e ∈ es):e.a<e.b∧e.b<V.length∧Prim e.dir∧∃ s ∈ os,nextOn V s.sg e.a e.b∧e.dir=dirZ s:=by
 obtain⟨h1,h2⟩:=h.arr.lt (List.mem_map.2 ⟨e,he,rfl⟩);obtain⟨s,hs,hn,hd⟩:=h.dir e he;exact⟨h1,h2,by rw [hd];exact (dirZ_spec (hos s hs)).1,s,hs,hn,hd⟩
theorem ArrP.pair_inj {os:List Sz} {gs:List Gp} {V:List Pt} {es:List Ed} (h:ArrP os gs V es) {i j:Nat} (hi:i<es.length) (hj:j<es.length) (ha:(nth ed0 es i).a=(nth ed0 es j).a) (hb:(nth ed0 es i).b=(nth ed0 es j).b):i=j:=by
 have hp:=List.pairwise_map.1 h.arr.se;rw [nth_eq _ _ _ hi,nth_eq _ _ _ hj] at ha hb
 rcases Nat.lt_trichotomy i j with hij|hij|hij
 ·have:=List.pairwise_iff_getElem.1 hp i j hi hj hij
  unfold ltE at this;simp only at this;omega
 ·exact hij
 ·have:=List.pairwise_iff_getElem.1 hp j i hj hi hij
  unfold ltE at this;simp only at this;omega
theorem lex_pos {u v t:Rat} {p q:Pt} (hn:0<u∨(u=0∧0<v)) (hl:p.lt q) (hx:q.x - p.x=t*u) (hy:q.y - p.y=t*v):0<t:=by
 unfold Pt.lt at hl
 rcases hn with hu|⟨rfl,hv⟩
 ·rcases hl with hl|⟨hl,hl2⟩
  ·exact rpos_of hu (by grind)
  ·exfalso
   have h0:t*u=0:=by grind
   rcases Rat.mul_eq_zero.1 h0 with h|h <;> grind
 ·rcases hl with hl|⟨hl,hl2⟩
  ·grind
  ·exact rpos_of hv (by grind)
theorem fwd_apart {V:List Pt} (hV:V.Pairwise Pt.lt) {s t:Sz} (hs:s.a≠s.b) (ht:t.a≠t.b) {v b c:Nat} (h1:nextOn V s.sg v b) (h2:nextOn V t.sg v c) (hd:dirZ s=dirZ t) (hbc:b<c):False:=by
 obtain⟨huv,p,q,hp,hq,op,oq,_⟩:=h1;obtain⟨huv',p',r,hp',hr,op',or',hno⟩:=h2;rw [hp] at hp';cases hp';have hqr:=lt_at hV hq hr hbc;obtain⟨a,ha,hax,hay⟩:=onS_by hs op oq (lt_at hV hp hq huv);obtain⟨b',hb,hbx,hby⟩:=onS_by ht op' or' (lt_at hV hp hr huv');have hn:=(dirZ_spec ht).1.nz;rw [hd] at hax hay;have hab:=lex_pos (t:=b' - a) hn hqr (by grind) (by grind);have hb0:b'≠0:=by grind
 have hm:a / b'*b'=a:=Rat.div_mul_cancel hb0;refine hno b q huv hbc hq (onS_convex (l:=a / b') op' or' ?_ ?_ ?_ ?_)
 ·have:0<a / b':=rpos_of hb (by rw [Rat.mul_comm,hm];exact ha)
  grind
 ·have:0<1 - a / b':=rpos_of hb (by grind)
  grind
 ·grind
 ·grind
theorem bwd_apart {V:List Pt} (hV:V.Pairwise Pt.lt) {s t:Sz} (hs:s.a≠s.b) (ht:t.a≠t.b) {v b c:Nat} (h1:nextOn V s.sg b v) (h2:nextOn V t.sg c v) (hd:dirZ s=dirZ t) (hbc:b<c):False:=by
 obtain⟨huv,p,q,hp,hq,op,oq,hno⟩:=h1;obtain⟨huv',r,q',hr,hq',or',oq',_⟩:=h2;rw [hq] at hq';cases hq';have hpr:=lt_at hV hp hr hbc;obtain⟨a,ha,hax,hay⟩:=onS_by hs op oq (lt_at hV hp hq huv);obtain⟨b',hb,hbx,hby⟩:=onS_by ht or' oq' (lt_at hV hr hq huv');have hn:=(dirZ_spec hs).1.nz;rw [← hd] at hbx hby;have hab:=lex_pos (t:=a - b') hn hpr (by grind) (by grind);have ha0:a≠0:=by grind
 have hm:(a - b') / a*a=a - b':=Rat.div_mul_cancel ha0;refine hno c r hbc huv' hr (onS_convex (l:=(a - b') / a) op oq ?_ ?_ ?_ ?_)
 ·have:0<(a - b') / a:=rpos_of ha (by rw [Rat.mul_comm,hm];exact hab)
  grind
 ·have:0<1 - (a - b') / a:=rpos_of ha (by grind)
  grind
 ·grind
 ·grind
theorem turn_zero {a b:Gp} (h1:¬ turnZ a b<0) (h2:¬ turnZ b a<0):halfZ a=halfZ b∧a.x*b.y=a.y*b.x:=by
 unfold turnZ sgnZ at h1 h2
 by_cases h:halfZ a=halfZ b
 ·rw [if_pos h] at h1
  rw [if_pos h.symm] at h2;refine⟨h,?_⟩;have e:b.x*a.y - b.y*a.x = -(a.x*b.y - a.y*b.x):=by grind
  rw [e] at h2
  have hz:a.x*b.y - a.y*b.x=0:=by
   generalize a.x*b.y - a.y*b.x=z at *
   split at h1 <;> split at h2 <;> (try split at h1) <;> (try split at h2) <;> omega
  omega
 ·exfalso
  rw [if_neg h] at h1;rw [if_neg (fun e=>h e.symm)] at h2
  split at h1 <;> split at h2 <;> omega
theorem half_neg {d:Gp} (h:Prim d):halfZ d≠halfZ ⟨-d.x,-d.y⟩:=by
 have:=h.lex;unfold halfZ;simp only
 split <;> split <;> omega
end Go.Hp
namespace Go.Proofs
open Go.RowKit Go.Hp
theorem crs_even {es:List Ed} {h:Nat} (e:h % 2=0):crsZ es h=(nth ed0 es (h / 2)).dir:=by unfold crsZ;rw [if_neg (by omega)]
theorem crs_odd {es:List Ed} {h:Nat} (e:h % 2=1):crsZ es h=⟨-(nth ed0 es (h / 2)).dir.x,-(nth ed0 es (h / 2)).dir.y⟩:=by unfold crsZ;rw [if_pos e]
theorem turn_anti {os:List Sz} {gs:List Gp} {V:List Pt} {es:List Ed} (hA:ArrP os gs V es) (hos:∀ t ∈ os,t.a≠t.b) {v g k:Nat} (hg:g ∈ outs es v) (hk:k ∈ outs es v) (h1:¬ turnZ (crsZ es k) (crsZ es g)<0) (h2:¬ turnZ (crsZ es g) (crsZ es k)<0):g=k:=by
 have hne:∀ e ∈ es,e.a≠e.b:=fun e he=>by have:=(hA.edge hos he).1;omega
 obtain⟨gl,go⟩:=(mem_outsTo (Nat.le_refl _) hne).1 hg;obtain⟨kl,ko⟩:=(mem_outsTo (Nat.le_refl _) hne).1 hk;obtain⟨hh,hc⟩:=turn_zero h1 h2;obtain⟨_,_,p1,s,hs,n1,d1⟩:=hA.edge hos (nth_mem ed0 es _ gl);obtain⟨_,_,p2,t,ht,n2,d2⟩:=hA.edge hos (nth_mem ed0 es _ kl);have inj:=@ArrP.pair_inj os gs V es hA (g / 2) (k / 2) gl kl;have fwd:=fun {v b c}=>@fwd_apart V hA.arr.sv s t (hos s hs) (hos t ht) v b c
 have fwd':=fun {v b c}=>@fwd_apart V hA.arr.sv t s (hos t ht) (hos s hs) v b c
 have bwd:=fun {v b c}=>@bwd_apart V hA.arr.sv s t (hos s hs) (hos t ht) v b c
 have bwd':=fun {v b c}=>@bwd_apart V hA.arr.sv t s (hos t ht) (hos s hs) v b c
 unfold orgE at go ko
 rcases Nat.mod_two_eq_zero_or_one g with eg|eg <;> rcases Nat.mod_two_eq_zero_or_one k with ek|ek
 ·rw [if_pos eg] at go
  rw [if_pos ek] at ko;rw [crs_even eg,crs_even ek] at hc;have hd:(nth ed0 es (g / 2)).dir=(nth ed0 es (k / 2)).dir:=p1.eq p2 (by grind);rw [go] at n1;rw [ko] at n2;have hde:dirZ s=dirZ t:=by rw [← d1,← d2,hd]
  have hb:(nth ed0 es (g / 2)).b=(nth ed0 es (k / 2)).b:=by
   rcases Nat.lt_trichotomy (nth ed0 es (g / 2)).b (nth ed0 es (k / 2)).b with h|h|h
   ·exact (fwd n1 n2 hde h).elim
   ·exact h
   ·exact (fwd' n2 n1 hde.symm h).elim
  have:=inj (go.trans ko.symm) hb;omega
 ·exfalso
  rw [crs_even eg,crs_odd ek] at hc hh;have hd:(nth ed0 es (g / 2)).dir=(nth ed0 es (k / 2)).dir:=p1.eq p2 (by simp only at hc;grind);rw [hd] at hh;exact half_neg p2 hh.symm
 ·exfalso
  rw [crs_odd eg,crs_even ek] at hc hh;have hd:(nth ed0 es (g / 2)).dir=(nth ed0 es (k / 2)).dir:=p1.eq p2 (by simp only at hc;grind);rw [hd] at hh;exact half_neg p2 hh
 ·rw [if_neg (by omega)] at go
  rw [if_neg (by omega)] at ko;rw [crs_odd eg,crs_odd ek] at hc;have hd:(nth ed0 es (g / 2)).dir=(nth ed0 es (k / 2)).dir:=p1.eq p2 (by simp only at hc;grind);rw [go] at n1;rw [ko] at n2;have hde:dirZ s=dirZ t:=by rw [← d1,← d2,hd]
  have ha:(nth ed0 es (g / 2)).a=(nth ed0 es (k / 2)).a:=by
   rcases Nat.lt_trichotomy (nth ed0 es (g / 2)).a (nth ed0 es (k / 2)).a with h|h|h
   ·exact (bwd n1 n2 hde h).elim
   ·exact h
   ·exact (bwd' n2 n1 hde.symm h).elim
  have:=inj ha (go.trans ko.symm);omega
theorem AroundL.unique {os:List Sz} {gs:List Gp} {V:List Pt} {es:List Ed} (hA:ArrP os gs V es) (hos:∀ t ∈ os,t.a≠t.b) {v:Nat} {l l':List Nat} (h:AroundL es v l) (h':AroundL es v l'):l=l' :=
 List.Perm.eq_of_pairwise (fun a b ha hb r1 r2=>turn_anti hA hos ((h.perm.mem_iff).1 ha) ((h'.perm.mem_iff).1 hb) r1 r2) h.sorted h'.sorted (h.perm.trans h'.perm.symm)
end Go.Proofs
namespace Go.Hp
open Go
def nextB (V:List Pt) (s:Sg) (u v:Nat):Bool:=decide (u<v) && decide (v<V.length) && decide (onS s (nth pt0 V u)) && decide (onS s (nth pt0 V v)) && (List.range v).all fun w=>decide (w≤u) || !decide (onS s (nth pt0 V w))
theorem nextB_iff (V:List Pt) (s:Sg) (u v:Nat):nextB V s u v=true↔nextOn V s u v:=by
 unfold nextB nextOn;simp only [Bool.and_eq_true,decide_eq_true_eq,List.all_eq_true,List.mem_range,Bool.or_eq_true,Bool.not_eq_true',decide_eq_false_iff_not]
 constructor
 ·rintro⟨⟨⟨⟨h1,h2⟩,h3⟩,h4⟩,h5⟩
  refine⟨h1,nth pt0 V u,nth pt0 V v,?_,?_,h3,h4,fun w r h6 h7 hw=>?_⟩
  ·rw [nth_eq _ _ _ (by omega)];exact List.getElem?_eq_getElem _
  ·rw [nth_eq _ _ _ h2];exact List.getElem?_eq_getElem _
  ·obtain⟨hl,rfl⟩:=List.getElem?_eq_some_iff.1 hw
   rcases h5 w h7 with h|h
   ·omega
   ·rw [nth_eq _ _ _ hl] at h;exact h
 ·rintro⟨h1,p,q,hp,hq,op,oq,hno⟩
  obtain⟨hu,rfl⟩:=List.getElem?_eq_some_iff.1 hp;obtain⟨hv,rfl⟩:=List.getElem?_eq_some_iff.1 hq;refine⟨⟨⟨⟨h1,hv⟩,by rw [nth_eq _ _ _ hu];exact op⟩,by rw [nth_eq _ _ _ hv];exact oq⟩,fun w hw=>?_⟩
  by_cases h6:w≤u
  ·exact .inl h6
  ·right
   rw [nth_eq _ _ _ (by omega)];exact hno w _ (by omega) hw (List.getElem?_eq_getElem (by omega))
def sortB {α:Type} (lt:α→α→Bool):List α→Bool
 | []=>true
 | x::l=>l.all (lt x) && sortB lt l
theorem sortB_iff {α:Type} {R:α→α→Prop} (lt:α→α→Bool) (h:∀ x y,lt x y=true→R x y):∀ l,sortB lt l=true→l.Pairwise R
 | [],_=>List.Pairwise.nil
 | x::l,hl=>by
  unfold sortB at hl;rw [Bool.and_eq_true,List.all_eq_true] at hl;exact List.pairwise_cons.2 ⟨fun y hy=>h x y (hl.1 y hy),sortB_iff lt h l hl.2⟩
def arrB (os:List Sz) (gs:List Gp) (V:List Pt) (es:List Ed):Bool :=
 sortB (fun p q:Pt=>decide (p.lt q)) V &&
 V.all (fun p=>(gs.map Gp.pt).contains p || os.any fun s=>decide (p=s.sg.a) || decide (p=s.sg.b)) &&
 (gs.map Gp.pt).all (fun p=>V.contains p) && os.all (fun s=>V.contains s.sg.a && V.contains s.sg.b) &&
 os.all (fun s=>os.all fun t=>decide (s=t) || (cutsL s.sg t.sg).all fun p=>V.contains p) &&
 sortB (fun x y:Nat × Nat=>decide (x.1<y.1) || (decide (x.1=y.1) && decide (x.2<y.2))) (es.map fun e=>(e.a,e.b)) &&
 es.all (fun e=>os.any fun s=>nextB V s.sg e.a e.b && decide (e.dir=dirZ s)) &&
 os.all (fun s=>(List.range V.length).all fun u=>(List.range V.length).all fun v=>!nextB V s.sg u v || (es.map fun e=>(e.a,e.b)).contains (u,v)) &&
 es.all (fun e=>sortB (fun x y:Nat=>decide (x<y)) e.of && e.of.all (fun i=>decide (i<os.length)) && (List.range os.length).all fun i=>e.of.contains i == nextB V (nth s0 os i).sg e.a e.b) &&
 sortB (fun s t:Sz=>!decide (s=t)) os
theorem arrB_ok {os:List Sz} {gs:List Gp} {V:List Pt} {es:List Ed} (h:arrB os gs V es=true):ArrP os gs V es:=by
 unfold arrB at h;simp only [Bool.and_eq_true] at h;obtain⟨⟨⟨⟨⟨⟨⟨⟨⟨h1,h2⟩,h3⟩,h4⟩,h5⟩,h6⟩,h7⟩,h8⟩,h9⟩,h10⟩:=h;have hnd:os.Pairwise (fun s t=>s≠t):=sortB_iff _ (fun x y h=>by simpa using h) os h10;have hV:V.Pairwise Pt.lt:=sortB_iff _ (fun x y h=>by simpa using h) V h1;rw [List.all_eq_true] at h2 h3 h4 h5 h7 h8 h9;have hat:∀ i s,os[i]? = some s→s ∈ os:=fun i s h=>List.mem_of_getElem? h
 refine⟨⟨hV,fun p=>⟨fun hp=>?_,fun hp=>?_⟩,sortB_iff _ (fun x y h=>by unfold ltE;simpa using h) _ h6,fun u v=>⟨fun he=>?_,fun he=>?_⟩⟩,fun e he i=>?_,fun e he=>?_,fun e he=>?_⟩
 ·have:=h2 p hp
  rw [Bool.or_eq_true,List.contains_iff_mem,List.any_eq_true] at this
  rcases this with h|⟨s,hs,h⟩
  ·exact .inl h
  ·refine .inr (.inl ⟨s.sg,List.mem_map.2 ⟨s,hs,rfl⟩,?_⟩)
   simpa using h
 ·rcases hp with h|⟨t,ht,h⟩|⟨i,j,s,t,hij,hi,hj,hc⟩
  ·exact List.contains_iff_mem.1 (h3 p h)
  ·obtain⟨s,hs,rfl⟩:=List.mem_map.1 ht
   have:=h4 s hs;rw [Bool.and_eq_true,List.contains_iff_mem,List.contains_iff_mem] at this
   rcases h with rfl|rfl
   ·exact this.1
   ·exact this.2
  ·rw [List.getElem?_map] at hi hj
   obtain⟨s',hs',rfl⟩:=Option.map_eq_some_iff.1 hi;obtain⟨t',ht',rfl⟩:=Option.map_eq_some_iff.1 hj;have h11:=h5 s' (hat _ _ hs');rw [List.all_eq_true] at h11;have h12:=h11 t' (hat _ _ ht');rw [Bool.or_eq_true] at h12
   rcases h12 with h12|h12
   ·exfalso
    have e:=of_decide_eq_true h12;subst e;obtain⟨a1,a2⟩:=List.getElem?_eq_some_iff.1 hs';obtain⟨b1,b2⟩:=List.getElem?_eq_some_iff.1 ht'
    rcases Nat.lt_trichotomy i j with h|h|h
    ·exact List.pairwise_iff_getElem.1 hnd i j a1 b1 h (a2.trans b2.symm)
    ·exact hij h
    ·exact List.pairwise_iff_getElem.1 hnd j i b1 a1 h (b2.trans a2.symm)
   ·rw [List.all_eq_true] at h12
    exact List.contains_iff_mem.1 (h12 p ((cuts_iff _ _ _).2 hc))
 ·obtain⟨e,hm,hp⟩:=List.mem_map.1 he
  rw [Prod.mk.injEq] at hp;obtain⟨rfl,rfl⟩:=hp;have:=h7 e hm;rw [List.any_eq_true] at this;obtain⟨s,hs,h⟩:=this;rw [Bool.and_eq_true] at h;exact⟨s.sg,List.mem_map.2 ⟨s,hs,rfl⟩,(nextB_iff _ _ _ _).1 h.1⟩
 ·obtain⟨t,ht,hn⟩:=he
  obtain⟨s,hs,rfl⟩:=List.mem_map.1 ht;have h11:=h8 s hs;rw [List.all_eq_true] at h11;obtain⟨huv,p,q,hp,hq,_⟩:=id hn;have hu:=(List.getElem?_eq_some_iff.1 hp).1;have hv:=(List.getElem?_eq_some_iff.1 hq).1;have h12:=h11 u (List.mem_range.2 hu);rw [List.all_eq_true] at h12;have h13:=h12 v (List.mem_range.2 hv);rw [Bool.or_eq_true] at h13
  rcases h13 with h|h
  ·rw [(nextB_iff _ _ _ _).2 hn] at h;cases h
  ·exact List.contains_iff_mem.1 h
 ·have:=h9 e he
  simp only [Bool.and_eq_true,List.all_eq_true,decide_eq_true_eq,List.mem_range,beq_iff_eq] at this;obtain⟨⟨_,g2⟩,g3⟩:=this
  constructor
  ·intro hi
   have hl:=g2 i hi;have h11:=g3 i hl;rw [List.contains_iff_mem.2 hi] at h11;exact⟨nth s0 os i,by rw [nth_eq _ _ _ hl];exact List.getElem?_eq_getElem _,(nextB_iff _ _ _ _).1 h11.symm⟩
  ·rintro⟨s,hs,hn⟩
   obtain⟨hl,rfl⟩:=List.getElem?_eq_some_iff.1 hs;have h11:=g3 i hl;rw [nth_eq _ _ _ hl,(nextB_iff _ _ _ _).2 hn] at h11;exact List.contains_iff_mem.1 h11
 ·have:=h9 e he
  simp only [Bool.and_eq_true] at this;exact sortB_iff _ (fun x y h=>by simpa using h) _ this.1.1
 ·have:=h7 e he
  rw [List.any_eq_true] at this;obtain⟨s,hs,h⟩:=this;rw [Bool.and_eq_true] at h;exact⟨s,hs,(nextB_iff _ _ _ _).1 h.1,of_decide_eq_true h.2⟩
end Go.Hp
namespace Go.Hp
open Go Go.RowKit
theorem flat_lenG {α β:Type} {f:α→List β} {k:Nat} (hk:∀ x,(f x).length=k) (l:List α):(l.flatMap f).length=l.length*k:=by
 induction l with
 | nil=>simp
 | cons a l ih=>rw [List.flatMap_cons,List.length_append,hk,ih,List.length_cons,Nat.add_mul];omega
def vList (os:List Sz) (gs:List Gp):List Pt:=gs.map Gp.pt++(os.flatMap (fun s=>[s.sg.a,s.sg.b])++os.flatMap (fun s=>os.map fun t=>crossing s.sg t.sg))
theorem vList_len (os:List Sz) (gs:List Gp):(vList os gs).length=gs.length+(os.length*2+os.length*os.length):=by
 unfold vList;rw [List.length_append,List.length_append,List.length_map,flat_lenG (k:=2) (fun s=>rfl),flat_lenG (k:=os.length) (fun s=>by simp) os]
theorem cut_cases {s t:Sg} {p:Pt} (h:isCut s t p):(det s t≠0∧p=crossing s t)∨p=s.a∨p=s.b∨p=t.a∨p=t.b:=by
 have h1:=(cuts_iff s t p).2 h;unfold cutsL at h1
 by_cases hd:det s t=0
 ·rw [if_neg (by simpa using hd),List.mem_filter] at h1
  right
  simpa using h1.1
 ·rw [if_pos hd] at h1
  split at h1
  ·exact .inl ⟨hd,by simpa using h1⟩
  ·cases h1
theorem vert_cases {os:List Sz} {gs:List Gp} {p:Pt} (h:isVert (os.map Sz.sg) (gs.map Gp.pt) p):(∃ g ∈ gs,p=g.pt)∨(∃ s ∈ os,p=s.a.pt∨p=s.b.pt)∨∃ s ∈ os,∃ t ∈ os,det s.sg t.sg≠0∧p=crossing s.sg t.sg:=by
 rcases h with h|⟨s,hs,h⟩|⟨i,j,s,t,hij,hi,hj,hc⟩
 ·obtain⟨g,hg,rfl⟩:=List.mem_map.1 h
  exact .inl ⟨g,hg,rfl⟩
 ·obtain⟨s',hs',rfl⟩:=List.mem_map.1 hs
  exact .inr (.inl ⟨s',hs',h⟩)
 ·obtain⟨s',hs',rfl⟩:=List.mem_map.1 (List.mem_of_getElem? hi)
  obtain⟨t',ht',rfl⟩:=List.mem_map.1 (List.mem_of_getElem? hj)
  rcases cut_cases hc with h|h|h|h|h
  ·exact .inr (.inr ⟨s',hs',t',ht',h⟩)
  ·exact .inr (.inl ⟨s',hs',.inl h⟩)
  ·exact .inr (.inl ⟨s',hs',.inr h⟩)
  ·exact .inr (.inl ⟨t',ht',.inl h⟩)
  ·exact .inr (.inl ⟨t',ht',.inr h⟩)
theorem ArrP.vlen {os:List Sz} {gs:List Gp} {V:List Pt} {es:List Ed} (h:ArrP os gs V es):V.length≤gs.length+(os.length*2+os.length*os.length):=by
 rw [← vList_len];refine List.Nodup.length_le_of_subset (h.arr.sv.imp (fun hlt e=>by subst e;exact Pt.lt_irrefl _ hlt)) (fun p hp=>?_);unfold vList;rw [List.mem_append,List.mem_append,List.mem_flatMap,List.mem_flatMap]
 rcases vert_cases ((h.arr.mv p).1 hp) with ⟨g,hg,rfl⟩|⟨s,hs,h⟩|⟨s,hs,t,ht,_,h⟩
 ·exact .inl (List.mem_map.2 ⟨g,hg,rfl⟩)
 ·refine .inr (.inl ⟨s,hs,?_⟩)
  rcases h with rfl|rfl
  ·exact List.mem_cons_self
  ·exact List.mem_cons_of_mem _ List.mem_cons_self
 ·exact .inr (.inr ⟨s,hs,List.mem_map.2 ⟨t,ht,h.symm⟩⟩)
theorem next_one {V:List Pt} {s:Sg} {u v v':Nat} (h:nextOn V s u v) (h':nextOn V s u v'):v=v':=by
 obtain⟨a1,p,q,a2,a3,a4,a5,a6⟩:=h;obtain⟨b1,p',q',b2,b3,b4,b5,b6⟩:=h'
 rcases Nat.lt_trichotomy v v' with hlt|hlt|hlt
 ·exact absurd a5 (b6 v q a1 hlt a3)
 ·exact hlt
 ·exact absurd b5 (a6 v' q' b1 hlt b3)
theorem ArrP.elen {os:List Sz} {gs:List Gp} {V:List Pt} {es:List Ed} (h:ArrP os gs V es):es.length≤os.length*V.length:=by
 have e1:es.length=(es.map fun e=>(e.a,e.b)).length:=by simp
 have e2:(os.flatMap fun s=>(List.range V.length).map fun u=>(u,((List.range V.length).find? fun v=>nextB V s.sg u v).getD 0)).length=os.length*V.length:=flat_lenG (k:=V.length) (fun s=>by simp) os;rw [e1,← e2];refine List.Nodup.length_le_of_subset (h.arr.se.imp (fun hlt e=>by subst e;exact ltE_irr _ hlt)) (fun p hp=>?_);obtain⟨u,v⟩:=p;obtain⟨s,hs,hn⟩:=(h.arr.me u v).1 hp;obtain⟨s',hs',rfl⟩:=List.mem_map.1 hs;rw [List.mem_flatMap];obtain⟨huv,p,q,hp1,hq1,_⟩:=id hn;have hv:=(List.getElem?_eq_some_iff.1 hq1).1;refine⟨s',hs',List.mem_map.2 ⟨u,List.mem_range.2 (by omega),?_⟩⟩;rw [Prod.mk.injEq];refine⟨rfl,?_⟩;cases hf:(List.range V.length).find? fun v=>nextB V s'.sg u v with
 | none =>
  have:=List.find?_eq_none.1 hf v (List.mem_range.2 hv);rw [(nextB_iff _ _ _ _).2 hn] at this;exact absurd rfl this
 | some v' =>
  have h1:=List.find?_some hf;exact (next_one hn ((nextB_iff _ _ _ _).1 h1)).symm
theorem ArrP.bq {os:List Sz} {gs:List Gp} {V:List Pt} {es:List Ed} (h:ArrP os gs V es) (hos:∀ t ∈ os,t.ok) (hgs:∀ g ∈ gs,g.ok):∀ p ∈ V,Bq 300 p.x∧Bq 300 p.y:=fun p hp=>by
 have hg:∀ g:Gp,g.ok→Bq 300 g.pt.x∧Bq 300 g.pt.y:=fun g hg=>by
  unfold Gp.ok okC at hg;have k1:Bq 33 (g.x:Rat):=Bq.int (by omega) (by omega);have k2:Bq 33 (g.y:Rat):=Bq.int (by omega) (by omega);exact⟨k1.mono (by omega),k2.mono (by omega)⟩
 rcases vert_cases ((h.arr.mv p).1 hp) with ⟨g,hgm,rfl⟩|⟨s,hs,h⟩|⟨s,hs,t,ht,hd,rfl⟩
 ·exact hg g (hgs g hgm)
 ·have hok:=hos s hs
  rcases h with rfl|rfl
  ·exact hg _ hok.1
  ·exact hg _ hok.2.1
 ·have h1:=hos s hs
  have h2:=hos t ht
  have hne:areaZ t.a t.b s.a≠areaZ t.a t.b s.b:=fun e=>hd (by
   rw [← area_det];have e1:area t.sg.a t.sg.b s.sg.a=(areaZ t.a t.b s.a:Rat):=areaZ_pt ..;have e2:area t.sg.a t.sg.b s.sg.b=(areaZ t.a t.b s.b:Rat):=areaZ_pt ..;rw [e1,e2,e];grind)
  obtain⟨a,b,_⟩:=crossing_bq ⟨h1.1,h1.2.1⟩ ⟨h2.1,h2.2.1⟩ hne;exact⟨a,b⟩
theorem ArrP.arrIn {w:World} {S:Nat→Prop} {os:List Sz} {gs:List Gp} {V:List Pt} {es:List Ed} {sg pt:Option Addr × Nat × Nat} {a3 a4:Option Addr} {n3 c3 n4 c4:Nat} (h:ArrP os gs V es) (hos:∀ t ∈ os,t.ok) (hgs:∀ g ∈ gs,g.ok) (hL:Liv w S) (hA:IsArr w S sg pt (a3,n3,c3) (a4,n4,c4) os gs V es) :
 ∃ rs prs,ArrIn w S a3 a4 n3 c3 n4 c4 rs es prs V 300:=by
 obtain⟨prs,h3⟩:=hA.vs;obtain⟨rs,h4,h5⟩:=hA.es;have hos2:∀ t ∈ os,t.a≠t.b:=fun t ht=>(hos t ht).2.2
 have hn3:n3=V.length:=by obtain⟨_,a,c,e,_⟩:=h3.sl;cases e;rfl
 have hn4:n4=es.length:=by obtain⟨_,a,c,e,_⟩:=h4;cases e;rfl
 refine⟨rs,prs,hL,h4,h5,h3,fun e he=>?_,h.bq hos hgs,hn3,hn4⟩;obtain⟨x1,x2,_⟩:=h.edge hos2 he;omega
end Go.Hp
namespace Go.Proofs
open Go.RowKit Go.Hp
theorem ArrP.dirs {os:List Sz} {gs:List Gp} {V:List Pt} {es:List Ed} (h:ArrP os gs V es) (hos:∀ t ∈ os,t.ok):(∀ e ∈ es,e.dir.dir)∧∀ e ∈ es,e.a≠e.b:=by
 refine⟨fun e he=>?_,fun e he=>?_⟩
 ·obtain⟨_,_,_,s,hs,_,hd⟩:=h.edge (fun t ht=>(hos t ht).2.2) he
  rw [hd];exact dirZ_dir (hos s hs)
 ·have:=(h.edge (fun t ht=>(hos t ht).2.2) he).1
  omega
end Go.Proofs
