/- Texts for the walk of the law: QS RI RT BW LO. -/
import Derived.OpenShut
import Derived.Test.YtihpoboahbpaiaaGreatQ42
set_option maxRecDepth 100000
set_option maxHeartbeats 16000000
set_option linter.unusedVariables false
set_option linter.unusedSimpArgs false
namespace Go.Hp
open Go
def spnQ (V:List Pt) (es:List Ed) (e:Nat) (x:Rat):Bool:=decide ((nth pt0 V (nth ed0 es e).a).x≤x) && decide (x<(nth pt0 V (nth ed0 es e).b).x)
def hgtQ (V:List Pt) (es:List Ed) (e:Nat) (x:Rat):Rat:=(nth pt0 V (nth ed0 es e).a).y+(x - (nth pt0 V (nth ed0 es e).a).x)*(((nth ed0 es e).dir.y:Rat) / ((nth ed0 es e).dir.x:Rat))
def higQ (V:List Pt) (es:List Ed) (p:Pt) (best:Option Nat) (e:Nat):Bool :=
 match best with
 | none=>true
 | some b=>if hgtQ V es e p.x=hgtQ V es b p.x then decide (0<turnZ ⟨-(nth ed0 es e).dir.y,(nth ed0 es e).dir.x⟩ ⟨-(nth ed0 es b).dir.y,(nth ed0 es b).dir.x⟩) else decide (hgtQ V es b p.x<hgtQ V es e p.x)
def bstQ (V:List Pt) (es:List Ed) (p:Pt):Nat→Option Nat
 | 0=>none
 | e+1=>if (spnQ V es e p.x && decide (hgtQ V es e p.x<p.y) && higQ V es p (bstQ V es p e) e)=true then some e else bstQ V es p e
theorem bstQ_lt (V:List Pt) (es:List Ed) (p:Pt):∀ k b,bstQ V es p k=some b→b<k
 | 0,b,h=>by cases h
 | k+1,b,h=>by
  unfold bstQ at h
  split at h
  ·cases h;omega
  ·have:=bstQ_lt V es p k b h;omega
section
variable (m:Mv2) {V:List Pt} {es:List Ed} (hab:∀ e ∈ es,e.a<V.length∧e.b<V.length)
 include hab
theorem Mv2.spnQ {e:Nat} (he:e<es.length) (p:Pt):spnQ (V.map m.p) es e (m.p p).x=spnQ V es e p.x:=by
 obtain⟨h1,h2⟩:=hab _ (nth_mem ed0 es e he);unfold Hp.spnQ;rw [m.nth h1,m.nth h2];unfold Mv2.p;simp only [lin_le m.kpos,lin_lt m.kpos]
theorem Mv2.hgtQ {e:Nat} (he:e<es.length) (p:Pt):hgtQ (V.map m.p) es e (m.p p).x=(m.k:Rat)*hgtQ V es e p.x+m.y:=by
 obtain⟨h1,h2⟩:=hab _ (nth_mem ed0 es e he);unfold Hp.hgtQ;rw [m.nth h1];unfold Mv2.p;simp only;generalize ((Hp.nth ed0 es e).dir.y:Rat) / ((Hp.nth ed0 es e).dir.x:Rat)=s
 grind
theorem Mv2.higQ {e:Nat} (he:e<es.length) (p:Pt) (b:Option Nat) (hb:∀ i,b=some i→i<es.length):higQ (V.map m.p) es (m.p p) b e=higQ V es p b e:=by
 unfold Hp.higQ;cases b with
 | none=>rfl
 | some i =>
  simp only;rw [m.hgtQ hab he,m.hgtQ hab (hb i rfl)];simp only [lin_eq m.kpos,lin_lt m.kpos]
theorem Mv2.bstQ (p:Pt):∀ k,k≤es.length→bstQ (V.map m.p) es (m.p p) k=bstQ V es p k
 | 0,_=>rfl
 | k+1,hk=>by
  have ih:=Mv2.bstQ p k (by omega);have e1:∀ (W:List Pt) (q:Pt),Hp.bstQ W es q (k+1)=if (Hp.spnQ W es k q.x && decide (Hp.hgtQ W es k q.x<q.y) && Hp.higQ W es q (Hp.bstQ W es q k) k)=true then some k else Hp.bstQ W es q k:=fun _ _=>rfl
  have e2:decide (Hp.hgtQ (V.map m.p) es k (m.p p).x<(m.p p).y)=decide (Hp.hgtQ V es k p.x<p.y):=by
   rw [m.hgtQ hab (by omega)];unfold Mv2.p;simp only [lin_lt m.kpos]
  rw [e1,e1,ih,m.spnQ hab (by omega),e2,m.higQ hab (by omega) p _ (fun i h=>by have:=bstQ_lt V es p k i h;omega)]
end
def onQ (V:List Pt) (es:List Ed) (p:Pt) (e:Nat):Prop:=onS ⟨nth pt0 V (nth ed0 es e).a,nth pt0 V (nth ed0 es e).b⟩ p
theorem Mv2.onQ (m:Mv2) {V:List Pt} {es:List Ed} (hab:∀ e ∈ es,e.a<V.length∧e.b<V.length) {e:Nat} (he:e<es.length) (p:Pt):onQ (V.map m.p) es (m.p p) e↔onQ V es p e:=by
 obtain⟨h1,h2⟩:=hab _ (nth_mem ed0 es e he);unfold Hp.onQ;rw [m.nth h1,m.nth h2];exact m.onS (s:=⟨Hp.nth pt0 V (Hp.nth ed0 es e).a,Hp.nth pt0 V (Hp.nth ed0 es e).b⟩)
end Go.Hp
namespace Go.Proofs
open Go.RowKit Go.Hp
theorem inI_of_wf {n:Int} (h:(Lit.int .i64 n).wf=true):InI n:=bounds_i64 h
theorem spot_of_cell {w:World} {a:Addr} {u:Value} (h:w.cell? a=some u):a.spot=none:=by
 unfold World.cell? at h
 split at h
 ·split at h
  ·cases h
  ·rename_i hs
   cases hsp:a.spot with
   | none=>rfl
   | some s=>rw [hsp] at hs;simp at hs
 ·cases h
theorem ints_of_row {w:World} {a:Option Addr} {len cap:Nat} {zs:List Int}
 (h:(a=none∧len=0∧cap=0∧zs=[])∨∃ x,a=some x∧len≤cap∧cap≤maxLen∧zs.length=cap∧(∀ i,i<zs.length→w.cell? (x.add i)=some (.int .i64 (zs.getD i 0)))∧∀ n ∈ zs,(Lit.int .i64 n).wf=true) :
 Ints w (Old w) (.slice a len cap) (zs.take len):=by
 rcases h with ⟨rfl,rfl,rfl,rfl⟩|⟨x,rfl,hl,hm,hz,hcell,hwf⟩
 ·exact Ints.nil w _
 ·have hlen:(zs.take len).length=len:=by rw [List.length_take];omega
  have hadd:0<zs.length→∀ j,x.add j=⟨x.block,x.off+j,none⟩:=fun hp j=>by
   have h0:=spot_of_cell (hcell 0 hp);have h1:x.spot=none:=by simpa [Addr.add] using h0
   unfold Addr.add
   split
   ·rename_i hj;subst hj;cases x;simp_all
   ·rfl
  refine⟨⟨by simp,some x,cap,by rw [hlen],by omega,hm,(fun e=>by cases e),fun ad e=>?_⟩,fun z hz'=>inI_of_wf (hwf z (List.mem_of_mem_take hz'))⟩;cases e
  have hne:(zs.take len).map (Value.int .i64)≠[]→0<zs.length:=fun hne=>by
   rcases Nat.eq_zero_or_pos zs.length with h|h
   ·exact absurd (by rw [List.eq_nil_of_length_eq_zero h];simp) hne
   ·exact h
  refine⟨fun h=>?_,fun h=>?_,fun j u hu=>?_⟩
  ·have h0:=spot_of_cell (hcell 0 (hne h))
   simpa [Addr.add] using h0
  ·have h0:=World.block_lt_of_cell? w _ (hcell 0 (hne h))
   have h1:x.block<w.heap.size:=by simpa [Addr.add] using h0
   exact h1
  ·rw [List.getElem?_map,Option.map_eq_some_iff] at hu
   obtain⟨z,hz2,rfl⟩:=hu;rw [List.getElem?_take] at hz2
   split at hz2
   ·have hj:j<zs.length:=(List.getElem?_eq_some_iff.1 hz2).1
    have:=hcell j hj;rw [hadd (by omega) j] at this;rw [this,List.getD_eq_getElem?_getD,hz2]
    rfl
   ·cases hz2
end Go.Proofs

namespace Go.Hp
open Go.Proofs.Tryz
open Go
def btw (a b x:Rat):Bool:=decide (0≤cmpQ a x*cmpQ x b)
theorem cmpQ_ltx {a b:Rat}:cmpQ a b<0↔a<b:=by unfold cmpQ;split <;> (try split) <;> grind
def btwP (a b p:Pt):Bool:=decide (cmpQ (area a b p) 0=0) && btw a.x b.x p.x && btw a.y b.y p.y
end Go.Hp
namespace Go.Proofs
open Go.Proofs.Tryz
open Go.RowKit Go.Hp
theorem between_any (p q r:FR) (a b x:Rat) (w:World) (S:Nat→Prop) (hp:IsF w S p a) (hq:IsF w S q b) (hr:IsF w S r x) (hL:Liv w S) :
 Calls Tryz.prog 102 #[.agg #[.bool p.num.neg,.slice p.num.ad p.num.n p.num.cap,.bool p.less.neg,.slice p.less.ad p.less.n p.less.cap],.agg #[.bool q.num.neg,.slice q.num.ad q.num.n q.num.cap,.bool q.less.neg,.slice q.less.ad q.less.n q.less.cap],.agg #[.bool r.num.neg,.slice r.num.ad r.num.n r.num.cap,.bool r.less.neg,.slice r.less.ad r.less.n r.less.cap]] w fun e w'=>e=.returned (.bool (btw a b x))∧Pure w S w' S:=by
 have k1:=fun w' hp' hr' hL'=>compareQ_any p r a x w' S hp' hr' hL'
 have k2:=fun w' hr' hq' hL'=>compareQ_any r q x b w' S hr' hq' hL'
 have c1b:=cmpQ_bd a x;have c2b:=cmpQ_bd x b;have hbt:btw a b x=decide (0≤cmpQ a x*cmpQ x b):=rfl;rw [hbt];clear hbt;obtain⟨c1,e1⟩:∃ c,cmpQ a x=c:=⟨_,rfl⟩;obtain⟨c2,e2⟩:∃ c,cmpQ x b=c:=⟨_,rfl⟩;simp only [e1,e2] at k1 k2 c1b c2b ⊢;clear e1 e2
 have hw:IntKind.i64.wrap (c1*c2)=c1*c2:=by
  have h:c1 = -1∨c1=0∨c1=1:=by omega
  rcases h with rfl|rfl|rfl <;> exact w6
 obtain⟨hS,hF0,hO0,hp0⟩:=st0 hL
 go_enter func102,ntmps102
 go_wp2_with (with_reducible refine bxA hS fun bx wbx hS=>?_)
 refine rg0 [.r 0,.r 1,.r 3,.r 4,.e 2,.e 5,.p 6,.p 7,.p 8] [] hS fun w1 hS=>?_
 have hC:=hS
 repeat (with_reducible first|refine skL ?_|refine sldA 1 isAgg54 sizeOf54 ?_|refine sldA 2 isAgg54 sizeOf54 ?_|refine sldA 3 isAgg54 sizeOf54 ?_|refine spL ?_)
 refine exL ?_
 go_wp2_with (fail)
 refine (k1 _ (hp.at hS hF0) (hr.at hS hF0) (Liv.at hS hF0)).mono ?_;rintro e w' ⟨rfl,hq1⟩;simp only [];go_step;have hr:=(hr.at hS hF0).grow hq1;have hq:=(hq.at hS hF0).grow hq1;have hC:=hC.below hq1.below hq1.drawn;replace hS:=hS.pcl hF0 hO0 hp0 hq1;obtain⟨F1,hF1,-,hp1,hO1,hS⟩:=hS;refine ext_end hC ?_;refine mvs ?_;refine exL ?_
 go_wp2_with (fail)
 refine (k2 _ (hr.at hS hF1) (hq.at hS hF1) (Liv.at hS hF1)).mono ?_;rintro e w' ⟨rfl,hq2⟩;simp only [];go_step;have hC:=hC.below hq2.below hq2.drawn;replace hS:=hS.pcl hF1 hO1 hp1 hq2;obtain⟨F2,hF2,-,hp2,hO2,hS⟩:=hS;refine ext_end hC ?_;refine mvs ?_;refine snL ?_;go_wp2;go_ret;exact⟨rfl,hp2.step hS hO2 hF2⟩
theorem betweenP_any (p q r:PR) (a b c:Pt) (k:Nat) (w:World) (S:Nat→Prop) (hp:IsP w S p a) (hq:IsP w S q b) (hr:IsP w S r c) (hL:Liv w S) (ka:Bq k a.x∧Bq k a.y) (kb:Bq k b.x∧Bq k b.y) (kc:Bq k c.x∧Bq k c.y) (hk:8*k+8≤16384) :
 Calls Tryz.prog 49 #[.agg #[.bool p.x.num.neg,.slice p.x.num.ad p.x.num.n p.x.num.cap,.bool p.x.less.neg,.slice p.x.less.ad p.x.less.n p.x.less.cap,.bool p.y.num.neg,.slice p.y.num.ad p.y.num.n p.y.num.cap,.bool p.y.less.neg,.slice p.y.less.ad p.y.less.n p.y.less.cap],.agg #[.bool q.x.num.neg,.slice q.x.num.ad q.x.num.n q.x.num.cap,.bool q.x.less.neg,.slice q.x.less.ad q.x.less.n q.x.less.cap,.bool q.y.num.neg,.slice q.y.num.ad q.y.num.n q.y.num.cap,.bool q.y.less.neg,.slice q.y.less.ad q.y.less.n q.y.less.cap],.agg #[.bool r.x.num.neg,.slice r.x.num.ad r.x.num.n r.x.num.cap,.bool r.x.less.neg,.slice r.x.less.ad r.x.less.n r.x.less.cap,.bool r.y.num.neg,.slice r.y.num.ad r.y.num.n r.y.num.cap,.bool r.y.less.neg,.slice r.y.less.ad r.y.less.n r.y.less.cap]] w fun e w'=>e=.returned (.tuple #[.bool (btwP a b c),.int .i64 0])∧Pure w S w' S:=by
 have k1:=fun w' S hp' hq' hr' hL'=>side_any p q r a b c k w' S hp' hq' hr' hL' ka kb kc hk
 have k2:=fun w' S hp' hq' hr' hL'=>between_any p.x q.x r.x a.x b.x c.x w' S hp' hq' hr' hL'
 have k3:=fun w' S hp' hq' hr' hL'=>between_any p.y q.y r.y a.y b.y c.y w' S hp' hq' hr' hL'
 have hbt:btwP a b c=(decide (cmpQ (area a b c) 0=0) && btw a.x b.x c.x && btw a.y b.y c.y):=rfl;rw [hbt];clear hbt ka kb kc;obtain⟨s,e1⟩:∃ s,cmpQ (area a b c) 0=s:=⟨_,rfl⟩;obtain⟨b1,e2⟩:∃ s,btw a.x b.x c.x=s:=⟨_,rfl⟩;obtain⟨b2,e3⟩:∃ s,btw a.y b.y c.y=s:=⟨_,rfl⟩;simp only [e1,e2,e3] at k1 k2 k3 ⊢;clear e1 e2 e3;obtain⟨hS,hF0,hO0,hp0⟩:=st0 hL
 by_cases hs:s=0
 ·subst hs
  cases b1 with
  | false =>
   go_enter func49,ntmps49
   go_wp2_with (with_reducible first|refine bxA hS fun bx wbx hS=>?_|refine ldA 1 hS isAgg56 sizeOf56 ?_|refine ldA 2 hS isAgg56 sizeOf56 ?_|refine ldA 3 hS isAgg56 sizeOf56 ?_)
   refine (k1 _ S (hp.at hS hF0) (hq.at hS hF0) (hr.at hS hF0) (Liv.at hS hF0)).mono ?_;rintro e w' ⟨rfl,hq1⟩;have hp:=(hp.at hS hF0).grow hq1;have hq:=(hq.at hS hF0).grow hq1;have hr:=(hr.at hS hF0).grow hq1;replace hS:=hS.pcl hF0 hO0 hp0 hq1;obtain⟨F1,hF1,-,hp1,hO1,hS⟩:=hS;simp only []
   go_wp2_with (with_reducible first|refine ldK 1 hS isAgg54 sizeOf54 ?_|refine ldK 2 hS isAgg54 sizeOf54 ?_|refine ldK 3 hS isAgg54 sizeOf54 ?_)
   refine (k2 _ S (hp.x.at hS hF1) (hq.x.at hS hF1) (hr.x.at hS hF1) (Liv.at hS hF1)).mono ?_;rintro e w' ⟨rfl,hq2⟩;replace hS:=hS.pcl hF1 hO1 hp1 hq2;obtain⟨F2,hF2,-,hp2,hO2,hS⟩:=hS;simp only []
   go_wp2_with (first|((with_reducible refine g_load (T:=54) ?_);refine wpList_unwanted rfl ?_;simp only [NRM]))
   refine bodyPost_ret (results_tmp2 rfl _ _ _) rfl ?_;exact⟨rfl,hp2.step hS hO2 hF2⟩
  | true =>
   go_enter func49,ntmps49
   go_wp2_with (with_reducible first|refine bxA hS fun bx wbx hS=>?_|refine ldA 1 hS isAgg56 sizeOf56 ?_|refine ldA 2 hS isAgg56 sizeOf56 ?_|refine ldA 3 hS isAgg56 sizeOf56 ?_)
   refine (k1 _ S (hp.at hS hF0) (hq.at hS hF0) (hr.at hS hF0) (Liv.at hS hF0)).mono ?_;rintro e w' ⟨rfl,hq1⟩;have hp:=(hp.at hS hF0).grow hq1;have hq:=(hq.at hS hF0).grow hq1;have hr:=(hr.at hS hF0).grow hq1;replace hS:=hS.pcl hF0 hO0 hp0 hq1;obtain⟨F1,hF1,-,hp1,hO1,hS⟩:=hS;simp only []
   go_wp2_with (with_reducible first|refine ldK 1 hS isAgg54 sizeOf54 ?_|refine ldK 2 hS isAgg54 sizeOf54 ?_|refine ldK 3 hS isAgg54 sizeOf54 ?_)
   refine (k2 _ S (hp.x.at hS hF1) (hq.x.at hS hF1) (hr.x.at hS hF1) (Liv.at hS hF1)).mono ?_;rintro e w' ⟨rfl,hq2⟩;have hp:=(hp.at hS hF1).grow hq2;have hq:=(hq.at hS hF1).grow hq2;have hr:=(hr.at hS hF1).grow hq2;replace hS:=hS.pcl hF1 hO1 hp1 hq2;obtain⟨F2,hF2,-,hp2,hO2,hS⟩:=hS;simp only []
   go_wp2_with (with_reducible first|refine ldK 1 hS isAgg54 sizeOf54 ?_|refine ldK 2 hS isAgg54 sizeOf54 ?_|refine ldK 3 hS isAgg54 sizeOf54 ?_)
   refine (k3 _ S (hp.y.at hS hF2) (hq.y.at hS hF2) (hr.y.at hS hF2) (Liv.at hS hF2)).mono ?_;rintro e w' ⟨rfl,hq3⟩;replace hS:=hS.pcl hF2 hO2 hp2 hq3;obtain⟨F3,hF3,-,hp3,hO3,hS⟩:=hS;simp only [];go_wp2;refine bodyPost_ret (results_tmp2 rfl _ _ _) rfl ?_;exact⟨by simp,hp3.step hS hO3 hF3⟩
 ·have hsf:(s == 0)=false:=by simpa using hs
  have hsd:decide (s=0)=false:=by simpa using hs
  rw [hsd];clear hs
  go_enter func49,ntmps49
  go_wp2_with (with_reducible first|refine bxA hS fun bx wbx hS=>?_|refine ldA 1 hS isAgg56 sizeOf56 ?_|refine ldA 2 hS isAgg56 sizeOf56 ?_|refine ldA 3 hS isAgg56 sizeOf56 ?_)
  refine (k1 _ S (hp.at hS hF0) (hq.at hS hF0) (hr.at hS hF0) (Liv.at hS hF0)).mono ?_;rintro e w' ⟨rfl,hq1⟩;replace hS:=hS.pcl hF0 hO0 hp0 hq1;obtain⟨F1,hF1,-,hp1,hO1,hS⟩:=hS;simp only []
  go_wp2_with (first|((with_reducible refine g_load (T:=54) ?_);refine wpList_unwanted rfl ?_;simp only [NRM]))
  refine bodyPost_ret (results_tmp2 rfl _ _ _) rfl ?_;exact⟨rfl,hp1.step hS hO1 hF1⟩
theorem vertex_any (a1 a2 a3 a4:Option Addr) (n1 c1 n2 c2 n3 c3 n4 c4:Nat) (prs:List PR) (V:List Pt) (p:PR) (q:Pt) (w:World) (S:Nat→Prop) (hv:PL w S (.slice a3 n3 c3) prs V) (hp:IsP w S p q) (hL:Liv w S) (hV:V.Pairwise Pt.lt) (hVl:V.length≤1000000) :
 Calls Tryz.prog 44 #[.agg #[.slice a1 n1 c1,.slice a2 n2 c2,.slice a3 n3 c3,.slice a4 n4 c4],.agg #[.bool p.x.num.neg,.slice p.x.num.ad p.x.num.n p.x.num.cap,.bool p.x.less.neg,.slice p.x.less.ad p.x.less.n p.x.less.cap,.bool p.y.num.neg,.slice p.y.num.ad p.y.num.n p.y.num.cap,.bool p.y.less.neg,.slice p.y.less.ad p.y.less.n p.y.less.cap]] w fun e w'=>(∃ i,Stands V q i∧e=.returned (.tuple (if i<V.length∧nth pt0 V i=q then #[.int .i64 (i:Int),.bool true] else #[.int .i64 0,.bool false])))∧Pure w S w' S:=by
 have hb:=fun w' (hv:PL w' S (.slice a3 n3 c3) prs V) hp hL=>afind_any a3 n3 c3 prs V p q w' S hv hp hL hV hVl
 obtain⟨hS,hF0,hO0,hp0⟩:=st0 hL
 go_enter func44,ntmps44
 go_wp2_with (with_reducible first|refine bxA hS fun bx wbx hS=>?_|refine bxA hS fun bp wbp hS=>?_|refine ldA 2 hS isAgg56 sizeOf56 ?_|refine ldB 1 hS isAgg31 ?_|refine ldK 1 hS isAgg31 sizeOf31 ?_)
 refine (hb _ (hv.at hS hF0) (hp.at hS hF0) (Liv.at hS hF0)).mono ?_;rintro e w' ⟨⟨i,hi,rfl⟩,hq⟩;replace hS:=hS.pcl hF0 hO0 hp0 hq;obtain⟨F1,hF1,-,hp1,hO1,hS⟩:=hS;replace hi:=Hd hi
 by_cases hd:i<V.length∧nth pt0 V i=q
 ·rw [decide_eq_true hd]
  simp only [];go_wp2;refine bodyPost_ret (results_tmp2 rfl _ _ _) rfl ?_;exact⟨⟨i,hi.out,by rw [if_pos hd];rfl⟩,hp1.step hS hO1 hF1⟩
 ·rw [decide_eq_false hd]
  simp only [];go_wp2;refine bodyPost_ret (results_tmp2 rfl _ _ _) rfl ?_;exact⟨⟨i,hi.out,by rw [if_neg hd];rfl⟩,hp1.step hS hO1 hF1⟩
end Go.Proofs
namespace Go.Hp
open Go Go.RowKit
structure LocR where
 bl:Nat
 g1:Option Addr × Nat × Nat
 g2:Option Addr × Nat × Nat
 g3:Option Addr × Nat × Nat
 g4:Option Addr × Nat × Nat
 s1:Option Addr × Nat × Nat
 s2:Option Addr × Nat × Nat
 s3:Option Addr × Nat × Nat
 s4:Option Addr × Nat × Nat
 s5:Option Addr × Nat × Nat
structure LocIn (w:World) (S:Nat→Prop) (L:LocR) (rs:List ER) (es:List Ed) (prs:List PR) (V:List Pt) (k:Nat) (f:FRec):Prop where
 cell:CellsAt w S ⟨L.bl,0,none⟩ [.slice L.g1.1 L.g1.2.1 L.g1.2.2,.slice L.g2.1 L.g2.2.1 L.g2.2.2,.slice L.g3.1 L.g3.2.1 L.g3.2.2,.slice L.g4.1 L.g4.2.1 L.g4.2.2,.slice L.s1.1 L.s1.2.1 L.s1.2.2,.slice L.s2.1 L.s2.2.1 L.s2.2.2,.slice L.s3.1 L.s3.2.1 L.s3.2.2,.slice L.s4.1 L.s4.2.1 L.s4.2.2,.slice L.s5.1 L.s5.2.1 L.s5.2.2]
 arr:ArrIn w S L.g3.1 L.g4.1 L.g3.2.1 L.g3.2.2 L.g4.2.1 L.g4.2.2 rs es prs V k
 fc:IsFc w S L.s1 L.s2 L.s3 L.s4 L.s5 f
variable {w0 w w' wr:World} {F S S':Nat→Prop} {L:LocR} {rs:List ER} {es:List Ed} {prs:List PR} {V:List Pt} {k:Nat} {f:FRec}
theorem CellsAt.old {ad:Addr} {cs:List Value} (h:CellsAt w S ad cs) (hL:Liv w S):CellsAt w (Old w) ad cs:=h.weaken hL
theorem LocIn.move (h:LocIn wr S L rs es prs V k f) (hL:Liv w S) (hk:∀ k,S k→w.heap[k]? = wr.heap[k]?):LocIn w S L rs es prs V k f:=⟨h.cell.move hk,h.arr.move hL hk,h.fc.move hk⟩
theorem LocIn.at {H:List Chunk} (h:LocIn wr S L rs es prs V k f) (hS:Heap w0 w (.frz F wr::H)) (hF:∀ k,S k→F k):LocIn w S L rs es prs V k f:=h.move (Liv.at hS hF) (hS.keep hF)
theorem LocIn.below (h:LocIn w S L rs es prs V k f) (hb:Below w.heap.size w w'):LocIn w' S L rs es prs V k f :=
 h.move (fun k hk=>Nat.lt_of_lt_of_le (h.arr.live k hk) hb.size) (fun k hk=>hb.block k (h.arr.live k hk))
theorem IsFc.belowS {w w':World} {S:Nat→Prop} {s1 s2 s3 s4 s5:Option Addr × Nat × Nat} {f:FRec} (h:IsFc w S s1 s2 s3 s4 s5 f) (hL:Liv w S) (hb:Below w.heap.size w w'):IsFc w' S s1 s2 s3 s4 s5 f:=h.move fun k hk=>hb.block k (hL k hk)
theorem RowsOf.wk {v:Value} {I:List (List Nat)} (h:RowsOf w S v I) (hs:∀ k,S k→S' k):RowsOf w S' v I:=by
 obtain⟨R,h1,h2,h3⟩:=h;exact⟨R,h1,h2.weaken hs,fun i hi=>(h3 i hi).weaken hs⟩
theorem IsFc.wk {s1 s2 s3 s4 s5:Option Addr × Nat × Nat} (h:IsFc w S s1 s2 s3 s4 s5 f) (hs:∀ k,S k→S' k):IsFc w S' s1 s2 s3 s4 s5 f:=⟨h.n.weaken hs,⟨h.l.1.weaken hs,h.l.2⟩,⟨h.o.1.weaken hs,h.o.2⟩,h.i.wk hs,h.a.wk hs⟩
theorem LocIn.grow (h:LocIn w S L rs es prs V k f) (hp:Pure w S w' S'):LocIn w' S' L rs es prs V k f :=
 ⟨(h.cell.move (fun j hj=>hp.below.block j (h.arr.live j hj))).weaken hp.sub,h.arr.grow hp,(h.fc.belowS h.arr.live hp.below).wk hp.sub⟩
section
variable {fn:Func} {p p2 t:Tmp} {T T2:TypeId} {P:Program} {H:List Chunk} {b b2 k2:Nat} {arr arr2:Array Value} {Tb Tb2:TypeId} {fr fr2:Nat × Nat} {R:Ending→World→Prop} {a:Act}
theorem ret_cc (j j2:Nat) (hS:Heap w0 w H) (hr:fn.results=#[.cell p T,.cell p2 T2]) (hp:a.tmps.getD p undef=.pointer (some ⟨b,0,none⟩)) (hp2:a.tmps.getD p2 undef=.pointer (some ⟨b2,0,none⟩))
 (hj:H[j]? = some (Chunk.blk b (.cells arr Tb fr))) (hj2:H[j2]? = some (Chunk.blk b2 (.cells arr2 Tb2 fr2))) (hag:∀ w,(isAgg T).run P w=.ok true w) (hz:∀ w,(sizeOf T).run P w=.ok k w) (hsz:arr.size=k) (hag2:∀ w,(isAgg T2).run P w=.ok true w) (hz2:∀ w,(sizeOf T2).run P w=.ok k2 w) (hsz2:arr2.size=k2) (hd:a.defers=[])
 (h:R (.returned (.tuple #[.agg arr,.agg arr2])) w):bodyPost P fn R .ret a w:=by
 refine bodyPost_ret (v:=.tuple #[.agg arr,.agg arr2]) ?_ hd h;have h1:=run_loadVar_blk (P:=P) j hS hj hag hz hsz;have h2:=run_loadVar_blk (P:=P) j2 hS hj2 hag2 hz2 hsz2;have hp':a.tmps[p]?.getD undef=.pointer (some ⟨b,0,none⟩):=by simpa using hp
 have hp2':a.tmps[p2]?.getD undef=.pointer (some ⟨b2,0,none⟩):=by simpa using hp2
 simp [results,hr,hp',hp2',asAddr,h1,h2]
end
end Go.Hp
namespace Go.Proofs
open Go.RowKit Go.Hp
theorem ends_any (L:LocR) (rs:List ER) (es:List Ed) (prs:List PR) (V:List Pt) (k:Nat) (f:FRec) (e:Nat) (w:World) (S:Nat→Prop) (h:LocIn w S L rs es prs V k f) (he:e<es.length) (hVl:V.length≤1000000) (hEl:es.length≤1000000) :
 Calls Tryz.prog 48 #[.pointer (some ⟨L.bl,0,none⟩),.int .i64 (e:Int)] w fun en w'=>en=.returned (.tuple #[.agg #[.bool (nth pr0 prs (nth ed0 es e).a).x.num.neg,.slice (nth pr0 prs (nth ed0 es e).a).x.num.ad (nth pr0 prs (nth ed0 es e).a).x.num.n (nth pr0 prs (nth ed0 es e).a).x.num.cap,.bool (nth pr0 prs (nth ed0 es e).a).x.less.neg,.slice (nth pr0 prs (nth ed0 es e).a).x.less.ad (nth pr0 prs (nth ed0 es e).a).x.less.n (nth pr0 prs (nth ed0 es e).a).x.less.cap,.bool (nth pr0 prs (nth ed0 es e).a).y.num.neg,.slice (nth pr0 prs (nth ed0 es e).a).y.num.ad (nth pr0 prs (nth ed0 es e).a).y.num.n (nth pr0 prs (nth ed0 es e).a).y.num.cap,.bool (nth pr0 prs (nth ed0 es e).a).y.less.neg,.slice (nth pr0 prs (nth ed0 es e).a).y.less.ad (nth pr0 prs (nth ed0 es e).a).y.less.n (nth pr0 prs (nth ed0 es e).a).y.less.cap],.agg #[.bool (nth pr0 prs (nth ed0 es e).b).x.num.neg,.slice (nth pr0 prs (nth ed0 es e).b).x.num.ad (nth pr0 prs (nth ed0 es e).b).x.num.n (nth pr0 prs (nth ed0 es e).b).x.num.cap,.bool (nth pr0 prs (nth ed0 es e).b).x.less.neg,.slice (nth pr0 prs (nth ed0 es e).b).x.less.ad (nth pr0 prs (nth ed0 es e).b).x.less.n (nth pr0 prs (nth ed0 es e).b).x.less.cap,.bool (nth pr0 prs (nth ed0 es e).b).y.num.neg,.slice (nth pr0 prs (nth ed0 es e).b).y.num.ad (nth pr0 prs (nth ed0 es e).b).y.num.n (nth pr0 prs (nth ed0 es e).b).y.num.cap,.bool (nth pr0 prs (nth ed0 es e).b).y.less.neg,.slice (nth pr0 prs (nth ed0 es e).b).y.less.ad (nth pr0 prs (nth ed0 es e).b).y.less.n (nth pr0 prs (nth ed0 es e).b).y.less.cap]])∧Pure w S w' S:=by
 have hL:=h.arr.live;have hsl:=h.arr.hE.old;have hps:=h.arr.hV.sl.old;have hpl:prs.length=V.length:=h.arr.hV.ps.len;have hc:=h.cell.old hL;have hE:=h.arr.hEs.el e he;obtain⟨he1,he2⟩:=h.arr.ab _ (nth_mem ed0 es e he);have hce:=flat_cell ec_len er0 (show e<rs.length by rw [h.arr.hEs.len];omega);obtain⟨r,hr⟩:∃ r,nth er0 rs e=r:=⟨_,rfl⟩;rw [hr] at hce hE;rw [← hE.a] at he1 ⊢;rw [← hE.b] at he2 ⊢;have ca:=flat_cell pc_len pr0 (show r.a<prs.length by omega);have cb:=flat_cell pc_len pr0 (show r.b<prs.length by omega);clear hE hr h hpl;obtain⟨A1,e1⟩:∃ q,nth pr0 prs r.a=q:=⟨_,rfl⟩;obtain⟨B1,e2⟩:∃ q,nth pr0 prs r.b=q:=⟨_,rfl⟩;rw [e1] at ca ⊢;rw [e2] at cb ⊢;clear e1 e2;replace ca:((prs.flatMap pc).drop (r.a*8)).take 8=[.bool A1.x.num.neg,.slice A1.x.num.ad A1.x.num.n A1.x.num.cap,.bool A1.x.less.neg,.slice A1.x.less.ad A1.x.less.n A1.x.less.cap,.bool A1.y.num.neg,.slice A1.y.num.ad A1.y.num.n A1.y.num.cap,.bool A1.y.less.neg,.slice A1.y.less.ad A1.y.less.n A1.y.less.cap]:=ca;replace cb:((prs.flatMap pc).drop (r.b*8)).take 8=[.bool B1.x.num.neg,.slice B1.x.num.ad B1.x.num.n B1.x.num.cap,.bool B1.x.less.neg,.slice B1.x.less.ad B1.x.less.n B1.x.less.cap,.bool B1.y.num.neg,.slice B1.y.num.ad B1.y.num.n B1.y.num.cap,.bool B1.y.less.neg,.slice B1.y.less.ad B1.y.less.n B1.y.less.cap]:=cb;obtain⟨hS,hF0,hO0,hp0⟩:=st0 hL
 go_enter Tryz.func48,Tryz.ntmps48
 go_wp2_with (with_reducible refine alA hS Tryz.zeroValue56 fun b4 wb4 hS=>?_)
 refine wp_region_sched2 [.p 0,.p 1,.p 2,.p 3,.r 4,.p 5,.p 6,.p 7,.p 8,.r 9,.p 10,.p 11,.p 12,.r 13,.p 14,.r 15,.p 16,.p 17,.p 18,.p 19,.r 20,.p 21,.p 22,.p 23,.p 24,.r 25,.p 26,.p 27,.p 28,.r 29,.p 30,.r 31,.e 32,.e 33] [] (fun w'=>Heap w w' [.frz (Old w) w]) (fun w'=>Heap w w' _) (by kernel_rfl) (by kernel_rfl) hS.drew (fun _ hZ=>Heap.sub hZ (by repeat (first|exact List.Sublist.refl _|apply List.Sublist.cons_cons|apply List.Sublist.cons|exact List.nil_sublist _))) (fun w1 hS=>?_)
 repeat (first|(with_reducible refine skL ?_)|((with_reducible refine m_read ?_);refine sched_of rfl rfl (stp_loadj (T:=31) 2 Tryz.isAgg31 rfl hc (by simp) rfl ?_);simp only [NRM])|((with_reducible refine m_read ?_);refine sched_of rfl rfl (stp_loadj (T:=32) 3 Tryz.isAgg32 rfl hc (by simp) rfl ?_);simp only [NRM])|(with_reducible first|refine sixE Tryz.underlying32 Tryz.sizeOf101 hsl hce fun bq oq hcellq=>?_|refine sld0 Tryz.isAgg3 ?_|refine sldJ 1 Tryz.isAgg3 ?_|refine sixE Tryz.underlying31 Tryz.sizeOf56 hps ca fun bq oq hcellq=>?_|refine sixE Tryz.underlying31 Tryz.sizeOf56 hps cb fun bq oq hcellq=>?_|refine sldG Tryz.isAgg56 Tryz.sizeOf56 ?_|refine spL ?_))
 refine exL ?_
 (with_reducible refine stA 1 hS Tryz.sizeOf56 fun _ hS=>?_)
 refine ext_end hS.sb ?_;refine mvs ?_;refine exL ?_
 (with_reducible refine stA 2 hS Tryz.sizeOf56 fun _ hS=>?_)
 refine ext_end hS.sb ?_;refine mvs ?_;refine snL ?_;go_wp2;exact ret_cc 1 2 hS rfl rfl rfl rfl rfl Tryz.isAgg56 Tryz.sizeOf56 rfl Tryz.isAgg56 Tryz.sizeOf56 rfl rfl ⟨rfl,hS.pure S⟩
theorem above_any (L:LocR) (rs:List ER) (es:List Ed) (prs:List PR) (V:List Pt) (k:Nat) (f:FRec) (e:Nat) (w:World) (S:Nat→Prop) (h:LocIn w S L rs es prs V k f) (he:2*e<f.L.length) (hl:f.L.length≤1000000) :
 Calls Tryz.prog 52 #[.pointer (some ⟨L.bl,0,none⟩),.int .i64 (e:Int)] w fun en w'=>en=.returned (.int .i64 (nth 0 f.L (2*e)))∧Pure w S w' S:=by
 have hL:=h.arr.live;have hc:=h.cell.old hL;have hfl:Ints w S (.slice L.s2.1 L.s2.2.1 L.s2.2.2) f.L:=h.fc.l;have hlen:=hfl.len;have hFL:=Ints.old hfl;have u1:IntKind.i64.wrap (2*(e:Int))=((2*e:Nat):Int):=w7;clear hfl h;have hS:=Heap.start w
 go_enter Tryz.func52,Tryz.ntmps52
 go_wp2_with (first|((with_reducible refine g_load (T:=22) ?_);refine seq_of hS rfl (stp_loadj (T:=22) 5 Tryz.isAgg22 rfl hc (by simp) rfl ?_);simp only [NRM])|(with_reducible first|refine ixI Tryz.underlying22 Tryz.sizeOf3 fun _ _ _=>?_|refine ld0 hS Tryz.isAgg3 ?_))
 go_ret;exact⟨rfl,hS.pure S⟩
theorem spans_any (L:LocR) (rs:List ER) (es:List Ed) (prs:List PR) (V:List Pt) (k:Nat) (f:FRec) (e:Nat) (x:FR) (q:Rat) (w:World) (S:Nat→Prop) (h:LocIn w S L rs es prs V k f) (he:e<es.length) (hx:IsF w S x q) (hVl:V.length≤1000000) (hEl:es.length≤1000000) :
 Calls Tryz.prog 50 #[.pointer (some ⟨L.bl,0,none⟩),.int .i64 (e:Int),.agg #[.bool x.num.neg,.slice x.num.ad x.num.n x.num.cap,.bool x.less.neg,.slice x.less.ad x.less.n x.less.cap]] w fun en w'=>en=.returned (.bool (spnQ V es e q))∧Pure w S w' S:=by
 have hL:=h.arr.live;have hE:=fun w' h=>ends_any L rs es prs V k f e w' S h he hVl hEl
 obtain⟨he1,he2⟩:=h.arr.ab _ (nth_mem ed0 es e he);have pa:IsP w S (nth pr0 prs (nth ed0 es e).a) (nth pt0 V (nth ed0 es e).a):=h.arr.hV.ps.el _ he1;have pb:IsP w S (nth pr0 prs (nth ed0 es e).b) (nth pt0 V (nth ed0 es e).b):=h.arr.hV.ps.el _ he2;have hsp:spnQ V es e q=(decide ((nth pt0 V (nth ed0 es e).a).x≤q) && decide (q<(nth pt0 V (nth ed0 es e).b).x)):=rfl;rw [hsp];clear hsp;obtain⟨A1,e1⟩:∃ q,nth pr0 prs (nth ed0 es e).a=q:=⟨_,rfl⟩;obtain⟨B1,e2⟩:∃ q,nth pr0 prs (nth ed0 es e).b=q:=⟨_,rfl⟩;obtain⟨a,e3⟩:∃ q,nth pt0 V (nth ed0 es e).a=q:=⟨_,rfl⟩;obtain⟨b,e4⟩:∃ q,nth pt0 V (nth ed0 es e).b=q:=⟨_,rfl⟩;simp only [e1,e2,e3,e4] at hE pa pb ⊢;clear e1 e2 e3 e4 he1 he2;have k1:=fun w' p1 p2 hL'=>compareQ_any A1.x x a.x q w' S p1 p2 hL'
 have k2:=fun w' p1 p2 hL'=>compareQ_any x B1.x q b.x w' S p1 p2 hL'
 have g1:=@cmpQ_le a.x q;have g2:=@cmpQ_ltx q b.x;obtain⟨c1,hc1⟩:∃ c,cmpQ a.x q=c:=⟨_,rfl⟩;obtain⟨c2,hc2⟩:∃ c,cmpQ q b.x=c:=⟨_,rfl⟩;simp only [hc1,hc2] at k1 k2 g1 g2;have hR:(decide (a.x≤q) && decide (q<b.x))=(decide (c1≤0) && decide (c2<0)):=by simp only [g1,g2]
 rw [hR];have hax:=pa.x;have hbx:=pb.x;clear g1 g2 hR hc1 hc2 pa pb;obtain⟨hS,hF0,hO0,hp0⟩:=st0 hL
 by_cases h1:c1≤0
 ·have h1d:decide (c1≤0)=true:=by simpa using h1
  rw [h1d];clear h1
  go_enter Tryz.func50,Tryz.ntmps50
  go_wp2_with (with_reducible refine bxA hS fun bx wbx hS=>?_)
  refine (hE _ (h.at hS hF0)).mono ?_;rintro e' w' ⟨rfl,hq1⟩;have hx:=(hx.at hS hF0).grow hq1;have hax:=(hax.at hS hF0).grow hq1;have hbx:=(hbx.at hS hF0).grow hq1;replace hS:=hS.pcl hF0 hO0 hp0 hq1;obtain⟨F1,hF1,-,hp1,hO1,hS⟩:=hS;simp only []
  go_wp2_with (with_reducible first|refine alA hS Tryz.zeroValue56 fun b7 wb7 hS=>?_|refine stA 2 hS Tryz.sizeOf56 fun _ hS=>?_|refine stA 3 hS Tryz.sizeOf56 fun _ hS=>?_|refine ldK 2 hS Tryz.isAgg54 Tryz.sizeOf54 ?_|refine ldA 1 hS Tryz.isAgg54 Tryz.sizeOf54 ?_)
  refine (k1 _ (hax.at hS hF1) (hx.at hS hF1) (Liv.at hS hF1)).mono ?_;rintro e' w' ⟨rfl,hq2⟩;have hx:=(hx.at hS hF1).grow hq2;have hbx:=(hbx.at hS hF1).grow hq2;replace hS:=hS.pcl hF1 hO1 hp1 hq2;obtain⟨F2,hF2,-,hp2,hO2,hS⟩:=hS;simp only []
  go_wp2_with (with_reducible first|refine ldK 3 hS Tryz.isAgg54 Tryz.sizeOf54 ?_|refine ldA 1 hS Tryz.isAgg54 Tryz.sizeOf54 ?_)
  refine (k2 _ (hx.at hS hF2) (hbx.at hS hF2) (Liv.at hS hF2)).mono ?_;rintro e' w' ⟨rfl,hq3⟩;replace hS:=hS.pcl hF2 hO2 hp2 hq3;obtain⟨F3,hF3,-,hp3,hO3,hS⟩:=hS;simp only [];go_wp2;go_ret;exact⟨by simp,hp3.step hS hO3 hF3⟩
 ·have h1d:decide (c1≤0)=false:=by simpa using h1
  rw [h1d];clear h1
  go_enter Tryz.func50,Tryz.ntmps50
  go_wp2_with (with_reducible refine bxA hS fun bx wbx hS=>?_)
  refine (hE _ (h.at hS hF0)).mono ?_;rintro e' w' ⟨rfl,hq1⟩;have hx:=(hx.at hS hF0).grow hq1;have hax:=(hax.at hS hF0).grow hq1;replace hS:=hS.pcl hF0 hO0 hp0 hq1;obtain⟨F1,hF1,-,hp1,hO1,hS⟩:=hS;simp only []
  go_wp2_with (with_reducible first|refine alA hS Tryz.zeroValue56 fun b7 wb7 hS=>?_|refine stA 2 hS Tryz.sizeOf56 fun _ hS=>?_|refine stA 3 hS Tryz.sizeOf56 fun _ hS=>?_|refine ldK 2 hS Tryz.isAgg54 Tryz.sizeOf54 ?_|refine ldA 1 hS Tryz.isAgg54 Tryz.sizeOf54 ?_)
  refine (k1 _ (hax.at hS hF1) (hx.at hS hF1) (Liv.at hS hF1)).mono ?_;rintro e' w' ⟨rfl,hq2⟩;replace hS:=hS.pcl hF1 hO1 hp1 hq2;obtain⟨F2,hF2,-,hp2,hO2,hS⟩:=hS;simp only []
  go_wp2_with (first|((with_reducible refine g_load (T:=54) ?_);refine wpList_unwanted rfl ?_;simp only [NRM]))
  go_ret;exact⟨by simp,hp2.step hS hO2 hF2⟩
end Go.Proofs
