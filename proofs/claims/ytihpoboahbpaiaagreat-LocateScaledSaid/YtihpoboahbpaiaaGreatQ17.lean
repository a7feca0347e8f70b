/- Texts for the walk of the law: D2 D3. -/
import Derived.LoopN
import Derived.Test.YtihpoboahbpaiaaGreatQ16
set_option maxRecDepth 100000
set_option maxHeartbeats 16000000
set_option linter.unusedVariables false
set_option linter.unusedSimpArgs false
namespace Go.Proofs
open Go.Proofs.Tryz
open Go.RowKit Go.Hp
theorem pvalid_any (x y:Int) (w:World) (hx:-1073741824≤x∧x≤1073741824) (hy:-1073741824≤y∧y≤1073741824) :
 Calls Tryz.prog 39 #[.agg #[.int .i64 x,.int .i64 y]] w fun e w'=>e=.returned (.int .i64 0)∧Pure w (fun _=>False) w' (fun _=>False):=by
 have hS:=Heap.start w;have hxd:decide (-1073741824≤x∧x≤1073741824)=true:=by simpa using hx
 have hyd:decide (-1073741824≤y∧y≤1073741824)=true:=by simpa using hy
 clear hx hy
 go_enter func39,ntmps39
 go_wp2_with (with_reducible first|refine bxA hS fun bx wbx hS=>?_|refine ldB 1 hS isAgg3 ?_)
 try simp only [NRG]
 go_loopw [10] (fun v wr=>∃ k:Nat,k≤2∧v=.int .i64 (k:Int)∧Heap w wr [.frz (Old w) w,.blk bx (.cells #[.int .i64 x,.int .i64 y] 29 (0,0))]) (fun v _=>2 - (intOf v).toNat)
 case atStart=>exact⟨0,by omega,rfl,hS⟩
 case round =>
  clear hS;obtain⟨k,hk,rfl,hS⟩:=hrel;have hk3:k=0∨k=1∨k=2:=by omega
  rcases hk3 with rfl|rfl|rfl
  ·go_wp2_with (first|((with_reducible refine g_ix (T:=84) ?_);refine seq_any rfl (any_ix1 (i:=0) (T:=84) (E:=3) underlying84 sizeOf3 isAgg3 rfl rfl rfl (by decide) rfl ?_);simp only [NRM])|(go_at_call 90;refine (withinI_any _ _ _ _).mono ?_;rintro e w' ⟨rfl,rfl⟩;rw [hxd]))
   go_roundw
   case rel=>exact⟨1,by omega,rfl,hS⟩
   case measure=>simp [intOf]
  ·go_wp2_with (first|((with_reducible refine g_ix (T:=84) ?_);refine seq_any rfl (any_ix1 (i:=1) (T:=84) (E:=3) underlying84 sizeOf3 isAgg3 rfl rfl rfl (by decide) rfl ?_);simp only [NRM])|(go_at_call 90;refine (withinI_any _ _ _ _).mono ?_;rintro e w' ⟨rfl,rfl⟩;rw [hyd]))
   go_roundw
   case rel=>exact⟨2,by omega,rfl,hS⟩
   case measure=>simp [intOf]
  ·go_wp2
   go_ret;exact⟨rfl,hS.pure _⟩
structure BoxZ where
 x0:Int
 y0:Int
 x1:Int
 y1:Int
theorem meets_any (a b:BoxZ) (w:World) :
 Calls Tryz.prog 170 #[.agg #[.int .i64 a.x0,.int .i64 a.y0,.int .i64 a.x1,.int .i64 a.y1],.agg #[.int .i64 b.x0,.int .i64 b.y0,.int .i64 b.x1,.int .i64 b.y1]] w fun e w'=>e=.returned (.bool (decide (max a.x0 b.x0≤min a.x1 b.x1∧max a.y0 b.y0≤min a.y1 b.y1)))∧Pure w (fun _=>False) w' (fun _=>False):=by
 have hS:=Heap.start w
 by_cases h1:max a.x0 b.x0≤min a.x1 b.x1
 ·have h1d:decide (max a.x0 b.x0≤min a.x1 b.x1)=true:=by simpa using h1
  have hq:decide (max a.x0 b.x0≤min a.x1 b.x1∧max a.y0 b.y0≤min a.y1 b.y1)=decide (max a.y0 b.y0≤min a.y1 b.y1):=by simp [h1]
  rw [hq];clear hq h1
  go_enter func170,ntmps170
  go_wp2_with (with_reducible first|refine bxA hS fun bx wbx hS=>?_|refine ldB 1 hS isAgg3 ?_|refine ldB 2 hS isAgg3 ?_)
  go_ret;exact⟨rfl,hS.pure _⟩
 ·have h1d:decide (max a.x0 b.x0≤min a.x1 b.x1)=false:=by simpa using h1
  have hq:decide (max a.x0 b.x0≤min a.x1 b.x1∧max a.y0 b.y0≤min a.y1 b.y1)=false:=by simp [h1]
  rw [hq];clear hq h1
  go_enter func170,ntmps170
  go_wp2_with (with_reducible first|refine bxA hS fun bx wbx hS=>?_|refine ldB 1 hS isAgg3 ?_|refine ldB 2 hS isAgg3 ?_)
  go_ret;exact⟨rfl,hS.pure _⟩
theorem pin_any (b:BoxZ) (p:PR) (q:Pt) (w:World) (S:Nat→Prop) (h0:InI b.x0) (h1:InI b.y0) (h2:InI b.x1) (h3:InI b.y1) (hp:IsP w S p q) (hL:Liv w S) :
 Calls Tryz.prog 120 #[.agg #[.int .i64 b.x0,.int .i64 b.y0,.int .i64 b.x1,.int .i64 b.y1],.agg #[.bool p.x.num.neg,.slice p.x.num.ad p.x.num.n p.x.num.cap,.bool p.x.less.neg,.slice p.x.less.ad p.x.less.n p.x.less.cap,.bool p.y.num.neg,.slice p.y.num.ad p.y.num.n p.y.num.cap,.bool p.y.less.neg,.slice p.y.less.ad p.y.less.n p.y.less.cap]] w fun e w'=>e=.returned (.bool (decide ((b.x0:Rat)≤q.x∧q.x≤(b.x1:Rat)) && decide ((b.y0:Rat)≤q.y∧q.y≤(b.y1:Rat))))∧Pure w S w' S:=by
 obtain⟨hS,hF0,hO0,hp0⟩:=st0 hL;obtain⟨c1,hc1⟩:∃ c1,decide ((b.x0:Rat)≤q.x∧q.x≤(b.x1:Rat))=c1:=⟨_,rfl⟩;obtain⟨c2,hc2⟩:∃ c2,decide ((b.y0:Rat)≤q.y∧q.y≤(b.y1:Rat))=c2:=⟨_,rfl⟩;rw [hc1,hc2];replace hc1:=Hd hc1;replace hc2:=Hd hc2;cases c1
 ·go_enter func120,ntmps120
  go_wp2_with (with_reducible refine bxA hS fun bb wbb hS=>?_)
  refine wp_region_sched [.p 0,.p 1,.r 2,.p 4,.r 5,.p 6,.p 7,.r 8,.e 3,.e 9,.e 10,.p 11,.p 12,.p 13,.r 14,.p 16,.r 17,.p 18,.p 19,.r 20,.e 15,.e 21,.e 22,.p 23,.p 24] [] (fun w'=>Heap w w' _) (by kernel_rfl) (by as_aux_lemma=>kernel_rfl) hS.drew (fun w1 hS=>?_);have hC:=hS
  repeat (with_reducible first|refine sldB 1 isAgg3 ?_|refine sldK 2 isAgg54 sizeOf54 ?_|refine spL ?_)
  refine exL ?_
  go_wp2_with (fail)
  refine (whole_any b.x0 _ S h0 (Liv.at hS hF0)).mono ?_;rintro e w' ⟨u,S1,rfl,hq,hu⟩;simp only [];go_step;have hp:=(hp.at hS hF0).grow hq;have hC:=hC.below hq.below hq.drawn;replace hS:=hS.pcl hF0 hO0 hp0 hq;obtain⟨F1,hF1,-,hp1,hO1,hS⟩:=hS;refine ext_end hC ?_;refine mvs ?_;refine exL ?_
  go_wp2_with (fail)
  refine (whole_any b.x1 _ S1 h2 (Liv.at hS hF1)).mono ?_;rintro e w' ⟨v,S2,rfl,hq2,hv⟩;simp only [];go_step;have hp:=(hp.at hS hF1).grow hq2;have hu:=(hu.at hS hF1).grow hq2;have hC:=hC.below hq2.below hq2.drawn;replace hS:=hS.pcl hF1 hO1 hp1 hq2;obtain⟨F2,hF2,-,hp2,hO2,hS⟩:=hS;refine ext_end hC ?_;refine mvs ?_;refine exL ?_
  go_wp2_with (fail)
  refine (withinF_any u p.x v _ _ _ _ S2 (hu.at hS hF2) (hp.x.at hS hF2) (hv.at hS hF2) (Liv.at hS hF2)).mono ?_;rintro e w' ⟨rfl,hq3⟩;simp only [];go_step;have hp:=(hp.at hS hF2).grow hq3;rw [hc1.out];have hC:=hC.below hq3.below hq3.drawn;replace hS:=hS.pcl hF2 hO2 hp2 hq3;obtain⟨F3,hF3,-,hp3,hO3,hS⟩:=hS;refine ext_end hC ?_;refine mvs ?_;refine exL ?_;refine wpList_unwanted rfl ?_;refine ext_end hC ?_;refine mvs ?_;refine exL ?_;refine wpList_unwanted rfl ?_;refine ext_end hC ?_;refine mvs ?_;refine exL ?_;refine wpList_unwanted rfl ?_;refine ext_end hC ?_;refine mvs ?_;refine snL ?_;go_wp2;go_ret;exact⟨by simp,(hp3.step hS hO3 hF3).back⟩
 ·go_enter func120,ntmps120
  go_wp2_with (with_reducible refine bxA hS fun bb wbb hS=>?_)
  refine wp_region_sched [.p 0,.p 1,.r 2,.p 4,.r 5,.p 6,.p 7,.r 8,.e 3,.e 9,.e 10,.p 11,.p 12,.p 13,.r 14,.p 16,.r 17,.p 18,.p 19,.r 20,.e 15,.e 21,.e 22,.p 23,.p 24] [] (fun w'=>Heap w w' _) (by kernel_rfl) (by as_aux_lemma=>kernel_rfl) hS.drew (fun w1 hS=>?_);have hC:=hS
  repeat (with_reducible first|refine sldB 1 isAgg3 ?_|refine sldK 2 isAgg54 sizeOf54 ?_|refine spL ?_)
  refine exL ?_
  go_wp2_with (fail)
  refine (whole_any b.x0 _ S h0 (Liv.at hS hF0)).mono ?_;rintro e w' ⟨u,S1,rfl,hq,hu⟩;simp only [];go_step;have hp:=(hp.at hS hF0).grow hq;have hC:=hC.below hq.below hq.drawn;replace hS:=hS.pcl hF0 hO0 hp0 hq;obtain⟨F1,hF1,-,hp1,hO1,hS⟩:=hS;refine ext_end hC ?_;refine mvs ?_;refine exL ?_
  go_wp2_with (fail)
  refine (whole_any b.x1 _ S1 h2 (Liv.at hS hF1)).mono ?_;rintro e w' ⟨v,S2,rfl,hq2,hv⟩;simp only [];go_step;have hp:=(hp.at hS hF1).grow hq2;have hu:=(hu.at hS hF1).grow hq2;have hC:=hC.below hq2.below hq2.drawn;replace hS:=hS.pcl hF1 hO1 hp1 hq2;obtain⟨F2,hF2,-,hp2,hO2,hS⟩:=hS;refine ext_end hC ?_;refine mvs ?_;refine exL ?_
  go_wp2_with (fail)
  refine (withinF_any u p.x v _ _ _ _ S2 (hu.at hS hF2) (hp.x.at hS hF2) (hv.at hS hF2) (Liv.at hS hF2)).mono ?_;rintro e w' ⟨rfl,hq3⟩;simp only [];go_step;have hp:=(hp.at hS hF2).grow hq3;rw [hc1.out];have hC:=hC.below hq3.below hq3.drawn;replace hS:=hS.pcl hF2 hO2 hp2 hq3;obtain⟨F3,hF3,-,hp3,hO3,hS⟩:=hS;refine ext_end hC ?_;refine mvs ?_
  repeat (with_reducible first|refine sldB 1 isAgg3 ?_|refine sldK 2 isAgg54 sizeOf54 ?_|refine spL ?_)
  refine exL ?_
  go_wp2_with (fail)
  refine (whole_any b.y0 _ S2 h1 (Liv.at hS hF3)).mono ?_;rintro e w' ⟨u2,S4,rfl,hq4,hu⟩;simp only [];go_step;have hp:=(hp.at hS hF3).grow hq4;have hC:=hC.below hq4.below hq4.drawn;replace hS:=hS.pcl hF3 hO3 hp3 hq4;obtain⟨F4,hF4,-,hp4,hO4,hS⟩:=hS;refine ext_end hC ?_;refine mvs ?_;refine exL ?_
  go_wp2_with (fail)
  refine (whole_any b.y1 _ S4 h3 (Liv.at hS hF4)).mono ?_;rintro e w' ⟨v2,S5,rfl,hq5,hv⟩;simp only [];go_step;have hp:=(hp.at hS hF4).grow hq5;have hu:=(hu.at hS hF4).grow hq5;have hC:=hC.below hq5.below hq5.drawn;replace hS:=hS.pcl hF4 hO4 hp4 hq5;obtain⟨F5,hF5,-,hp5,hO5,hS⟩:=hS;refine ext_end hC ?_;refine mvs ?_;refine exL ?_
  go_wp2_with (fail)
  refine (withinF_any u2 p.y v2 _ _ _ _ S5 (hu.at hS hF5) (hp.y.at hS hF5) (hv.at hS hF5) (Liv.at hS hF5)).mono ?_;rintro e w' ⟨rfl,hq6⟩;simp only [];go_step;rw [hc2.out];have hC:=hC.below hq6.below hq6.drawn;replace hS:=hS.pcl hF5 hO5 hp5 hq6;obtain⟨F6,hF6,-,hp6,hO6,hS⟩:=hS;refine ext_end hC ?_;refine mvs ?_;refine snL ?_;go_wp2;go_ret;exact⟨by simp,(hp6.step hS hO6 hF6).back⟩
end Go.Proofs
namespace Go.Hp
open Go.Proofs.Tryz
open Go
theorem ediv_lt {a:Int} {n:Nat} (g:Nat) (h:a.natAbs<n):(a / (g:Int)).natAbs<n:=Nat.lt_of_le_of_lt (natAbs_ediv_le a g) h
theorem Bq.mul {j k:Nat} {a b:Rat} (ha:Bq j a) (hb:Bq k b):Bq (j+k) (a*b):=by
 obtain⟨h1,h2⟩:=mul_parts a b
 constructor
 ·rw [h1,Int.natAbs_mul];exact mul_lt_two (ediv_lt _ ha.1) (ediv_lt _ hb.1)
 ·have h3:((a*b).den:Int).natAbs<2 ^ (j+k):=by
   rw [h2,Int.natAbs_mul];exact mul_lt_two (ediv_lt _ (by simpa using ha.2)) (ediv_lt _ (by simpa using hb.2))
  simpa using h3
theorem Bq.add {j k:Nat} {a b:Rat} (ha:Bq j a) (hb:Bq k b):Bq (j+k+1) (a+b):=by
 have h:=add_parts a b;have hda:=a.den_pos;have hdb:=b.den_pos;obtain⟨x,hx⟩:∃ x,(b.den:Int) / (Int.gcd a.den b.den:Nat)=x:=⟨_,rfl⟩;obtain⟨y,hy⟩:∃ y,(a.den:Int) / (Int.gcd a.den b.den:Nat)=y:=⟨_,rfl⟩;have hxb:x.natAbs<2 ^ k:=by rw [← hx];exact ediv_lt _ (by simpa using hb.2)
 have hyb:y.natAbs<2 ^ j:=by rw [← hy];exact ediv_lt _ (by simpa using ha.2)
 have hy0:0<y:=by
  rw [← hy];have h1:((Int.gcd a.den b.den:Nat):Int) ∣ (a.den:Int):=Int.gcd_dvd_left ..;obtain⟨e,he⟩:=h1
  have hg:0<((Int.gcd a.den b.den:Nat):Int):=by
   have:Int.gcd a.den b.den≠0:=fun h0=>by rw [h0] at he;simp at he;omega
   omega
  refine Int.ediv_pos_of_pos_of_dvd (by omega) (by omega) (Int.gcd_dvd_left ..)
 rw [hx,hy] at h;obtain⟨e1,e2⟩:=divInt_parts (a:=a.num*x+b.num*y) (b:=y*b.den) (Int.mul_pos hy0 (by omega));rw [h] at e1 e2;have b1:=mul_lt_two ha.1 hxb;have b2:=mul_lt_two hyb hb.1;have b3:(2:Nat) ^ (j+k+1)=2 ^ (j+k)+2 ^ (j+k):=by rw [Nat.pow_succ];omega
 constructor
 ·rw [e1]
  refine ediv_lt _ ?_;have:(a.num*x+b.num*y).natAbs≤(a.num*x).natAbs+(b.num*y).natAbs:=Int.natAbs_add_le _ _;rw [Int.natAbs_mul,Int.natAbs_mul,Nat.mul_comm b.num.natAbs] at this;omega
 ·have h3:((a+b).den:Int).natAbs<2 ^ (j+k+1):=by
   rw [e2];refine ediv_lt _ ?_;rw [Int.natAbs_mul];have:=mul_lt_two hyb (show (b.den:Int).natAbs<2 ^ k by simpa using hb.2);omega
  simpa using h3
theorem Bq.sub {j k:Nat} {a b:Rat} (ha:Bq j a) (hb:Bq k b):Bq (j+k+1) (a - b):=by
 rw [Rat.sub_eq_add_neg];exact ha.add hb.neg
theorem Bq.int {k:Nat} {n:Int} (hk:1≤k) (h:n.natAbs<2 ^ k):Bq k (n:Rat):=by
 refine⟨by simpa using h,?_⟩;have:2 ^ 1≤2 ^ k:=Nat.pow_le_pow_right (by decide) hk;simp;omega
end Go.Hp
namespace Go.Proofs
open Go.Proofs.Tryz
open Go.RowKit Go.Hp
theorem area_any (p q r:PR) (a b c:Pt) (k:Nat) (w:World) (S:Nat→Prop) (hp:IsP w S p a) (hq:IsP w S q b) (hr:IsP w S r c) (hL:Liv w S) (ka:Bq k a.x∧Bq k a.y) (kb:Bq k b.x∧Bq k b.y) (kc:Bq k c.x∧Bq k c.y) (hk:8*k+8≤16384) :
 Calls Tryz.prog 148 #[.agg #[.bool p.x.num.neg,.slice p.x.num.ad p.x.num.n p.x.num.cap,.bool p.x.less.neg,.slice p.x.less.ad p.x.less.n p.x.less.cap,.bool p.y.num.neg,.slice p.y.num.ad p.y.num.n p.y.num.cap,.bool p.y.less.neg,.slice p.y.less.ad p.y.less.n p.y.less.cap],.agg #[.bool q.x.num.neg,.slice q.x.num.ad q.x.num.n q.x.num.cap,.bool q.x.less.neg,.slice q.x.less.ad q.x.less.n q.x.less.cap,.bool q.y.num.neg,.slice q.y.num.ad q.y.num.n q.y.num.cap,.bool q.y.less.neg,.slice q.y.less.ad q.y.less.n q.y.less.cap],.agg #[.bool r.x.num.neg,.slice r.x.num.ad r.x.num.n r.x.num.cap,.bool r.x.less.neg,.slice r.x.less.ad r.x.less.n r.x.less.cap,.bool r.y.num.neg,.slice r.y.num.ad r.y.num.n r.y.num.cap,.bool r.y.less.neg,.slice r.y.less.ad r.y.less.n r.y.less.cap]] w (FRes w S (area a b c)):=by
 obtain⟨hS,hF0,hO0,hp0⟩:=st0 hL
 go_enter func148,ntmps148
 go_wp2_with (with_reducible first|refine bxA hS fun bx wbx hS=>?_|refine ldK 1 hS isAgg54 sizeOf54 ?_|refine ldK 2 hS isAgg54 sizeOf54 ?_|refine ldK 3 hS isAgg54 sizeOf54 ?_|refine alA hS zeroValue54 fun b6 wb6 hS=>?_|refine alA hS zeroValue289 fun b9 wb9 hS=>?_|refine alA hS zeroValue290 fun b10 wb10 hS=>?_|refine stA 6 hS sizeOf289 fun _ hS=>?_|refine ldA 6 hS isAgg289 sizeOf289 ?_)
 refine wp_loop_rounds 3 ?_;rw [rounds_succ]
 go_wp2_with (first|((with_reducible refine g_ix (T:=289) ?_);refine seq_any rfl (any_ixk (i:=0) (T:=289) (E:=288) underlying289 sizeOf288 isAgg288 rfl rfl rfl (by decide) rfl ?_);simp only [NRM])|(with_reducible first|refine alA hS zeroValue3 fun b11 wb11 hS=>?_|refine alA hS zeroValue288 fun b12 wb12 hS=>?_|refine alA hS zeroValue54 fun b13 wb13 hS=>?_|refine alA hS zeroValue43 fun b15 wb15 hS=>?_|refine alA hS zeroValue292 fun b16 wb16 hS=>?_|refine stA 8 hS sizeOf3 fun _ hS=>?_|refine stA 9 hS sizeOf288 fun _ hS=>?_|refine stA 13 hS sizeOf292 fun _ hS=>?_|refine ldA 13 hS isAgg292 sizeOf292 ?_))
 refine wp_loop_rounds 4 ?_;rw [rounds_succ]
 go_wp2_with (first|((with_reducible refine g_ix (T:=292) ?_);refine seq_any rfl (any_ix1 (i:=0) (T:=292) (E:=291) underlying292 sizeOf291 isAgg291 rfl rfl rfl (by decide) rfl ?_);simp only [NRM])|(go_at_call 219;go_in)|(with_reducible refine ldK 9 hS isAgg54 sizeOf54 ?_))
 refine (subF_any q.x p.x b.x a.x k k _ S (hq.x.at hS hF0) (hp.x.at hS hF0) (Liv.at hS hF0) kb.1 ka.1 (by omega)).mono ?_;rintro e w' ⟨x,S1,rfl,hq1,hx⟩;have hp:=(hp.at hS hF0).grow hq1;have hq:=(hq.at hS hF0).grow hq1;have hr:=(hr.at hS hF0).grow hq1
 try (have hz1:=(hz1.at hS hF0).grow hq1)
 replace hS:=hS.pcl hF0 hO0 hp0 hq1;obtain⟨F1,hF1,-,hp1,hO1,hS⟩:=hS;simp only [fRes]
 go_wp2_with (with_reducible first|refine stA 10 hS sizeOf54 fun _ hS=>?_|refine stA 12 hS sizeOf43 fun _ hS=>?_|refine ldB 12 hS isAgg43 ?_)
 first|rw [rounds_succ]
 go_wp2_with (first|((with_reducible refine g_ix (T:=292) ?_);refine seq_any rfl (any_ix1 (i:=1) (T:=292) (E:=291) underlying292 sizeOf291 isAgg291 rfl rfl rfl (by decide) rfl ?_);simp only [NRM])|(go_at_call 220;go_in)|(with_reducible refine ldK 9 hS isAgg54 sizeOf54 ?_))
 refine (subF_any r.y p.y c.y a.y k k _ S1 (hr.y.at hS hF1) (hp.y.at hS hF1) (Liv.at hS hF1) kc.2 ka.2 (by omega)).mono ?_;rintro e w' ⟨y,S2,rfl,hq2,hy⟩;have hp:=(hp.at hS hF1).grow hq2;have hq:=(hq.at hS hF1).grow hq2;have hr:=(hr.at hS hF1).grow hq2;have hx:=(hx.at hS hF1).grow hq2
 try (have hz1:=(hz1.at hS hF1).grow hq2)
 replace hS:=hS.pcl hF1 hO1 hp1 hq2;obtain⟨F2,hF2,-,hp2,hO2,hS⟩:=hS;simp only [fRes]
 go_wp2_with (with_reducible first|refine stA 11 hS sizeOf54 fun _ hS=>?_|refine stA 12 hS sizeOf43 fun _ hS=>?_|refine ldB 12 hS isAgg43 ?_)
 first|rw [rounds_succ]
 go_wp2_with (first|((with_reducible refine g_ix (T:=292) ?_);refine seq_any rfl (any_ix1 (i:=2) (T:=292) (E:=291) underlying292 sizeOf291 isAgg291 rfl rfl rfl (by decide) rfl ?_);simp only [NRM])|(go_at_call 221;go_in))
 refine rg0 [.r 0,.r 1,.r 2,.e 3,.p 4,.p 5,.p 6,.p 7,.m 8,.m 9] [8,9] hS fun w1 hS=>?_
 repeat (with_reducible first|refine sldB 8 isAgg3 ?_|refine sldA 10 isAgg54 sizeOf54 ?_|refine sldA 11 isAgg54 sizeOf54 ?_)
 have hC:=hS;refine exL ?_
 go_wp2_with (fail)
 refine (mulF_any x y (b.x - a.x) (c.y - a.y) (k+k+1) (k+k+1) _ S2 (hx.at hS hF2) (hy.at hS hF2) (Liv.at hS hF2) (kb.1.sub ka.1) (kc.2.sub ka.2) (by omega)).mono ?_;rintro e w' ⟨z1,S3,rfl,hq3,hz1⟩;simp only [fRes];go_step;have hp:=(hp.at hS hF2).grow hq3;have hq:=(hq.at hS hF2).grow hq3;have hr:=(hr.at hS hF2).grow hq3
 try (have hz1:=(hz1.at hS hF2).grow hq3)
 have hC:=(hC.call hq3.below hq3.drawn).sub (List.sublist_append_left _ _);replace hS:=hS.pcl hF2 hO2 hp2 hq3;obtain⟨F3,hF3,-,hp3,hO3,hS⟩:=hS;refine ext_end hC ?_;refine mvs ?_;refine muL ?_
 (with_reducible refine stA 7 hS sizeOf54 fun _ hS=>?_)
 refine mut_end ?_;refine mvs ?_;refine muL ?_
 (with_reducible refine stA 12 hS sizeOf43 fun _ hS=>?_)
 refine mut_end ?_;refine mvs ?_;refine snL ?_;clear hC
 go_wp2_with (with_reducible refine ldB 12 hS isAgg43 ?_)
 first|rw [rounds_succ]
 go_wp2;have hS:=hS.pick [0,1,2,3,4,5,6,7] rfl;simp only [NRF] at hS
 first|rw [rounds_succ]
 go_wp2_with (first|((with_reducible refine g_ix (T:=289) ?_);refine seq_any rfl (any_ixk (i:=1) (T:=289) (E:=288) underlying289 sizeOf288 isAgg288 rfl rfl rfl (by decide) rfl ?_);simp only [NRM])|(with_reducible first|refine alA hS zeroValue3 fun b11 wb11 hS=>?_|refine alA hS zeroValue288 fun b12 wb12 hS=>?_|refine alA hS zeroValue54 fun b13 wb13 hS=>?_|refine alA hS zeroValue43 fun b15 wb15 hS=>?_|refine alA hS zeroValue292 fun b16 wb16 hS=>?_|refine stA 8 hS sizeOf3 fun _ hS=>?_|refine stA 9 hS sizeOf288 fun _ hS=>?_|refine stA 13 hS sizeOf292 fun _ hS=>?_|refine ldA 13 hS isAgg292 sizeOf292 ?_))
 refine wp_loop_rounds 4 ?_;rw [rounds_succ]
 go_wp2_with (first|((with_reducible refine g_ix (T:=292) ?_);refine seq_any rfl (any_ix1 (i:=0) (T:=292) (E:=291) underlying292 sizeOf291 isAgg291 rfl rfl rfl (by decide) rfl ?_);simp only [NRM])|(go_at_call 219;go_in)|(with_reducible refine ldK 9 hS isAgg54 sizeOf54 ?_))
 refine (subF_any q.y p.y b.y a.y k k _ S3 (hq.y.at hS hF3) (hp.y.at hS hF3) (Liv.at hS hF3) kb.2 ka.2 (by omega)).mono ?_;rintro e w' ⟨x,S4,rfl,hq1,hx⟩;have hp:=(hp.at hS hF3).grow hq1;have hq:=(hq.at hS hF3).grow hq1;have hr:=(hr.at hS hF3).grow hq1
 try (have hz1:=(hz1.at hS hF3).grow hq1)
 replace hS:=hS.pcl hF3 hO3 hp3 hq1;obtain⟨F4,hF4,-,hp4,hO4,hS⟩:=hS;simp only [fRes]
 go_wp2_with (with_reducible first|refine stA 10 hS sizeOf54 fun _ hS=>?_|refine stA 12 hS sizeOf43 fun _ hS=>?_|refine ldB 12 hS isAgg43 ?_)
 first|rw [rounds_succ]
 go_wp2_with (first|((with_reducible refine g_ix (T:=292) ?_);refine seq_any rfl (any_ix1 (i:=1) (T:=292) (E:=291) underlying292 sizeOf291 isAgg291 rfl rfl rfl (by decide) rfl ?_);simp only [NRM])|(go_at_call 220;go_in)|(with_reducible refine ldK 9 hS isAgg54 sizeOf54 ?_))
 refine (subF_any r.x p.x c.x a.x k k _ S4 (hr.x.at hS hF4) (hp.x.at hS hF4) (Liv.at hS hF4) kc.1 ka.1 (by omega)).mono ?_;rintro e w' ⟨y,S5,rfl,hq2,hy⟩;have hp:=(hp.at hS hF4).grow hq2;have hq:=(hq.at hS hF4).grow hq2;have hr:=(hr.at hS hF4).grow hq2;have hx:=(hx.at hS hF4).grow hq2
 try (have hz1:=(hz1.at hS hF4).grow hq2)
 replace hS:=hS.pcl hF4 hO4 hp4 hq2;obtain⟨F5,hF5,-,hp5,hO5,hS⟩:=hS;simp only [fRes]
 go_wp2_with (with_reducible first|refine stA 11 hS sizeOf54 fun _ hS=>?_|refine stA 12 hS sizeOf43 fun _ hS=>?_|refine ldB 12 hS isAgg43 ?_)
 first|rw [rounds_succ]
 go_wp2_with (first|((with_reducible refine g_ix (T:=292) ?_);refine seq_any rfl (any_ix1 (i:=2) (T:=292) (E:=291) underlying292 sizeOf291 isAgg291 rfl rfl rfl (by decide) rfl ?_);simp only [NRM])|(go_at_call 221;go_in))
 refine rg0 [.r 0,.r 1,.r 2,.e 3,.p 4,.p 5,.p 6,.p 7,.m 8,.m 9] [8,9] hS fun w1 hS=>?_
 repeat (with_reducible first|refine sldB 8 isAgg3 ?_|refine sldA 10 isAgg54 sizeOf54 ?_|refine sldA 11 isAgg54 sizeOf54 ?_)
 have hC:=hS;refine exL ?_
 go_wp2_with (fail)
 refine (mulF_any x y (b.y - a.y) (c.x - a.x) (k+k+1) (k+k+1) _ S5 (hx.at hS hF5) (hy.at hS hF5) (Liv.at hS hF5) (kb.2.sub ka.2) (kc.1.sub ka.1) (by omega)).mono ?_;rintro e w' ⟨z2,S6,rfl,hq3,hz2⟩;simp only [fRes];go_step;have hp:=(hp.at hS hF5).grow hq3;have hq:=(hq.at hS hF5).grow hq3;have hr:=(hr.at hS hF5).grow hq3
 try (have hz1:=(hz1.at hS hF5).grow hq3)
 have hC:=(hC.call hq3.below hq3.drawn).sub (List.sublist_append_left _ _);replace hS:=hS.pcl hF5 hO5 hp5 hq3;obtain⟨F6,hF6,-,hp6,hO6,hS⟩:=hS;refine ext_end hC ?_;refine mvs ?_;refine muL ?_
 (with_reducible refine stA 7 hS sizeOf54 fun _ hS=>?_)
 refine mut_end ?_;refine mvs ?_;refine muL ?_
 (with_reducible refine stA 12 hS sizeOf43 fun _ hS=>?_)
 refine mut_end ?_;refine mvs ?_;refine snL ?_;clear hC
 go_wp2_with (with_reducible refine ldB 12 hS isAgg43 ?_)
 first|rw [rounds_succ]
 go_wp2;have hS:=hS.pick [0,1,2,3,4,5,6,7] rfl;simp only [NRF] at hS
 first|rw [rounds_succ]
 go_wp2_with (with_reducible refine ldK 7 hS isAgg54 sizeOf54 ?_)
 refine (subF_any z1 z2 _ _ (k+k+1+(k+k+1)) (k+k+1+(k+k+1)) _ S6 (hz1.at hS hF6) (hz2.at hS hF6) (Liv.at hS hF6) ((kb.1.sub ka.1).mul (kc.2.sub ka.2)) ((kb.2.sub ka.2).mul (kc.1.sub ka.1)) (by omega)).mono ?_;rintro e w' ⟨z,S7,rfl,hq7,hz⟩;replace hS:=hS.pcl hF6 hO6 hp6 hq7;obtain⟨F7,hF7,-,hp7,hO7,hS⟩:=hS;simp only [fRes]
 go_wp2_with (with_reducible first|refine alA hS zeroValue54 fun b20 wb20 hS=>?_|refine stA 8 hS sizeOf54 fun _ hS=>?_|refine stA 4 hS sizeOf54 fun _ hS=>?_|refine ldA 8 hS isAgg54 sizeOf54 ?_)
 exact ret_ct 4 hS rfl rfl rfl isAgg54 sizeOf54 rfl rfl ⟨z,S7,rfl,hp7.step hS hO7 hF7,hz.at hS hF7⟩
theorem cmpZ_num (q:Rat):cmpZ q.num 0=cmpQ q 0:=by
 have h1:=Rat.lt_iff q 0;have h2:=Rat.lt_iff 0 q;simp at h1 h2;unfold cmpZ cmpQ;simp only [h1,h2]
theorem side_any (p q r:PR) (a b c:Pt) (k:Nat) (w:World) (S:Nat→Prop) (hp:IsP w S p a) (hq:IsP w S q b) (hr:IsP w S r c) (hL:Liv w S) (ka:Bq k a.x∧Bq k a.y) (kb:Bq k b.x∧Bq k b.y) (kc:Bq k c.x∧Bq k c.y) (hk:8*k+8≤16384) :
 Calls Tryz.prog 101 #[.agg #[.bool p.x.num.neg,.slice p.x.num.ad p.x.num.n p.x.num.cap,.bool p.x.less.neg,.slice p.x.less.ad p.x.less.n p.x.less.cap,.bool p.y.num.neg,.slice p.y.num.ad p.y.num.n p.y.num.cap,.bool p.y.less.neg,.slice p.y.less.ad p.y.less.n p.y.less.cap],.agg #[.bool q.x.num.neg,.slice q.x.num.ad q.x.num.n q.x.num.cap,.bool q.x.less.neg,.slice q.x.less.ad q.x.less.n q.x.less.cap,.bool q.y.num.neg,.slice q.y.num.ad q.y.num.n q.y.num.cap,.bool q.y.less.neg,.slice q.y.less.ad q.y.less.n q.y.less.cap],.agg #[.bool r.x.num.neg,.slice r.x.num.ad r.x.num.n r.x.num.cap,.bool r.x.less.neg,.slice r.x.less.ad r.x.less.n r.x.less.cap,.bool r.y.num.neg,.slice r.y.num.ad r.y.num.n r.y.num.cap,.bool r.y.less.neg,.slice r.y.less.ad r.y.less.n r.y.less.cap]] w fun e w'=>e=.returned (.tuple #[.int .i64 (cmpQ (area a b c) 0),.int .i64 0])∧Pure w S w' S:=by
 obtain⟨hS,hF0,hO0,hp0⟩:=st0 hL
 go_enter func101,ntmps101
 go_wp2_with (with_reducible first|refine bxA hS fun bx wbx hS=>?_|refine ldA 1 hS isAgg56 sizeOf56 ?_|refine ldA 2 hS isAgg56 sizeOf56 ?_|refine ldA 3 hS isAgg56 sizeOf56 ?_)
 refine (area_any p q r a b c k _ S (hp.at hS hF0) (hq.at hS hF0) (hr.at hS hF0) (Liv.at hS hF0) ka kb kc hk).mono ?_;rintro e w' ⟨z,S1,rfl,hq1,hz⟩;replace hS:=hS.pcl hF0 hO0 hp0 hq1;obtain⟨F1,hF1,-,hp1,hO1,hS⟩:=hS;simp only [fRes]
 go_wp2_with (with_reducible first|refine alA hS zeroValue54 fun b8 wb8 hS=>?_|refine stA 4 hS sizeOf54 fun _ hS=>?_|refine ldA 4 hS isAgg54 sizeOf54 ?_)
 refine (signF_any z _ _ S1 (hz.at hS hF1) (Liv.at hS hF1)).mono ?_;rintro e w' ⟨rfl,hq2⟩;rw [cmpZ_num];replace hS:=hS.pcl hF1 hO1 hp1 hq2;obtain⟨F2,hF2,-,hp2,hO2,hS⟩:=hS;simp only [];go_wp2;refine bodyPost_ret (results_tmp2 rfl _ _ _) rfl ?_;exact⟨rfl,(hp2.step hS hO2 hF2).back⟩
end Go.Proofs
