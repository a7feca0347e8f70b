/- Texts for the walk of the law: D7 D8. -/
import Derived.Test.YtihpoboahbpaiaaGreatQ18
set_option maxRecDepth 100000
set_option maxHeartbeats 16000000
set_option linter.unusedVariables false
set_option linter.unusedSimpArgs false
namespace Go.Hp
open Go.Proofs.Tryz
open Go
theorem areaZ_bd {a b p:Gp} (ha:a.ok) (hb:b.ok) (hp:p.ok):(areaZ a b p).natAbs<2 ^ 67:=by
 unfold Gp.ok okC at *;unfold areaZ;have h1:=mul_lt_two (a:=(b.x - a.x).natAbs) (b:=(p.y - a.y).natAbs) (j:=33) (k:=33) (by omega) (by omega);have h2:=mul_lt_two (a:=(b.y - a.y).natAbs) (b:=(p.x - a.x).natAbs) (j:=33) (k:=33) (by omega) (by omega);rw [← Int.natAbs_mul] at h1 h2;generalize (b.x - a.x)*(p.y - a.y)=u at *;generalize (b.y - a.y)*(p.x - a.x)=v at *;have:(2:Nat) ^ 67=2 ^ 66+2 ^ 66:=by decide
 omega
theorem Bq.div {j k:Nat} {a b:Rat} (ha:Bq j a) (hb:Bq k b) (h0:b≠0):Bq (j+k) (a / b):=by
 rw [Rat.div_def];exact ha.mul (hb.inv h0)
end Go.Hp
namespace Go.Proofs
open Go.Proofs.Tryz
open Go.RowKit Go.Hp
theorem areaC_any (s:Sz) (p:Gp) (w:World) (S:Nat→Prop) (hL:Liv w S) (ha:s.a.ok) (hb:s.b.ok) (hc:p.ok) :
 Calls Tryz.prog 230 #[.agg #[.int .i64 s.a.x,.int .i64 s.a.y,.int .i64 s.b.x,.int .i64 s.b.y],.agg #[.int .i64 p.x,.int .i64 p.y]] w (GRes w S (areaZ s.a s.b p:Rat)):=by
 unfold Gp.ok okC at ha hb hc;have w1:IntKind.i64.wrap (s.b.x - s.a.x)=s.b.x - s.a.x:=w6;have w2:IntKind.i64.wrap (p.y - s.a.y)=p.y - s.a.y:=w6;have w3:IntKind.i64.wrap (s.b.y - s.a.y)=s.b.y - s.a.y:=w6;have w4:IntKind.i64.wrap (p.x - s.a.x)=p.x - s.a.x:=w6;have i1:InI (s.b.x - s.a.x):=by unfold InI;omega
 have i2:InI (p.y - s.a.y):=by unfold InI;omega
 have i3:InI (s.b.y - s.a.y):=by unfold InI;omega
 have i4:InI (p.x - s.a.x):=by unfold InI;omega
 have b1:Bq 33 ((s.b.x - s.a.x:Int):Rat):=Bq.int (by omega) (by omega);have b2:Bq 33 ((p.y - s.a.y:Int):Rat):=Bq.int (by omega) (by omega);have b3:Bq 33 ((s.b.y - s.a.y:Int):Rat):=Bq.int (by omega) (by omega);have b4:Bq 33 ((p.x - s.a.x:Int):Rat):=Bq.int (by omega) (by omega);clear ha hb hc
 have har:(areaZ s.a s.b p:Rat)=((s.b.x - s.a.x:Int):Rat)*((p.y - s.a.y:Int):Rat) - ((s.b.y - s.a.y:Int):Rat)*((p.x - s.a.x:Int):Rat):=by
  unfold areaZ;simp [Rat.intCast_sub,Rat.intCast_mul]
 rw [har];clear har;obtain⟨hS,hF0,hO0,hp0⟩:=st0 hL
 go_enter func230,ntmps230
 go_wp2_with (with_reducible first|refine bxA hS fun bx wbx hS=>?_|refine alA hS zeroValue54 fun br wbr hS=>?_)
 refine wp_region_box 1 [.p 0,.p 1,.r 2,.p 3,.p 4,.r 5,.p 6,.p 8,.r 9,.p 10,.p 11,.r 12,.p 13,.e 7,.e 14,.e 15,.p 16,.p 17,.p 18] [.e 20,.p 21] [] [bxz 19 5 54 (.agg #[.bool false,.slice none 0 0,.bool false,.slice none 0 0])] w _ (by kernel_rfl) (by kernel_rfl) (boxesOk1 rfl zeroValue54) hS.drew ?_;obtain⟨hsC,hkC⟩:=hS.cstart
 repeat (with_reducible first|refine pldB 1 isAgg3 ?_|refine pldB 2 isAgg3 ?_|refine ppL ?_)
 refine pre_ext rfl (fun B wB hS=>?_);simp only [NRH] at hS
 go_wp2_with (fail)
 refine (ofC_any (s.b.x - s.a.x) _ S i1 (Liv.at hS hF0)).mono ?_;rintro e w' ⟨u,S1,rfl,hq1,hu⟩;simp only [];go_step
 try (have hz1:=(hz1.at hS hF0).grow hq1)
 have hkC:=Heap.keepC hS hq1.below hsC hkC;replace hS:=hS.pcl hF0 hO0 hp0 hq1;obtain⟨F1,hF1,hOO1,hp1,hO1,hS⟩:=hS;have hsC:=SubC.trans hsC hOO1;refine pre_end (H:=_) hS hsC hkC ?_;refine mvp ?_;refine pre_ext rfl (fun B wB hS=>?_);simp only [NRH] at hS
 go_wp2_with (fail)
 refine (ofC_any (p.y - s.a.y) _ S1 i2 (Liv.at hS hF1)).mono ?_;rintro e w' ⟨v,S2,rfl,hq2,hv⟩;simp only [];go_step;have hu:=(hu.at hS hF1).grow hq2
 try (have hz1:=(hz1.at hS hF1).grow hq2)
 have hkC:=Heap.keepC hS hq2.below hsC hkC;replace hS:=hS.pcl hF1 hO1 hp1 hq2;obtain⟨F2,hF2,hOO2,hp2,hO2,hS⟩:=hS;have hsC:=SubC.trans hsC hOO2;refine pre_end (H:=_) hS hsC hkC ?_;refine mvp ?_;refine pre_ext rfl (fun B wB hS=>?_);simp only [NRH] at hS
 go_wp2_with (fail)
 refine (mulF_any u v _ _ 33 33 _ S2 (hu.at hS hF2) (hv.at hS hF2) (Liv.at hS hF2) b1 b2 (by omega)).mono ?_;rintro e w' ⟨z1,S3,rfl,hq3,hz1⟩;simp only [fRes];go_step
 try (have hz1:=(hz1.at hS hF2).grow hq3)
 have hkC:=Heap.keepC hS hq3.below hsC hkC;replace hS:=hS.pcl hF2 hO2 hp2 hq3;obtain⟨F3,hF3,hOO3,hp3,hO3,hS⟩:=hS;have hsC:=SubC.trans hsC hOO3;refine pre_end (H:=_) hS hsC hkC ?_;refine mvp ?_;refine pre_nil1 (fun bq wB hS=>?_);simp only [NRH] at hS;simp only [NRM];refine exL ?_
 (with_reducible refine stA 4 hS sizeOf54 fun _ hS=>?_)
 refine ext_end (Heap.toC hS.sb hsC hkC) ?_;refine mvs ?_;refine snL ?_;clear hsC hkC;go_wp2;refine wp_region_box 1 [.p 0,.p 1,.r 2,.p 3,.p 4,.r 5,.p 6,.p 8,.r 9,.p 10,.p 11,.r 12,.p 13,.e 7,.e 14,.e 15,.p 16,.p 17,.p 18] [.e 20,.p 21] [] [bxz 19 7 54 (.agg #[.bool false,.slice none 0 0,.bool false,.slice none 0 0])] w _ (by kernel_rfl) (by kernel_rfl) (boxesOk1 rfl zeroValue54) hS.drew ?_;obtain⟨hsC,hkC⟩:=hS.cstart
 repeat (with_reducible first|refine pldB 1 isAgg3 ?_|refine pldB 2 isAgg3 ?_|refine ppL ?_)
 refine pre_ext rfl (fun B wB hS=>?_);simp only [NRH] at hS
 go_wp2_with (fail)
 refine (ofC_any (s.b.y - s.a.y) _ S3 i3 (Liv.at hS hF3)).mono ?_;rintro e w' ⟨u,S4,rfl,hq1,hu⟩;simp only [];go_step
 try (have hz1:=(hz1.at hS hF3).grow hq1)
 have hkC:=Heap.keepC hS hq1.below hsC hkC;replace hS:=hS.pcl hF3 hO3 hp3 hq1;obtain⟨F4,hF4,hOO4,hp4,hO4,hS⟩:=hS;have hsC:=SubC.trans hsC hOO4;refine pre_end (H:=_) hS hsC hkC ?_;refine mvp ?_;refine pre_ext rfl (fun B wB hS=>?_);simp only [NRH] at hS
 go_wp2_with (fail)
 refine (ofC_any (p.x - s.a.x) _ S4 i4 (Liv.at hS hF4)).mono ?_;rintro e w' ⟨v,S5,rfl,hq2,hv⟩;simp only [];go_step;have hu:=(hu.at hS hF4).grow hq2
 try (have hz1:=(hz1.at hS hF4).grow hq2)
 have hkC:=Heap.keepC hS hq2.below hsC hkC;replace hS:=hS.pcl hF4 hO4 hp4 hq2;obtain⟨F5,hF5,hOO5,hp5,hO5,hS⟩:=hS;have hsC:=SubC.trans hsC hOO5;refine pre_end (H:=_) hS hsC hkC ?_;refine mvp ?_;refine pre_ext rfl (fun B wB hS=>?_);simp only [NRH] at hS
 go_wp2_with (fail)
 refine (mulF_any u v _ _ 33 33 _ S5 (hu.at hS hF5) (hv.at hS hF5) (Liv.at hS hF5) b3 b4 (by omega)).mono ?_;rintro e w' ⟨z2,S6,rfl,hq3,hz2⟩;simp only [fRes];go_step
 try (have hz1:=(hz1.at hS hF5).grow hq3)
 have hkC:=Heap.keepC hS hq3.below hsC hkC;replace hS:=hS.pcl hF5 hO5 hp5 hq3;obtain⟨F6,hF6,hOO6,hp6,hO6,hS⟩:=hS;have hsC:=SubC.trans hsC hOO6;refine pre_end (H:=_) hS hsC hkC ?_;refine mvp ?_;refine pre_nil1 (fun bq wB hS=>?_);simp only [NRH] at hS;simp only [NRM];refine exL ?_
 (with_reducible refine stA 5 hS sizeOf54 fun _ hS=>?_)
 refine ext_end (Heap.toC hS.sb hsC hkC) ?_;refine mvs ?_;refine snL ?_;clear hsC hkC
 go_wp2_with (with_reducible first|refine ldA 4 hS isAgg54 sizeOf54 ?_|refine ldA 5 hS isAgg54 sizeOf54 ?_)
 refine (subF_any z1 z2 _ _ (33+33) (33+33) _ S6 (hz1.at hS hF6) (hz2.at hS hF6) (Liv.at hS hF6) (b1.mul b2) (b3.mul b4) (by omega)).mono ?_;rintro e w' ⟨z,S7,rfl,hq7,hz⟩;replace hS:=hS.pcl hF6 hO6 hp6 hq7;obtain⟨F7,hF7,-,hp7,hO7,hS⟩:=hS;simp only [fRes]
 go_wp2_with (with_reducible first|refine alA hS zeroValue54 fun b20 wb20 hS=>?_|refine stA 6 hS sizeOf54 fun _ hS=>?_|refine stA 3 hS sizeOf54 fun _ hS=>?_|refine ldA 6 hS isAgg54 sizeOf54 ?_)
 exact ret_c 3 hS rfl rfl rfl isAgg54 sizeOf54 rfl rfl ⟨z,S7,rfl,hp7.step hS hO7 hF7,hz.at hS hF7⟩
theorem along_any (f t:Int) (x:FR) (q:Rat) (k:Nat) (w:World) (S:Nat→Prop) (hx:IsF w S x q) (hL:Liv w S) (hf:okC f) (ht:okC t) (hk:Bq k q) (hk2:k≤1000) :
 Calls Tryz.prog 231 #[.int .i64 f,.int .i64 t,.agg #[.bool x.num.neg,.slice x.num.ad x.num.n x.num.cap,.bool x.less.neg,.slice x.less.ad x.less.n x.less.cap]] w (GRes w S ((f:Rat)+((t - f:Int):Rat)*q)):=by
 unfold okC at hf ht;have w1:IntKind.i64.wrap (t - f)=t - f:=w6;have i1:InI (t - f):=by unfold InI;omega
 have i2:InI f:=by unfold InI;omega
 have b1:Bq 33 ((t - f:Int):Rat):=Bq.int (by omega) (by omega);have b2:Bq 33 ((f:Int):Rat):=Bq.int (by omega) (by omega);clear hf ht;obtain⟨hS,hF0,hO0,hp0⟩:=st0 hL
 go_enter func231,ntmps231
 go_wp2_with (with_reducible first|refine bxA hS fun bx wbx hS=>?_|refine alA hS zeroValue54 fun br wbr hS=>?_)
 refine wp_region_box 1 [.p 0,.p 1,.p 2,.r 4,.e 3,.e 5,.p 6,.p 7,.p 8] [.e 10,.p 11] [] [bxz 9 7 54 (.agg #[.bool false,.slice none 0 0,.bool false,.slice none 0 0])] w _ (by kernel_rfl) (by kernel_rfl) (boxesOk1 rfl zeroValue54) hS.drew ?_;obtain⟨hsC,hkC⟩:=hS.cstart
 repeat (with_reducible first|refine pldA 1 isAgg54 sizeOf54 ?_|refine ppL ?_)
 refine pre_ext rfl (fun B wB hS=>?_);simp only [NRH] at hS
 go_wp2_with (fail)
 refine (ofC_any (t - f) _ S i1 (Liv.at hS hF0)).mono ?_;rintro e w' ⟨u,S1,rfl,hq1,hu⟩;simp only [];go_step;have hx:=(hx.at hS hF0).grow hq1;have hkC:=Heap.keepC hS hq1.below hsC hkC;replace hS:=hS.pcl hF0 hO0 hp0 hq1;obtain⟨F1,hF1,hOO1,hp1,hO1,hS⟩:=hS;have hsC:=SubC.trans hsC hOO1;refine pre_end (H:=_) hS hsC hkC ?_;refine mvp ?_;refine pre_ext rfl (fun B wB hS=>?_);simp only [NRH] at hS
 go_wp2_with (fail)
 refine (mulF_any u x _ _ 33 k _ S1 (hu.at hS hF1) (hx.at hS hF1) (Liv.at hS hF1) b1 hk (by omega)).mono ?_;rintro e w' ⟨z,S2,rfl,hq2,hz⟩;simp only [fRes];go_step;have hkC:=Heap.keepC hS hq2.below hsC hkC;replace hS:=hS.pcl hF1 hO1 hp1 hq2;obtain⟨F2,hF2,hOO2,hp2,hO2,hS⟩:=hS;have hsC:=SubC.trans hsC hOO2;refine pre_end (H:=_) hS hsC hkC ?_;refine mvp ?_;refine pre_nil1 (fun bq wB hS=>?_);simp only [NRH] at hS;simp only [NRM];refine exL ?_
 (with_reducible refine stA 3 hS sizeOf54 fun _ hS=>?_)
 refine ext_end (Heap.toC hS.sb hsC hkC) ?_;refine mvs ?_;refine snL ?_;clear hsC hkC;go_wp2;refine wp_region_box 1 [.p 0,.r 2,.e 1,.e 3,.p 4,.p 5,.p 6] [.e 8,.p 9] [] [bxz 7 9 54 (.agg #[.bool false,.slice none 0 0,.bool false,.slice none 0 0])] w _ (by kernel_rfl) (by kernel_rfl) (boxesOk1 rfl zeroValue54) hS.drew ?_;obtain⟨hsC,hkC⟩:=hS.cstart
 repeat (with_reducible first|refine pldA 3 isAgg54 sizeOf54 ?_|refine ppL ?_)
 refine pre_ext rfl (fun B wB hS=>?_);simp only [NRH] at hS
 go_wp2_with (fail)
 refine (ofC_any f _ S2 i2 (Liv.at hS hF2)).mono ?_;rintro e w' ⟨v,S3,rfl,hq3,hv⟩;simp only [];go_step;have hz:=(hz.at hS hF2).grow hq3;have hkC:=Heap.keepC hS hq3.below hsC hkC;replace hS:=hS.pcl hF2 hO2 hp2 hq3;obtain⟨F3,hF3,hOO3,hp3,hO3,hS⟩:=hS;have hsC:=SubC.trans hsC hOO3;refine pre_end (H:=_) hS hsC hkC ?_;refine mvp ?_;refine pre_ext rfl (fun B wB hS=>?_);simp only [NRH] at hS
 go_wp2_with (fail)
 refine (addF_any v z _ _ 33 (33+k) _ S3 (hv.at hS hF3) (hz.at hS hF3) (Liv.at hS hF3) b2 (b1.mul hk) (by omega)).mono ?_;rintro e w' ⟨y,S4,rfl,hq4,hy⟩;simp only [fRes];go_step;have hkC:=Heap.keepC hS hq4.below hsC hkC;replace hS:=hS.pcl hF3 hO3 hp3 hq4;obtain⟨F4,hF4,hOO4,hp4,hO4,hS⟩:=hS;have hsC:=SubC.trans hsC hOO4;refine pre_end (H:=_) hS hsC hkC ?_;refine mvp ?_;refine pre_nil1 (fun bq2 wB hS=>?_);simp only [NRH] at hS;simp only [NRM];refine exL ?_
 (with_reducible refine stA 4 hS sizeOf54 fun _ hS=>?_)
 refine ext_end (Heap.toC hS.sb hsC hkC) ?_;refine mvs ?_;refine snL ?_;clear hsC hkC
 go_wp2_with (with_reducible first|refine ldA 4 hS isAgg54 sizeOf54 ?_|refine stA 2 hS sizeOf54 fun _ hS=>?_)
 exact ret_c 2 hS rfl rfl rfl isAgg54 sizeOf54 rfl rfl ⟨y,S4,rfl,hp4.step hS hO4 hF4,hy.at hS hF4⟩
end Go.Proofs
namespace Go.Hp
open Go.Proofs.Tryz
open Go
theorem crossing_eq (s t:Sz):crossing s.sg t.sg=⟨(s.a.x:Rat)+((s.b.x - s.a.x:Int):Rat)*((areaZ t.a t.b s.a:Rat) / ((areaZ t.a t.b s.a:Rat) - (areaZ t.a t.b s.b:Rat))),(s.a.y:Rat)+((s.b.y - s.a.y:Int):Rat)*((areaZ t.a t.b s.a:Rat) / ((areaZ t.a t.b s.a:Rat) - (areaZ t.a t.b s.b:Rat)))⟩:=by
 unfold crossing;rw [← areaZ_pt,← areaZ_pt,Rat.intCast_sub,Rat.intCast_sub,Rat.mul_comm ((s.b.x:Rat) - (s.a.x:Rat)),Rat.mul_comm ((s.b.y:Rat) - (s.a.y:Rat))]
 rfl
theorem crossing_bq {s t:Sz} (hs:s.a.ok∧s.b.ok) (ht:t.a.ok∧t.b.ok) (hd:areaZ t.a t.b s.a≠areaZ t.a t.b s.b):Bq 300 (crossing s.sg t.sg).x∧Bq 300 (crossing s.sg t.sg).y∧Bq 202 ((areaZ t.a t.b s.a:Rat) / ((areaZ t.a t.b s.a:Rat) - (areaZ t.a t.b s.b:Rat))):=by
 have hA:=Bq.int (k:=67) (by omega) (areaZ_bd ht.1 ht.2 hs.1);have hB:=Bq.int (k:=67) (by omega) (areaZ_bd ht.1 ht.2 hs.2)
 have h0:(areaZ t.a t.b s.a:Rat) - (areaZ t.a t.b s.b:Rat)≠0:=by
  rw [← Rat.intCast_sub,Ne,Rat.intCast_eq_zero_iff];omega
 have hq:=hA.div (hA.sub hB) h0;rw [crossing_eq];obtain⟨⟨a1,a2⟩,⟨a3,a4⟩⟩:=hs;unfold okC at *;have k1:Bq 33 (s.a.x:Rat):=Bq.int (by omega) (by omega);have k2:Bq 33 (s.a.y:Rat):=Bq.int (by omega) (by omega);have k3:Bq 33 ((s.b.x - s.a.x:Int):Rat):=Bq.int (by omega) (by omega);have k4:Bq 33 ((s.b.y - s.a.y:Int):Rat):=Bq.int (by omega) (by omega);exact⟨(k1.add (k3.mul hq)).mono (by omega),(k2.add (k4.mul hq)).mono (by omega),hq⟩
def p0:PR:=⟨⟨⟨false,none,0,0⟩,⟨false,none,0,0⟩⟩,⟨⟨false,none,0,0⟩,⟨false,none,0,0⟩⟩⟩
def CRes (w:World) (S:Nat→Prop) (l:List Pt) (e:Ending) (w':World):Prop :=
 (l=[]∧e=.returned (.agg #[.int .i64 0,.bool p0.x.num.neg,.slice p0.x.num.ad p0.x.num.n p0.x.num.cap,.bool p0.x.less.neg,.slice p0.x.less.ad p0.x.less.n p0.x.less.cap,.bool p0.y.num.neg,.slice p0.y.num.ad p0.y.num.n p0.y.num.cap,.bool p0.y.less.neg,.slice p0.y.less.ad p0.y.less.n p0.y.less.cap,.bool p0.x.num.neg,.slice p0.x.num.ad p0.x.num.n p0.x.num.cap,.bool p0.x.less.neg,.slice p0.x.less.ad p0.x.less.n p0.x.less.cap,.bool p0.y.num.neg,.slice p0.y.num.ad p0.y.num.n p0.y.num.cap,.bool p0.y.less.neg,.slice p0.y.less.ad p0.y.less.n p0.y.less.cap])∧Pure w S w' S) ∨
 (∃ p z S',l=[p]∧e=.returned (.agg #[.int .i64 1,.bool z.x.num.neg,.slice z.x.num.ad z.x.num.n z.x.num.cap,.bool z.x.less.neg,.slice z.x.less.ad z.x.less.n z.x.less.cap,.bool z.y.num.neg,.slice z.y.num.ad z.y.num.n z.y.num.cap,.bool z.y.less.neg,.slice z.y.less.ad z.y.less.n z.y.less.cap,.bool p0.x.num.neg,.slice p0.x.num.ad p0.x.num.n p0.x.num.cap,.bool p0.x.less.neg,.slice p0.x.less.ad p0.x.less.n p0.x.less.cap,.bool p0.y.num.neg,.slice p0.y.num.ad p0.y.num.n p0.y.num.cap,.bool p0.y.less.neg,.slice p0.y.less.ad p0.y.less.n p0.y.less.cap])∧Pure w S w' S'∧IsP w' S' z p) ∨
 (∃ p q z y S',l=[p,q]∧e=.returned (.agg #[.int .i64 2,.bool z.x.num.neg,.slice z.x.num.ad z.x.num.n z.x.num.cap,.bool z.x.less.neg,.slice z.x.less.ad z.x.less.n z.x.less.cap,.bool z.y.num.neg,.slice z.y.num.ad z.y.num.n z.y.num.cap,.bool z.y.less.neg,.slice z.y.less.ad z.y.less.n z.y.less.cap,.bool y.x.num.neg,.slice y.x.num.ad y.x.num.n y.x.num.cap,.bool y.x.less.neg,.slice y.x.less.ad y.x.less.n y.x.less.cap,.bool y.y.num.neg,.slice y.y.num.ad y.y.num.n y.y.num.cap,.bool y.y.less.neg,.slice y.y.less.ad y.y.less.n y.y.less.cap])∧Pure w S w' S'∧IsP w' S' z p∧IsP w' S' y q)
def lineZ (s t:Sz):List Pt :=
 let f:=if s.a.lt t.a then t.a else s.a
 let g:=if t.b.lt s.b then t.b else s.b
 if f=g then [f.pt] else if g.lt f then [] else [f.pt,g.pt]
theorem lineZ_eq (s t:Sz):lineZ s.nrm t.nrm=lineL s.sg t.sg:=by
 obtain⟨e1,e2⟩:=s.nrm_lo;obtain⟨e3,e4⟩:=t.nrm_lo;unfold lineZ lineL;rw [← e1,← e2,← e3,← e4];simp only [Gp.lt_pt];generalize s.nrm.a=a;generalize s.nrm.b=b;generalize t.nrm.a=c;generalize t.nrm.b=d;have h1:(if a.lt c then c.pt else a.pt)=(if a.lt c then c else a).pt:=by split <;> rfl
 have h2:(if d.lt b then d.pt else b.pt)=(if d.lt b then d else b).pt:=by split <;> rfl
 rw [h1,h2];simp only [Gp.pt_inj,Gp.lt_pt]
theorem castMin (a b:Int):min (a:Rat) (b:Rat)=((min a b:Int):Rat):=by
 rcases Int.le_total a b with h|h
 ·have:(a:Rat)≤(b:Rat):=Rat.intCast_le_intCast.2 h
  rw [Int.min_eq_left h];grind
 ·have:(b:Rat)≤(a:Rat):=Rat.intCast_le_intCast.2 h
  rw [Int.min_eq_right h];grind
theorem castMax (a b:Int):max (a:Rat) (b:Rat)=((max a b:Int):Rat):=by
 rcases Int.le_total a b with h|h
 ·have:(a:Rat)≤(b:Rat):=Rat.intCast_le_intCast.2 h
  rw [Int.max_eq_right h];grind
 ·have:(b:Rat)≤(a:Rat):=Rat.intCast_le_intCast.2 h
  rw [Int.max_eq_left h];grind
theorem boxes_iff (s t:Sz):boxesMeet s.sg t.sg↔(max s.bx.x0 t.bx.x0≤min s.bx.x1 t.bx.x1∧max s.bx.y0 t.bx.y0≤min s.bx.y1 t.bx.y1):=by
 unfold boxesMeet Sz.sg Gp.pt Sz.bx;simp only [castMin,castMax,Rat.intCast_le_intCast]
theorem sgnZ_mul (a b:Int):0<sgnZ a*sgnZ b↔0<a*b:=by
 unfold sgnZ
 rcases Int.lt_trichotomy a 0 with h|h|h
 ·rw [if_pos h]
  rcases Int.lt_trichotomy b 0 with g|g|g
  ·rw [if_pos g];have:=Int.mul_pos_of_neg_of_neg h g;simp [this]
  ·subst g;simp
  ·rw [if_neg (by omega),if_pos g];have:=Int.mul_neg_of_neg_of_pos h g;omega
 ·subst h;simp
 ·rw [if_neg (by omega),if_pos h]
  rcases Int.lt_trichotomy b 0 with g|g|g
  ·rw [if_pos g];have:=Int.mul_neg_of_pos_of_neg h g;omega
  ·subst g;simp
  ·rw [if_neg (by omega),if_pos g];have:=Int.mul_pos h g;simp [this]
theorem sgnZ_zero {a:Int}:sgnZ a=0↔a=0:=by unfold sgnZ;split <;> (try split) <;> omega
theorem sgnZ_bd (a:Int):-1≤sgnZ a∧sgnZ a≤1:=by unfold sgnZ;split <;> (try split) <;> omega
theorem meetL_eq (s t:Sz):meetL s.sg t.sg=if ¬ (max s.bx.x0 t.bx.x0≤min s.bx.x1 t.bx.x1∧max s.bx.y0 t.bx.y0≤min s.bx.y1 t.bx.y1) then [] else
 if sgnZ (areaZ t.a t.b s.a)=0∧sgnZ (areaZ t.a t.b s.b)=0 then lineZ s.nrm t.nrm else
 if 0<sgnZ (areaZ t.a t.b s.a)*sgnZ (areaZ t.a t.b s.b)∨0<sgnZ (areaZ s.a s.b t.a)*sgnZ (areaZ s.a s.b t.b) then [] else [crossing s.sg t.sg]:=by
 unfold meetL;simp only [boxes_iff,lineZ_eq,sgnZ_mul,sgnZ_zero];have e1:area t.sg.a t.sg.b s.sg.a=(areaZ t.a t.b s.a:Rat):=areaZ_pt ..;have e2:area t.sg.a t.sg.b s.sg.b=(areaZ t.a t.b s.b:Rat):=areaZ_pt ..;have e3:area s.sg.a s.sg.b t.sg.a=(areaZ s.a s.b t.a:Rat):=areaZ_pt ..;have e4:area s.sg.a s.sg.b t.sg.b=(areaZ s.a s.b t.b:Rat):=areaZ_pt ..;rw [e1,e2,e3,e4]
 have h0:∀ z:Int,0<(z:Rat)↔0<z:=fun z=>by
  have:=@Rat.intCast_lt_intCast 0 z
  simpa using this
 simp only [Rat.intCast_eq_zero_iff,← Rat.intCast_mul,h0]
end Go.Hp
namespace Go.Proofs
open Go.Proofs.Tryz
open Go.RowKit Go.Hp
theorem crossing_any (s t:Sz) (w:World) (S:Nat→Prop) (hL:Liv w S) (hs:s.a.ok∧s.b.ok) (ht:t.a.ok∧t.b.ok) (hd:areaZ t.a t.b s.a≠areaZ t.a t.b s.b) :
 Calls Tryz.prog 173 #[.agg #[.int .i64 s.a.x,.int .i64 s.a.y,.int .i64 s.b.x,.int .i64 s.b.y],.agg #[.int .i64 t.a.x,.int .i64 t.a.y,.int .i64 t.b.x,.int .i64 t.b.y]] w (PRes w S (crossing s.sg t.sg)):=by
 obtain⟨_,_,hqb⟩:=crossing_bq hs ht hd;have hA:=Bq.int (k:=67) (by omega) (areaZ_bd ht.1 ht.2 hs.1);have hB:=Bq.int (k:=67) (by omega) (areaZ_bd ht.1 ht.2 hs.2)
 have h0:(areaZ t.a t.b s.a:Rat) - (areaZ t.a t.b s.b:Rat)≠0:=by
  rw [← Rat.intCast_sub,Ne,Rat.intCast_eq_zero_iff];omega
 rw [crossing_eq];have ar1:=fun w S hL=>areaC_any t s.a w S hL ht.1 ht.2 hs.1
 have ar2:=fun w S hL=>areaC_any t s.b w S hL ht.1 ht.2 hs.2
 clear hd;have e1:∃ q,q=(areaZ t.a t.b s.a:Rat):=⟨_,rfl⟩;obtain⟨qa,eA⟩:=e1;have e2:∃ q,q=(areaZ t.a t.b s.b:Rat):=⟨_,rfl⟩;obtain⟨qb,eB⟩:=e2;simp only [← eA,← eB] at ar1 ar2 hqb hA hB h0 ⊢;clear eA eB;obtain⟨hS,hF0,hO0,hp0⟩:=st0 hL
 go_enter func173,ntmps173
 go_wp2_with (with_reducible first|refine bxA hS fun bx wbx hS=>?_|refine alA hS zeroValue56 fun br wbr hS=>?_)
 refine wp_region_box 1 [.r 0,.p 1,.r 2,.r 4,.p 5,.r 6,.e 3,.e 7] [.e 10,.e 11] [] [bxz 8 5 54 (.agg #[.bool false,.slice none 0 0,.bool false,.slice none 0 0]),bxz 9 6 54 (.agg #[.bool false,.slice none 0 0,.bool false,.slice none 0 0])] w _ (by kernel_rfl) (by kernel_rfl) (boxesOk2 rfl zeroValue54 rfl zeroValue54 (by decide) (by decide)) hS.drew ?_;obtain⟨hsC,hkC⟩:=hS.cstart
 repeat (with_reducible first|refine pldA 2 isAgg95 sizeOf95 ?_|refine pldK 1 isAgg29 sizeOf29 ?_|refine ppL ?_)
 refine pre_ext rfl (fun B wB hS=>?_);simp only [NRH] at hS
 go_wp2_with (fail)
 refine (ar1 _ S (Liv.at hS hF0)).mono ?_;rintro e w' ⟨u,S1,rfl,hq1,hu⟩;simp only [];go_step;have hkC:=Heap.keepC hS hq1.below hsC hkC;replace hS:=hS.pcl hF0 hO0 hp0 hq1;obtain⟨F1,hF1,hOO1,hp1,hO1,hS⟩:=hS;have hsC:=SubC.trans hsC hOO1;refine pre_end (H:=_) hS hsC hkC ?_;refine mvp ?_;refine pre_ext rfl (fun B wB hS=>?_);simp only [NRH] at hS
 go_wp2_with (fail)
 refine (ar2 _ S1 (Liv.at hS hF1)).mono ?_;rintro e w' ⟨v,S2,rfl,hq2,hv⟩;simp only [];go_step;have hu:=(hu.at hS hF1).grow hq2;have hkC:=Heap.keepC hS hq2.below hsC hkC;replace hS:=hS.pcl hF1 hO1 hp1 hq2;obtain⟨F2,hF2,hOO2,hp2,hO2,hS⟩:=hS;have hsC:=SubC.trans hsC hOO2;refine pre_end (H:=_) hS hsC hkC ?_;refine mvp ?_;refine pre_nil2 (fun b5 b6 wB hS=>?_);simp only [NRH] at hS;simp only [NRM];refine exL ?_
 (with_reducible refine stA 4 hS sizeOf54 fun _ hS=>?_)
 refine ext_end (Heap.toC hS.sb hsC hkC) ?_;refine mvs ?_;refine exL ?_
 (with_reducible refine stA 5 hS sizeOf54 fun _ hS=>?_)
 refine ext_end (Heap.toC hS.sb hsC hkC) ?_;refine mvs ?_;refine snL ?_;clear hsC hkC
 go_wp2_with (with_reducible first|refine ldA 4 hS isAgg54 sizeOf54 ?_|refine ldA 5 hS isAgg54 sizeOf54 ?_)
 refine (subF_any u v qa qb 67 67 _ S2 (hu.at hS hF2) (hv.at hS hF2) (Liv.at hS hF2) hA hB (by omega)).mono ?_;rintro e w' ⟨wh,S3,rfl,hq3,hwh⟩;have hu:=(hu.at hS hF2).grow hq3;replace hS:=hS.pcl hF2 hO2 hp2 hq3;obtain⟨F3,hF3,-,hp3,hO3,hS⟩:=hS;simp only [fRes]
 go_wp2_with (with_reducible first|refine alA hS zeroValue54 fun b7 wb7 hS=>?_|refine stA 6 hS sizeOf54 fun _ hS=>?_|refine ldA 4 hS isAgg54 sizeOf54 ?_|refine ldA 6 hS isAgg54 sizeOf54 ?_)
 refine (divF_any u wh qa (qa - qb) 67 (67+67+1) _ S3 (hu.at hS hF3) (hwh.at hS hF3) (Liv.at hS hF3) hA (hA.sub hB) (by omega) h0).mono ?_;rintro e w' ⟨q,S4,rfl,hq4,hq⟩;replace hS:=hS.pcl hF3 hO3 hp3 hq4;obtain⟨F4,hF4,-,hp4,hO4,hS⟩:=hS;simp only [fRes]
 go_wp2_with (with_reducible first|refine alA hS zeroValue54 fun b9 wb9 hS=>?_|refine stA 7 hS sizeOf54 fun _ hS=>?_)
 refine wp_region_sched [.p 0,.p 1,.r 2,.p 3,.p 4,.r 5,.r 6,.p 8,.p 9,.r 10,.p 11,.p 12,.r 13,.r 14,.e 7,.e 15,.p 16,.m 17] [17] (fun w'=>Heap w w' _) (by kernel_rfl) (by as_aux_lemma=>kernel_rfl) hS.drew (fun w1 hS=>?_);have hC:=hS
 repeat (with_reducible first|refine sldB 1 isAgg3 ?_|refine sldA 7 isAgg54 sizeOf54 ?_|refine spL ?_)
 refine exL ?_
 go_wp2_with (fail)
 refine (along_any s.a.x s.b.x q _ 202 _ S4 (hq.at hS hF4) (Liv.at hS hF4) hs.1.1 hs.2.1 hqb (by omega)).mono ?_;rintro e w' ⟨x,S5,rfl,hq5,hx⟩;simp only [];go_step;have hq:=(hq.at hS hF4).grow hq5;have hC:=hC.below hq5.below hq5.drawn;replace hS:=hS.pcl hF4 hO4 hp4 hq5;obtain⟨F5,hF5,-,hp5,hO5,hS⟩:=hS;refine ext_end hC ?_;refine mvs ?_;refine exL ?_
 go_wp2_with (fail)
 refine (along_any s.a.y s.b.y q _ 202 _ S5 (hq.at hS hF5) (Liv.at hS hF5) hs.1.2 hs.2.2 hqb (by omega)).mono ?_;rintro e w' ⟨y,S6,rfl,hq6,hy⟩;simp only [];go_step;have hx:=(hx.at hS hF5).grow hq6;have hC:=hC.below hq6.below hq6.drawn;replace hS:=hS.pcl hF5 hO5 hp5 hq6;obtain⟨F6,hF6,-,hp6,hO6,hS⟩:=hS;refine ext_end hC ?_;refine mvs ?_;refine muL ?_
 (with_reducible refine stA 3 hS sizeOf56 fun _ hS=>?_)
 refine mut_end ?_;refine mvs ?_;refine snL ?_;go_wp2;exact ret_c 3 hS rfl rfl rfl isAgg56 sizeOf56 rfl rfl ⟨⟨x,y⟩,S6,rfl,hp6.step hS hO6 hF6,hx.at hS hF6,hy.at hS hF6⟩
end Go.Proofs
