/- Texts for the walk of the law: K21 K22. -/
import Derived.Test.YtihpoboahbpaiaaGreatQ13
set_option maxRecDepth 100000
set_option maxHeartbeats 16000000
set_option linter.unusedVariables false
set_option linter.unusedSimpArgs false
namespace Go.Hp
open Go.Proofs.Tryz
open Go Go.RowKit
theorem Bq.neg {k:Nat} {q:Rat} (h:Bq k q):Bq k (-q):=⟨by rw [Rat.neg_num,Int.natAbs_neg];exact h.1,h.2⟩
theorem mul_parts (a b:Rat):(a*b).num=(a.num / (Int.gcd a.num b.den:Nat))*(b.num / (Int.gcd b.num a.den:Nat))∧((a*b).den:Int)=((a.den:Int) / (Int.gcd b.num a.den:Nat))*((b.den:Int) / (Int.gcd a.num b.den:Nat)):=by
 have h:a*b=Rat.mul a b:=rfl;have g1:Nat.gcd a.num.natAbs b.den=Int.gcd a.num b.den:=by simp [Int.gcd]
 have g2:Nat.gcd b.num.natAbs a.den=Int.gcd b.num a.den:=by simp [Int.gcd]
 rw [h]
 constructor
 ·delta Rat.mul
  dsimp only;rw [Int.divExact_eq_tdiv,Int.divExact_eq_tdiv,g1,g2,Int.tdiv_eq_ediv_of_dvd (Int.gcd_dvd_left ..),Int.tdiv_eq_ediv_of_dvd (Int.gcd_dvd_left ..)]
 ·delta Rat.mul
  dsimp only;rw [Nat.divExact_eq_div,Nat.divExact_eq_div,g1,g2,Int.natCast_mul,Int.natCast_ediv,Int.natCast_ediv]
end Go.Hp
namespace Go.Proofs
open Go.Proofs.Tryz
open Go.RowKit Go.Hp
theorem subF_any (x y:FR) (a b:Rat) (j k:Nat) (w:World) (S:Nat→Prop) (hx:IsF w S x a) (hy:IsF w S y b) (hL:Liv w S) (ha:Bq j a) (hb:Bq k b) (hjk:j+k+1≤16384) :
 Calls Tryz.prog 104 #[.agg #[.bool x.num.neg,.slice x.num.ad x.num.n x.num.cap,.bool x.less.neg,.slice x.less.ad x.less.n x.less.cap],.agg #[.bool y.num.neg,.slice y.num.ad y.num.n y.num.cap,.bool y.less.neg,.slice y.less.ad y.less.n y.less.cap]] w (FRes w S (a - b)):=by
 obtain⟨hS,hF0,hO0,hp0⟩:=st0 hL
 go_enter func104,ntmps104
 go_wp2_with (with_reducible first|refine bxA hS fun bx wbx hS=>?_|refine alA hS zeroValue54 fun br wbr hS=>?_)
 refine rg0 [.r 0,.p 1,.r 2,.p 4,.r 5,.e 3,.p 6,.e 7,.p 8,.p 9,.m 10,.p 11] [10] hS fun w1 hS=>?_
 have hC:=hS
 repeat (with_reducible first|refine sldA 1 isAgg54 sizeOf54 ?_|refine sldK 2 isAgg52 sizeOf52 ?_|refine spL ?_)
 refine exL ?_
 go_wp2_with (fail)
 refine (neg_any y.num b.num _ S (hy.num.at hS hF0)).mono ?_;rintro e w' ⟨n,rfl,hq,hn⟩;simp only [];go_step;have hx:=(hx.at hS hF0).grow hq;have hy:=(hy.at hS hF0).grow hq;have hC:=hC.below hq.below hq.drawn;replace hS:=hS.pcl hF0 hO0 hp0 hq;obtain⟨F1,hF1,hOO1,hp1,hO1,hS⟩:=hS;refine ext_end hC ?_;refine mvs ?_;refine exL ?_
 go_wp2_with (fail)
 refine (addF_any x ⟨n,y.less⟩ a (-b) j k _ S (hx.at hS hF1) ⟨hn.at hS hF1,hy.less.at hS hF1,hy.lt⟩ (Liv.at hS hF1) ha hb.neg hjk).mono ?_;rintro e w' ⟨z,S2,rfl,hq2,hz⟩;simp only [fRes];go_step;have hC:=hC.below hq2.below hq2.drawn;replace hS:=hS.pcl hF1 hO1 hp1 hq2;obtain⟨F2,hF2,hOO2,hp2,hO2,hS⟩:=hS;refine ext_end hC ?_;refine mvs ?_;refine muL ?_
 (with_reducible refine stA 3 hS sizeOf54 fun _ hS=>?_)
 refine mut_end ?_;refine mvs ?_;refine snL ?_;go_wp2;exact ret_ct 3 hS rfl rfl rfl isAgg54 sizeOf54 rfl rfl ⟨z,S2,rfl,hp2.step hS hO2 hF2,(hz.at hS hF2).cast (Rat.sub_eq_add_neg a b).symm⟩
theorem mulF_any (x y:FR) (a b:Rat) (j k:Nat) (w:World) (S:Nat→Prop) (hx:IsF w S x a) (hy:IsF w S y b) (hL:Liv w S) (ha:Bq j a) (hb:Bq k b) (hjk:j+k≤16384) :
 Calls Tryz.prog 105 #[.agg #[.bool x.num.neg,.slice x.num.ad x.num.n x.num.cap,.bool x.less.neg,.slice x.less.ad x.less.n x.less.cap],.agg #[.bool y.num.neg,.slice y.num.ad y.num.n y.num.cap,.bool y.less.neg,.slice y.less.ad y.less.n y.less.cap]] w (FRes w S (a*b)):=by
 have hdp:=a.den_pos;have hdq:=b.den_pos;obtain⟨hpn,hpd⟩:=mul_parts a b;obtain⟨g,hg0⟩:∃ g:Nat,g=Int.gcd a.num b.den:=⟨_,rfl⟩;obtain⟨h,hh0⟩:∃ h:Nat,h=Int.gcd b.num a.den:=⟨_,rfl⟩
 have hgz:(g:Int)≠0:=by
  have:Int.gcd a.num (b.den:Int)≠0:=fun h=>by have:=(Int.gcd_eq_zero_iff.1 h).2;omega
  omega
 have hhz:(h:Int)≠0:=by
  have:Int.gcd b.num (a.den:Int)≠0:=fun h=>by have:=(Int.gcd_eq_zero_iff.1 h).2;omega
  omega
 rw [← hg0,← hh0] at hpn hpd;obtain⟨n1,hn1⟩:∃ e:Int,e=a.num / (g:Int):=⟨_,rfl⟩;obtain⟨n2,hn2⟩:∃ e:Int,e=b.num / (h:Int):=⟨_,rfl⟩;obtain⟨e1,he1⟩:∃ e:Int,e=(a.den:Int) / (h:Int):=⟨_,rfl⟩;obtain⟨e2,he2⟩:∃ e:Int,e=(b.den:Int) / (g:Int):=⟨_,rfl⟩;rw [← hn1,← hn2] at hpn;rw [← he1,← he2] at hpd;have b1:n1.natAbs<2 ^ j:=Nat.lt_of_le_of_lt (by rw [hn1];exact natAbs_ediv_le _ _) ha.1;have b2:n2.natAbs<2 ^ k:=Nat.lt_of_le_of_lt (by rw [hn2];exact natAbs_ediv_le _ _) hb.1;have b3:e1.natAbs<2 ^ j:=Nat.lt_of_le_of_lt (by rw [he1];exact natAbs_ediv_le _ _) (by simpa using ha.2);have b4:e2.natAbs<2 ^ k:=Nat.lt_of_le_of_lt (by rw [he2];exact natAbs_ediv_le _ _) (by simpa using hb.2);have f0:1<Lim:=Lim_two (k:=1) (by omega) (by decide);have f1:=Lim_two (by omega) b1;have f3:=Lim_two (by omega) b3;have f2:(n1*n2).natAbs<Lim:=Lim_two hjk (by rw [Int.natAbs_mul];exact mul_lt_two b1 b2);have f4:(e1*e2).natAbs<Lim:=Lim_two hjk (by rw [Int.natAbs_mul];exact mul_lt_two b3 b4);replace hpn:=Hd hpn;replace hpd:=Hd hpd;replace hg0:=Hd hg0;replace hh0:=Hd hh0;replace hn1:=Hd hn1;replace hn2:=Hd hn2;replace he1:=Hd he1;replace he2:=Hd he2;clear b1 b2 b3 b4;obtain⟨hS,hF0,hO0,hp0⟩:=st0 hL
 go_enter func105,ntmps105
 go_wp2_with (with_reducible first|refine bxA hS fun bx wbx hS=>?_|refine alA hS zeroValue54 fun br wbr hS=>?_)
 refine wp_region_box 80 [.p 0,.r 1,.r 2,.p 5,.r 6,.r 7,.e 3,.e 4,.e 8,.e 9] [.e 12,.e 13] [] [bxz 10 6 52 (.agg #[.bool false,.slice none 0 0]),bxz 11 7 52 (.agg #[.bool false,.slice none 0 0])] w _ (by kernel_rfl) (by kernel_rfl) (boxesOk2 rfl zeroValue52 rfl zeroValue52 (by decide) (by decide)) hS.drew ?_;obtain⟨hsC,hkC⟩:=hS.cstart
 repeat (with_reducible first|refine pldK 1 isAgg52 sizeOf52 ?_|refine pldA 2 isAgg54 sizeOf54 ?_|refine pldK 2 isAgg52 sizeOf52 ?_|refine pldA 1 isAgg54 sizeOf54 ?_|refine ppL ?_)
 refine pre_ext rfl (fun B wB hS=>?_);simp only [NRH] at hS
 go_wp2_with (fail)
 refine (den_any y b _ S (hy.at hS hF0) (Liv.at hS hF0)).mono ?_;rintro e w' ⟨dd,S1,rfl,hq,hdd⟩;simp only [];go_step;have hx:=(hx.at hS hF0).grow hq;have hy:=(hy.at hS hF0).grow hq;have hkC:=Heap.keepC hS hq.below hsC hkC;replace hS:=hS.pcl hF0 hO0 hp0 hq;obtain⟨F1,hF1,hOO1,hp1,hO1,hS⟩:=hS;have hsC:=SubC.trans hsC hOO1;refine pre_end (H:=[_,_,_]) hS hsC hkC ?_;refine mvp ?_;refine pre_ext rfl (fun B wB hS=>?_);simp only [NRH] at hS
 go_wp2_with (fail)
 refine (gcdI_any x.num dd a.num b.den _ S1 (hx.num.at hS hF1) (hdd.at hS hF1) (Liv.at hS hF1)).mono ?_;rintro e w' ⟨gg,S2,rfl,hq2,hgg⟩;simp only [];go_step;have hx:=(hx.at hS hF1).grow hq2;have hy:=(hy.at hS hF1).grow hq2;have hkC:=Heap.keepC hS hq2.below hsC hkC;replace hS:=hS.pcl hF1 hO1 hp1 hq2;obtain⟨F2,hF2,hOO2,hp2,hO2,hS⟩:=hS;have hsC:=SubC.trans hsC hOO2;replace hgg:=hgg.cast (show ((Int.gcd a.num (b.den:Int):Nat):Int)=(g:Int) by rw [hg0.out]);refine pre_end (H:=[_,_,_]) hS hsC hkC ?_;refine mvp ?_;refine pre_ext rfl (fun B wB hS=>?_);simp only [NRH] at hS
 go_wp2_with (fail)
 refine (den_any x a _ S2 (hx.at hS hF2) (Liv.at hS hF2)).mono ?_;rintro e w' ⟨dd2,S3,rfl,hq3,hdd2⟩;simp only [];go_step;have hx:=(hx.at hS hF2).grow hq3;have hy:=(hy.at hS hF2).grow hq3;have hgg:=(hgg.at hS hF2).grow hq3;have hkC:=Heap.keepC hS hq3.below hsC hkC;replace hS:=hS.pcl hF2 hO2 hp2 hq3;obtain⟨F3,hF3,hOO3,hp3,hO3,hS⟩:=hS;have hsC:=SubC.trans hsC hOO3;refine pre_end (H:=[_,_,_]) hS hsC hkC ?_;refine mvp ?_;refine pre_ext rfl (fun B wB hS=>?_);simp only [NRH] at hS
 go_wp2_with (fail)
 refine (gcdI_any y.num dd2 b.num a.den _ S3 (hy.num.at hS hF3) (hdd2.at hS hF3) (Liv.at hS hF3)).mono ?_;rintro e w' ⟨hh,S4,rfl,hq4,hhh⟩;simp only [];go_step;have hx:=(hx.at hS hF3).grow hq4;have hy:=(hy.at hS hF3).grow hq4;have hgg:=(hgg.at hS hF3).grow hq4;have hkC:=Heap.keepC hS hq4.below hsC hkC;replace hS:=hS.pcl hF3 hO3 hp3 hq4;obtain⟨F4,hF4,hOO4,hp4,hO4,hS⟩:=hS;have hsC:=SubC.trans hsC hOO4;replace hhh:=hhh.cast (show ((Int.gcd b.num (a.den:Int):Nat):Int)=(h:Int) by rw [hh0.out]);refine pre_end (H:=[_,_,_]) hS hsC hkC ?_;refine mvp ?_;refine pre_nil2 (fun b6 b7 wB hS=>?_);simp only [NRH] at hS;simp only [NRM];refine exL ?_
 (with_reducible refine stA 4 hS sizeOf52 fun _ hS=>?_)
 refine ext_end (Heap.toC hS.sb hsC hkC) ?_;refine mvs ?_;refine exL ?_
 (with_reducible refine stA 5 hS sizeOf52 fun _ hS=>?_)
 refine ext_end (Heap.toC hS.sb hsC hkC) ?_;refine mvs ?_;refine snL ?_;clear hsC hkC
 go_wp2_with (fail)
 refine wp_region_box 60 [.p 0,.r 1,.r 2,.p 4,.r 5,.r 6,.e 3,.e 7,.e 8,.e 9,.p 10,.p 11,.p 12] [.e 14,.p 15] [] [bxz 13 8 52 (.agg #[.bool false,.slice none 0 0])] w _ (by kernel_rfl) (by kernel_rfl) (boxesOk1 rfl zeroValue52) hS.drew ?_;obtain⟨hsC,hkC⟩:=hS.cstart
 repeat (with_reducible first|refine pldK 1 isAgg52 sizeOf52 ?_|refine pldA 4 isAgg52 sizeOf52 ?_|refine pldK 2 isAgg52 sizeOf52 ?_|refine pldA 5 isAgg52 sizeOf52 ?_|refine ppL ?_)
 refine pre_ext rfl (fun B wB hS=>?_);simp only [NRH] at hS
 go_wp2_with (fail)
 refine (over_any x.num gg a.num g _ S4 (hx.num.at hS hF4) (hgg.at hS hF4) (Liv.at hS hF4) hgz).mono ?_;rintro e w' ⟨o1,S1,rfl,hq,ho1⟩;simp only [];go_step;have hx:=(hx.at hS hF4).grow hq;have hy:=(hy.at hS hF4).grow hq;have hgg:=(hgg.at hS hF4).grow hq;have hhh:=(hhh.at hS hF4).grow hq;have hkC:=Heap.keepC hS hq.below hsC hkC;replace hS:=hS.pcl hF4 hO4 hp4 hq;obtain⟨F5,hF5,hOO5,hp5,hO5,hS⟩:=hS;have hsC:=SubC.trans hsC hOO5;replace ho1:=ho1.cast hn1.out.symm;refine pre_end (H:=[_,_,_,_,_]) hS hsC hkC ?_;refine mvp ?_;refine pre_ext rfl (fun B wB hS=>?_);simp only [NRH] at hS
 go_wp2_with (fail)
 refine (over_any y.num hh b.num h _ S1 (hy.num.at hS hF5) (hhh.at hS hF5) (Liv.at hS hF5) hhz).mono ?_;rintro e w' ⟨o2,S2,rfl,hq2,ho2⟩;simp only [];go_step;have hx:=(hx.at hS hF5).grow hq2;have hy:=(hy.at hS hF5).grow hq2;have hgg:=(hgg.at hS hF5).grow hq2;have hhh:=(hhh.at hS hF5).grow hq2;have ho1:=(ho1.at hS hF5).grow hq2;have hkC:=Heap.keepC hS hq2.below hsC hkC;replace hS:=hS.pcl hF5 hO5 hp5 hq2;obtain⟨F6,hF6,hOO6,hp6,hO6,hS⟩:=hS;have hsC:=SubC.trans hsC hOO6;replace ho2:=ho2.cast hn2.out.symm;refine pre_end (H:=[_,_,_,_,_]) hS hsC hkC ?_;refine mvp ?_;refine pre_ext rfl (fun B wB hS=>?_);simp only [NRH] at hS
 ((with_reducible refine g_bs (T:=293) ?_);refine seq_buildSlice (k:=2) (z:=.agg #[.bool false,.slice none 0 0]) (len:=2) hS underlying293 sizeOf52 zeroValue52 (by decide) (by decide) (fill2i _ _ _ _) (fun bl wbl hS=>?_);simp only [NRM];simp only [NRH] at hS)
 have hlit:=isIs_two (b:=bl) (T:=52) hS (by simp) (ho1.at hS hF6) (ho2.at hS hF6);have hx:=(hx.at hS hF6).weaken (T:=fun k=>S2 k∨k=bl) (fun k h=>.inl h);have hy:=(hy.at hS hF6).weaken (T:=fun k=>S2 k∨k=bl) (fun k h=>.inl h);have hgg:=(hgg.at hS hF6).weaken (T:=fun k=>S2 k∨k=bl) (fun k h=>.inl h);have hhh:=(hhh.at hS hF6).weaken (T:=fun k=>S2 k∨k=bl) (fun k h=>.inl h);have hp7:=(hp6.step hS hO6 hF6).add (Heap.isNewL (H:=(_::_::_::_::_::B)) hS hO6);have hkC:=Heap.keepN hS hsC hkC;have hS7:=Heap.takeLast (H:=(_::_::_::_::_::B)) hS;obtain⟨F7,hFe7⟩:∃ F',F'=fun k=>F6 k∨k=bl:=⟨_,rfl⟩
 rw [← hFe7] at hS7;have hO7:∀ k,Old w k→F7 k:=fun k h=>by rw [hFe7];exact .inl (hO6 k h)
 have hsC:=SubC.trans hsC (F'':=F7) (fun k h=>by rw [hFe7];exact .inl h)
 have hF7:∀ k,(S2 k∨k=bl)→F7 k:=fun k h=>by
  rw [hFe7]
  rcases h with h|h
  ·exact .inl (hF6 k h)
  ·exact .inr h
 clear hFe7 hS;have hS:=hS7;clear hS7;refine pre_end (H:=[_,_,_,_,_]) hS hsC hkC ?_;refine mvp ?_;refine pre_ext rfl (fun B wB hS=>?_);simp only [NRH] at hS
 go_wp2_with (fail)
 refine (timesF_any _ 2 2 [(o1,n1),(o2,n2)] _ _ (hlit.at hS hF7) (Liv.at hS hF7) (fit2 f0 f1 f2) (by simp)).mono ?_;rintro e w' ⟨pp,S3,rfl,hq4,hpp⟩;simp only [iRes];go_step;have hx:=(hx.at hS hF7).grow hq4;have hy:=(hy.at hS hF7).grow hq4;have hgg:=(hgg.at hS hF7).grow hq4;have hhh:=(hhh.at hS hF7).grow hq4;have hkC:=Heap.keepC hS hq4.below hsC hkC;replace hS:=hS.pcl hF7 hO7 hp7 hq4;obtain⟨F8,hF8,hOO8,hp8,hO8,hS⟩:=hS;have hsC:=SubC.trans hsC hOO8;replace hpp:=hpp.cast (prod2 _ _ _ _);refine pre_end (H:=[_,_,_,_,_]) hS hsC hkC ?_;refine mvp ?_;refine pre_nil1 (fun b8 wB hS=>?_);simp only [NRH] at hS;simp only [NRM];refine exL ?_
 (with_reducible refine stA 6 hS sizeOf52 fun _ hS=>?_)
 refine ext_end (Heap.toC hS.sb hsC hkC) ?_;refine mvs ?_;refine snL ?_;clear hsC hkC
 go_wp2_with (fail)
 refine wp_region_box 60 [.r 0,.r 2,.r 4,.r 6,.e 1,.e 3,.e 5,.e 7,.e 8,.e 9,.p 10,.p 11,.p 12] [.e 14,.p 15] [] [bxz 13 10 52 (.agg #[.bool false,.slice none 0 0])] w _ (by kernel_rfl) (by kernel_rfl) (boxesOk1 rfl zeroValue52) hS.drew ?_;obtain⟨hsC,hkC⟩:=hS.cstart
 repeat (with_reducible first|refine pldA 1 isAgg54 sizeOf54 ?_|refine pldA 5 isAgg52 sizeOf52 ?_|refine pldA 2 isAgg54 sizeOf54 ?_|refine pldA 4 isAgg52 sizeOf52 ?_)
 refine pre_ext rfl (fun B wB hS=>?_);simp only [NRH] at hS
 go_wp2_with (fail)
 refine (den_any x a _ S3 (hx.at hS hF8) (Liv.at hS hF8)).mono ?_;rintro e w' ⟨dd,S1,rfl,hq,hdd⟩;simp only [];go_step;have hy:=(hy.at hS hF8).grow hq;have hgg:=(hgg.at hS hF8).grow hq;have hhh:=(hhh.at hS hF8).grow hq;have hpp:=(hpp.at hS hF8).grow hq;have hkC:=Heap.keepC hS hq.below hsC hkC;replace hS:=hS.pcl hF8 hO8 hp8 hq;obtain⟨F9,hF9,hOO9,hp9,hO9,hS⟩:=hS;have hsC:=SubC.trans hsC hOO9;refine pre_end (H:=[_,_,_,_,_,_]) hS hsC hkC ?_;refine mvp ?_;refine pre_ext rfl (fun B wB hS=>?_);simp only [NRH] at hS
 go_wp2_with (fail)
 refine (over_any dd hh a.den h _ S1 (hdd.at hS hF9) (hhh.at hS hF9) (Liv.at hS hF9) hhz).mono ?_;rintro e w' ⟨o1,S2,rfl,hq2,ho1⟩;simp only [];go_step;have hy:=(hy.at hS hF9).grow hq2;have hgg:=(hgg.at hS hF9).grow hq2;have hpp:=(hpp.at hS hF9).grow hq2;have hkC:=Heap.keepC hS hq2.below hsC hkC;replace hS:=hS.pcl hF9 hO9 hp9 hq2;obtain⟨F10,hF10,hOO10,hp10,hO10,hS⟩:=hS;have hsC:=SubC.trans hsC hOO10;replace ho1:=ho1.cast he1.out.symm;refine pre_end (H:=[_,_,_,_,_,_]) hS hsC hkC ?_;refine mvp ?_;refine pre_ext rfl (fun B wB hS=>?_);simp only [NRH] at hS
 go_wp2_with (fail)
 refine (den_any y b _ S2 (hy.at hS hF10) (Liv.at hS hF10)).mono ?_;rintro e w' ⟨dd2,S3,rfl,hq3,hdd2⟩;simp only [];go_step;have hgg:=(hgg.at hS hF10).grow hq3;have hpp:=(hpp.at hS hF10).grow hq3;have ho1:=(ho1.at hS hF10).grow hq3;have hkC:=Heap.keepC hS hq3.below hsC hkC;replace hS:=hS.pcl hF10 hO10 hp10 hq3;obtain⟨F11,hF11,hOO11,hp11,hO11,hS⟩:=hS;have hsC:=SubC.trans hsC hOO11;refine pre_end (H:=[_,_,_,_,_,_]) hS hsC hkC ?_;refine mvp ?_;refine pre_ext rfl (fun B wB hS=>?_);simp only [NRH] at hS
 go_wp2_with (fail)
 refine (over_any dd2 gg b.den g _ S3 (hdd2.at hS hF11) (hgg.at hS hF11) (Liv.at hS hF11) hgz).mono ?_;rintro e w' ⟨o2,S4,rfl,hq4,ho2⟩;simp only [];go_step;have hpp:=(hpp.at hS hF11).grow hq4;have ho1:=(ho1.at hS hF11).grow hq4;have hkC:=Heap.keepC hS hq4.below hsC hkC;replace hS:=hS.pcl hF11 hO11 hp11 hq4;obtain⟨F12,hF12,hOO12,hp12,hO12,hS⟩:=hS;have hsC:=SubC.trans hsC hOO12;replace ho2:=ho2.cast he2.out.symm;refine pre_end (H:=[_,_,_,_,_,_]) hS hsC hkC ?_;refine mvp ?_;refine pre_ext rfl (fun B wB hS=>?_);simp only [NRH] at hS
 ((with_reducible refine g_bs (T:=293) ?_);refine seq_buildSlice (k:=2) (z:=.agg #[.bool false,.slice none 0 0]) (len:=2) hS underlying293 sizeOf52 zeroValue52 (by decide) (by decide) (fill2i _ _ _ _) (fun bl wbl hS=>?_);simp only [NRM];simp only [NRH] at hS)
 have hlit:=isIs_two (b:=bl) (T:=52) hS (by simp) (ho1.at hS hF12) (ho2.at hS hF12);have hpp:=(hpp.at hS hF12).weaken (T:=fun k=>S4 k∨k=bl) (fun k h=>.inl h);have hp13:=(hp12.step hS hO12 hF12).add (Heap.isNewL (H:=(_::_::_::_::_::_::B)) hS hO12);have hkC:=Heap.keepN hS hsC hkC;have hS13:=Heap.takeLast (H:=(_::_::_::_::_::_::B)) hS;obtain⟨F13,hFe13⟩:∃ F',F'=fun k=>F12 k∨k=bl:=⟨_,rfl⟩
 rw [← hFe13] at hS13;have hO13:∀ k,Old w k→F13 k:=fun k h=>by rw [hFe13];exact .inl (hO12 k h)
 have hsC:=SubC.trans hsC (F'':=F13) (fun k h=>by rw [hFe13];exact .inl h)
 have hF13:∀ k,(S4 k∨k=bl)→F13 k:=fun k h=>by
  rw [hFe13]
  rcases h with h|h
  ·exact .inl (hF12 k h)
  ·exact .inr h
 clear hFe13 hS;have hS:=hS13;clear hS13;refine pre_end (H:=[_,_,_,_,_,_]) hS hsC hkC ?_;refine mvp ?_;refine pre_ext rfl (fun B wB hS=>?_);simp only [NRH] at hS
 go_wp2_with (fail)
 refine (timesF_any _ 2 2 [(o1,e1),(o2,e2)] _ _ (hlit.at hS hF13) (Liv.at hS hF13) (fit2 f0 f3 f4) (by simp)).mono ?_;rintro e w' ⟨qq,S5,rfl,hq5,hqq⟩;simp only [iRes];go_step;have hpp:=(hpp.at hS hF13).grow hq5;have hkC:=Heap.keepC hS hq5.below hsC hkC;replace hS:=hS.pcl hF13 hO13 hp13 hq5;obtain⟨F14,hF14,hOO14,hp14,hO14,hS⟩:=hS;have hsC:=SubC.trans hsC hOO14;replace hqq:=hqq.cast (prod2 _ _ _ _);refine pre_end (H:=[_,_,_,_,_,_]) hS hsC hkC ?_;refine mvp ?_;refine pre_nil1 (fun b10 wB hS=>?_);simp only [NRH] at hS;simp only [NRM];refine exL ?_
 (with_reducible refine stA 7 hS sizeOf52 fun _ hS=>?_)
 refine ext_end (Heap.toC hS.sb hsC hkC) ?_;refine mvs ?_;refine snL ?_;clear hsC hkC
 go_wp2_with (with_reducible first|refine ldA 6 hS isAgg52 sizeOf52 ?_|refine ldA 7 hS isAgg52 sizeOf52 ?_)
 refine (lowest_any _ _ (a*b) _ S5 ((hpp.at hS hF14).cast hpn.out.symm) ((hqq.at hS hF14).cast hpd.out.symm) (Liv.at hS hF14)).mono ?_;rintro e w' ⟨z,S6,rfl,hq6,hz⟩;replace hS:=hS.pcl hF14 hO14 hp14 hq6;obtain⟨F15,hF15,-,hp15,hO15,hS⟩:=hS;simp only [fRes]
 go_wp2_with (with_reducible refine stA 3 hS sizeOf54 fun _ hS=>?_)
 exact ret_ct 3 hS rfl rfl rfl isAgg54 sizeOf54 rfl rfl ⟨z,S6,rfl,hp15.step hS hO15 hF15,hz.at hS hF15⟩
end Go.Proofs
namespace Go.Hp
open Go.Proofs.Tryz
open Go Go.RowKit
theorem Bq.inv {k:Nat} {q:Rat} (h:Bq k q) (h0:q≠0):Bq k q⁻¹:=by
 constructor
 ·rw [Rat.num_inv,Int.natAbs_mul]
  have:q.num.sign.natAbs≤1:=by
   rcases Int.lt_trichotomy q.num 0 with h|h|h
   ·rw [Int.sign_eq_neg_one_of_neg h];decide
   ·rw [h];decide
   ·rw [Int.sign_eq_one_of_pos h];decide
  have h2:q.num.sign.natAbs*(q.den:Int).natAbs≤1*(q.den:Int).natAbs:=Nat.mul_le_mul_right _ this;simp at h2 ⊢;exact Nat.lt_of_le_of_lt h2 h.2
 ·rw [Rat.den_inv,if_neg (fun h=>h0 (Rat.num_eq_zero.1 h))]
  exact h.1
end Go.Hp
namespace Go.Proofs
open Go.Proofs.Tryz
open Go.RowKit Go.Hp
theorem divF_any (x y:FR) (a b:Rat) (j k:Nat) (w:World) (S:Nat→Prop) (hx:IsF w S x a) (hy:IsF w S y b) (hL:Liv w S) (ha:Bq j a) (hb:Bq k b) (hjk:j+k≤16384) (h0:b≠0) :
 Calls Tryz.prog 108 #[.agg #[.bool x.num.neg,.slice x.num.ad x.num.n x.num.cap,.bool x.less.neg,.slice x.less.ad x.less.n x.less.cap],.agg #[.bool y.num.neg,.slice y.num.ad y.num.n y.num.cap,.bool y.less.neg,.slice y.less.ad y.less.n y.less.cap]] w (FRes w S (a / b)):=by
 have hn0:b.num≠0:=fun h=>h0 (Rat.num_eq_zero.1 h)
 obtain⟨hS,hF0,hO0,hp0⟩:=st0 hL
 go_enter func108,ntmps108
 go_wp2_with (with_reducible first|refine bxA hS fun bx wbx hS=>?_|refine alA hS zeroValue54 fun br wbr hS=>?_)
 refine wp_region_box 60 [.r 0,.p 2,.r 3,.e 1,.e 4,.p 5,.p 6,.p 7] [.e 9,.p 10] [] [bxz 8 6 54 (.agg #[.bool false,.slice none 0 0,.bool false,.slice none 0 0])] w _ (by kernel_rfl) (by kernel_rfl) (boxesOk1 rfl zeroValue54) hS.drew ?_;obtain⟨hsC,hkC⟩:=hS.cstart
 repeat (with_reducible first|refine pldA 2 isAgg54 sizeOf54 ?_|refine pldK 2 isAgg52 sizeOf52 ?_|refine ppL ?_)
 refine pre_ext rfl (fun B wB hS=>?_);simp only [NRH] at hS
 go_wp2_with (fail)
 refine (den_any y b _ S (hy.at hS hF0) (Liv.at hS hF0)).mono ?_;rintro e w' ⟨dd,S1,rfl,hq,hdd⟩;simp only [];go_step;have hx:=(hx.at hS hF0).grow hq;have hy:=(hy.at hS hF0).grow hq;have hkC:=Heap.keepC hS hq.below hsC hkC;replace hS:=hS.pcl hF0 hO0 hp0 hq;obtain⟨F1,hF1,hOO1,hp1,hO1,hS⟩:=hS;have hsC:=SubC.trans hsC hOO1;refine pre_end (H:=[_,_,_]) hS hsC hkC ?_;refine mvp ?_;refine pre_ext rfl (fun B wB hS=>?_);simp only [NRH] at hS
 go_wp2_with (fail)
 refine (make_any dd y.num b.den b.num _ S1 (hdd.at hS hF1) (hy.num.at hS hF1) (Liv.at hS hF1) hn0).mono ?_;rintro e w' ⟨tt,S2,rfl,hq2,htt⟩;simp only [fRes];go_step;have hx:=(hx.at hS hF1).grow hq2;have hkC:=Heap.keepC hS hq2.below hsC hkC;replace hS:=hS.pcl hF1 hO1 hp1 hq2;obtain⟨F2,hF2,hOO2,hp2,hO2,hS⟩:=hS;have hsC:=SubC.trans hsC hOO2;replace htt:=htt.cast (Rat.inv_def b).symm;refine pre_end (H:=[_,_,_]) hS hsC hkC ?_;refine mvp ?_;refine pre_nil1 (fun b6 wB hS=>?_);simp only [NRH] at hS;simp only [NRM];refine exL ?_
 (with_reducible refine stA 4 hS sizeOf54 fun _ hS=>?_)
 refine ext_end (Heap.toC hS.sb hsC hkC) ?_;refine mvs ?_;refine snL ?_;clear hsC hkC
 go_wp2_with (with_reducible first|refine ldA 1 hS isAgg54 sizeOf54 ?_|refine ldA 4 hS isAgg54 sizeOf54 ?_)
 refine (mulF_any x tt a b⁻¹ j k _ S2 (hx.at hS hF2) (htt.at hS hF2) (Liv.at hS hF2) ha (hb.inv h0) hjk).mono ?_;rintro e w' ⟨z,S3,rfl,hq3,hz⟩;replace hS:=hS.pcl hF2 hO2 hp2 hq3;obtain⟨F3,hF3,-,hp3,hO3,hS⟩:=hS;simp only [fRes]
 go_wp2_with (with_reducible refine stA 3 hS sizeOf54 fun _ hS=>?_)
 exact ret_ct 3 hS rfl rfl rfl isAgg54 sizeOf54 rfl rfl ⟨z,S3,rfl,hp3.step hS hO3 hF3,(hz.at hS hF3).cast (Rat.div_def a b).symm⟩
end Go.Proofs
