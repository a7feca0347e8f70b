/- Texts for the walk of the law: D9 D10. -/
import Derived.Test.YtihpoboahbpaiaaGreatQ19
set_option maxRecDepth 100000
set_option maxHeartbeats 16000000
set_option linter.unusedVariables false
set_option linter.unusedSimpArgs false
namespace Go.Proofs
open Go.Proofs.Tryz
open Go.RowKit Go.Hp
theorem equalG (a b:Gp) (w:World):(Op.equalIn 10000 29 (.agg #[.int .i64 a.x,.int .i64 a.y]) (.agg #[.int .i64 b.x,.int .i64 b.y])).run Tryz.prog w=.ok (decide (a=b)) w:=by
 obtain⟨x,y⟩:=a;obtain⟨u,v⟩:=b;have he:((⟨x,y⟩:Gp)=⟨u,v⟩)↔(x=u∧y=v):=by simp
 simp only [he]
 by_cases h1:x=u
 ·by_cases h2:y=v
  ·subst h1 h2
   go_simp
  ·go_simp
 ·go_simp
theorem line_any (s t:Sz) (w:World) (S:Nat→Prop) (hL:Liv w S) (hs:s.a.ok∧s.b.ok) (ht:t.a.ok∧t.b.ok) :
 Calls Tryz.prog 171 #[.agg #[.int .i64 s.a.x,.int .i64 s.a.y,.int .i64 s.b.x,.int .i64 s.b.y],.agg #[.int .i64 t.a.x,.int .i64 t.a.y,.int .i64 t.b.x,.int .i64 t.b.y]] w (CRes w S (lineZ s t)):=by
 obtain⟨L,eL⟩:∃ L,L=lineZ s t:=⟨_,rfl⟩;rw [← eL];unfold lineZ at eL;replace eL:=Hd eL;obtain⟨hS,hF0,hO0,hp0⟩:=st0 hL
 go_enter func171,ntmps171
 go_wp2_with (with_reducible first|refine bxA hS fun bx wbx hS=>?_|refine alA hS zeroValue199 fun br wbr hS=>?_)
 refine wp_region_box 1 [.p 0,.r 1,.p 2,.r 3] [.e 6,.e 7] [] [bxz 4 5 29 (.agg #[.int .i64 0,.int .i64 0]),bxz 5 6 29 (.agg #[.int .i64 0,.int .i64 0])] w _ (by kernel_rfl) (by kernel_rfl) (boxesOk2 rfl zeroValue29 rfl zeroValue29 (by decide) (by decide)) hS.drew ?_;obtain⟨hsC,hkC⟩:=hS.cstart
 repeat (with_reducible first|refine pldK 1 isAgg29 sizeOf29 ?_|refine ppL ?_)
 refine pre_nil2 (fun b5 b6 wB hS=>?_);simp only [NRH] at hS;simp only [NRM];refine exL ?_
 (with_reducible refine stA 4 hS sizeOf29 fun _ hS=>?_)
 refine ext_end (Heap.toC hS.sb hsC hkC) ?_;refine mvs ?_;refine exL ?_
 (with_reducible refine stA 5 hS sizeOf29 fun _ hS=>?_)
 refine ext_end (Heap.toC hS.sb hsC hkC) ?_;refine mvs ?_;refine snL ?_;clear hsC hkC
 go_wp2_with (with_reducible first|refine ldK 2 hS isAgg29 sizeOf29 ?_|refine ldA 4 hS isAgg29 sizeOf29 ?_)
 refine (before_any s.a t.a _).mono ?_;rintro e w' ⟨rfl,hq⟩;have hS:=hS.below hq.below hq.drawn;simp only []
 by_cases h1:s.a.lt t.a
 ·have hd1:decide (s.a.lt t.a)=true:=by simpa using h1
  rw [hd1];replace h1:=Hd h1;clear hd1
  go_wp2_with (with_reducible first|refine ldK 2 hS isAgg29 sizeOf29 ?_|refine ldA 5 hS isAgg29 sizeOf29 ?_|refine stA 4 hS sizeOf29 fun _ hS=>?_)
  refine (before_any t.b s.b _).mono ?_;rintro e w' ⟨rfl,hq⟩;have hS:=hS.below hq.below hq.drawn;simp only []
  by_cases h2:t.b.lt s.b
  ·have hd2:decide (t.b.lt s.b)=true:=by simpa using h2
   rw [hd2];replace h2:=Hd h2;clear hd2;have eL2:L=if t.a=t.b then [(t.a).pt] else if (t.b).lt t.a then [] else [(t.a).pt,(t.b).pt]:=by have e:=eL.out;simp only [if_pos h1.out,if_pos h2.out] at e;exact e
   replace eL2:=Hd eL2;clear eL
   by_cases hfg:t.a=t.b
   ·have HE:∀ w,(Op.equalIn 10000 29 (.agg #[.int .i64 t.a.x,.int .i64 t.a.y]) (.agg #[.int .i64 t.b.x,.int .i64 t.b.y])).run Tryz.prog w=.ok true w:=fun w=>by rw [equalG];simp [hfg]
    replace hfg:=Hd hfg
    go_wp2_with (with_reducible first|refine ldK 2 hS isAgg29 sizeOf29 ?_|refine stA 5 hS sizeOf29 fun _ hS=>?_|refine ldA 4 hS isAgg29 sizeOf29 ?_|refine ldA 5 hS isAgg29 sizeOf29 ?_)
    refine (pof_any _ _ _ S (by unfold InI;have:=(ht.1).1;unfold okC at this;omega) (by unfold InI;have:=(ht.1).2;unfold okC at this;omega) (Liv.at hS hF0)).mono ?_;rintro e w' ⟨z,S1,rfl,hq,hz⟩;replace hS:=hS.pcl hF0 hO0 hp0 hq;obtain⟨F1,hF1,-,hp1,hO1,hS⟩:=hS;simp only []
    go_wp2_with (with_reducible refine stA 3 hS sizeOf199 fun _ hS=>?_)
    exact ret_c 3 hS rfl rfl rfl isAgg199 sizeOf199 rfl rfl (.inr (.inl ⟨_,z,S1,by rw [eL2.out,if_pos hfg.out];rfl,rfl,hp1.step hS hO1 hF1,hz.at hS hF1⟩))
   ·have HE:∀ w,(Op.equalIn 10000 29 (.agg #[.int .i64 t.a.x,.int .i64 t.a.y]) (.agg #[.int .i64 t.b.x,.int .i64 t.b.y])).run Tryz.prog w=.ok false w:=fun w=>by rw [equalG];simp [hfg]
    replace hfg:=Hd hfg
    go_wp2_with (with_reducible first|refine ldK 2 hS isAgg29 sizeOf29 ?_|refine stA 5 hS sizeOf29 fun _ hS=>?_|refine ldA 4 hS isAgg29 sizeOf29 ?_|refine ldA 5 hS isAgg29 sizeOf29 ?_)
    refine (before_any t.b t.a _).mono ?_;rintro e w' ⟨rfl,hq⟩;have hS:=hS.below hq.below hq.drawn;simp only [];clear HE
    by_cases hlt:(t.b).lt t.a
    ·have hd3:decide ((t.b).lt t.a)=true:=by simpa using hlt
     rw [hd3];replace hlt:=Hd hlt;clear hd3
     go_wp2_with (with_reducible refine stA 3 hS sizeOf199 fun _ hS=>?_)
     exact ret_c 3 hS rfl rfl rfl isAgg199 sizeOf199 rfl rfl (.inl ⟨by rw [eL2.out,if_neg hfg.out,if_pos hlt.out],rfl,hS.pure S⟩)
    ·have hd3:decide ((t.b).lt t.a)=false:=by simpa using hlt
     rw [hd3];replace hlt:=Hd hlt;clear hd3;go_wp2;refine rg0 [.r 0,.r 2,.e 1,.e 3,.p 4,.m 5] [5] hS fun w1 hS=>?_
     have hC:=hS
     repeat (with_reducible first|refine sldA 4 isAgg29 sizeOf29 ?_|refine sldA 5 isAgg29 sizeOf29 ?_)
     refine exL ?_
     go_wp2_with (fail)
     refine (pof_any _ _ _ S (by unfold InI;have:=(ht.1).1;unfold okC at this;omega) (by unfold InI;have:=(ht.1).2;unfold okC at this;omega) (Liv.at hS hF0)).mono ?_;rintro e w' ⟨z,S1,rfl,hq,hz⟩;simp only [];go_step;have hC:=hC.below hq.below hq.drawn;replace hS:=hS.pcl hF0 hO0 hp0 hq;obtain⟨F1,hF1,-,hp1,hO1,hS⟩:=hS;refine ext_end hC ?_;refine mvs ?_;refine exL ?_
     go_wp2_with (fail)
     refine (pof_any _ _ _ S1 (by unfold InI;have:=(ht.2).1;unfold okC at this;omega) (by unfold InI;have:=(ht.2).2;unfold okC at this;omega) (Liv.at hS hF1)).mono ?_;rintro e w' ⟨y,S2,rfl,hq2,hy⟩;simp only [];go_step;have hz:=(hz.at hS hF1).grow hq2;have hC:=hC.below hq2.below hq2.drawn;replace hS:=hS.pcl hF1 hO1 hp1 hq2;obtain⟨F2,hF2,-,hp2,hO2,hS⟩:=hS;refine ext_end hC ?_;refine mvs ?_;refine muL ?_
     (with_reducible refine stA 3 hS sizeOf199 fun _ hS=>?_)
     refine mut_end ?_;refine mvs ?_;refine snL ?_;go_wp2;exact ret_c 3 hS rfl rfl rfl isAgg199 sizeOf199 rfl rfl (.inr (.inr ⟨_,_,z,y,S2,by rw [eL2.out,if_neg hfg.out,if_neg hlt.out];rfl,rfl,hp2.step hS hO2 hF2,hz.at hS hF2,hy.at hS hF2⟩))
  ·have hd2:decide (t.b.lt s.b)=false:=by simpa using h2
   rw [hd2];replace h2:=Hd h2;clear hd2;have eL2:L=if t.a=s.b then [(t.a).pt] else if (s.b).lt t.a then [] else [(t.a).pt,(s.b).pt]:=by have e:=eL.out;simp only [if_pos h1.out,if_neg h2.out] at e;exact e
   replace eL2:=Hd eL2;clear eL
   by_cases hfg:t.a=s.b
   ·have HE:∀ w,(Op.equalIn 10000 29 (.agg #[.int .i64 t.a.x,.int .i64 t.a.y]) (.agg #[.int .i64 s.b.x,.int .i64 s.b.y])).run Tryz.prog w=.ok true w:=fun w=>by rw [equalG];simp [hfg]
    replace hfg:=Hd hfg
    go_wp2_with (first|(with_reducible refine ldK 2 hS isAgg29 sizeOf29 ?_)|fail|(with_reducible first|refine ldA 4 hS isAgg29 sizeOf29 ?_|refine ldA 5 hS isAgg29 sizeOf29 ?_))
    refine (pof_any _ _ _ S (by unfold InI;have:=(ht.1).1;unfold okC at this;omega) (by unfold InI;have:=(ht.1).2;unfold okC at this;omega) (Liv.at hS hF0)).mono ?_;rintro e w' ⟨z,S1,rfl,hq,hz⟩;replace hS:=hS.pcl hF0 hO0 hp0 hq;obtain⟨F1,hF1,-,hp1,hO1,hS⟩:=hS;simp only []
    go_wp2_with (with_reducible refine stA 3 hS sizeOf199 fun _ hS=>?_)
    exact ret_c 3 hS rfl rfl rfl isAgg199 sizeOf199 rfl rfl (.inr (.inl ⟨_,z,S1,by rw [eL2.out,if_pos hfg.out];rfl,rfl,hp1.step hS hO1 hF1,hz.at hS hF1⟩))
   ·have HE:∀ w,(Op.equalIn 10000 29 (.agg #[.int .i64 t.a.x,.int .i64 t.a.y]) (.agg #[.int .i64 s.b.x,.int .i64 s.b.y])).run Tryz.prog w=.ok false w:=fun w=>by rw [equalG];simp [hfg]
    replace hfg:=Hd hfg
    go_wp2_with (first|(with_reducible refine ldK 2 hS isAgg29 sizeOf29 ?_)|fail|(with_reducible first|refine ldA 4 hS isAgg29 sizeOf29 ?_|refine ldA 5 hS isAgg29 sizeOf29 ?_))
    refine (before_any s.b t.a _).mono ?_;rintro e w' ⟨rfl,hq⟩;have hS:=hS.below hq.below hq.drawn;simp only [];clear HE
    by_cases hlt:(s.b).lt t.a
    ·have hd3:decide ((s.b).lt t.a)=true:=by simpa using hlt
     rw [hd3];replace hlt:=Hd hlt;clear hd3
     go_wp2_with (with_reducible refine stA 3 hS sizeOf199 fun _ hS=>?_)
     exact ret_c 3 hS rfl rfl rfl isAgg199 sizeOf199 rfl rfl (.inl ⟨by rw [eL2.out,if_neg hfg.out,if_pos hlt.out],rfl,hS.pure S⟩)
    ·have hd3:decide ((s.b).lt t.a)=false:=by simpa using hlt
     rw [hd3];replace hlt:=Hd hlt;clear hd3;go_wp2;refine rg0 [.r 0,.r 2,.e 1,.e 3,.p 4,.m 5] [5] hS fun w1 hS=>?_
     have hC:=hS
     repeat (with_reducible first|refine sldA 4 isAgg29 sizeOf29 ?_|refine sldA 5 isAgg29 sizeOf29 ?_)
     refine exL ?_
     go_wp2_with (fail)
     refine (pof_any _ _ _ S (by unfold InI;have:=(ht.1).1;unfold okC at this;omega) (by unfold InI;have:=(ht.1).2;unfold okC at this;omega) (Liv.at hS hF0)).mono ?_;rintro e w' ⟨z,S1,rfl,hq,hz⟩;simp only [];go_step;have hC:=hC.below hq.below hq.drawn;replace hS:=hS.pcl hF0 hO0 hp0 hq;obtain⟨F1,hF1,-,hp1,hO1,hS⟩:=hS;refine ext_end hC ?_;refine mvs ?_;refine exL ?_
     go_wp2_with (fail)
     refine (pof_any _ _ _ S1 (by unfold InI;have:=(hs.2).1;unfold okC at this;omega) (by unfold InI;have:=(hs.2).2;unfold okC at this;omega) (Liv.at hS hF1)).mono ?_;rintro e w' ⟨y,S2,rfl,hq2,hy⟩;simp only [];go_step;have hz:=(hz.at hS hF1).grow hq2;have hC:=hC.below hq2.below hq2.drawn;replace hS:=hS.pcl hF1 hO1 hp1 hq2;obtain⟨F2,hF2,-,hp2,hO2,hS⟩:=hS;refine ext_end hC ?_;refine mvs ?_;refine muL ?_
     (with_reducible refine stA 3 hS sizeOf199 fun _ hS=>?_)
     refine mut_end ?_;refine mvs ?_;refine snL ?_;go_wp2;exact ret_c 3 hS rfl rfl rfl isAgg199 sizeOf199 rfl rfl (.inr (.inr ⟨_,_,z,y,S2,by rw [eL2.out,if_neg hfg.out,if_neg hlt.out];rfl,rfl,hp2.step hS hO2 hF2,hz.at hS hF2,hy.at hS hF2⟩))
 ·have hd1:decide (s.a.lt t.a)=false:=by simpa using h1
  rw [hd1];replace h1:=Hd h1;clear hd1
  go_wp2_with (with_reducible first|refine ldK 2 hS isAgg29 sizeOf29 ?_|refine ldA 5 hS isAgg29 sizeOf29 ?_)
  refine (before_any t.b s.b _).mono ?_;rintro e w' ⟨rfl,hq⟩;have hS:=hS.below hq.below hq.drawn;simp only []
  by_cases h2:t.b.lt s.b
  ·have hd2:decide (t.b.lt s.b)=true:=by simpa using h2
   rw [hd2];replace h2:=Hd h2;clear hd2;have eL2:L=if s.a=t.b then [(s.a).pt] else if (t.b).lt s.a then [] else [(s.a).pt,(t.b).pt]:=by have e:=eL.out;simp only [if_neg h1.out,if_pos h2.out] at e;exact e
   replace eL2:=Hd eL2;clear eL
   by_cases hfg:s.a=t.b
   ·have HE:∀ w,(Op.equalIn 10000 29 (.agg #[.int .i64 s.a.x,.int .i64 s.a.y]) (.agg #[.int .i64 t.b.x,.int .i64 t.b.y])).run Tryz.prog w=.ok true w:=fun w=>by rw [equalG];simp [hfg]
    replace hfg:=Hd hfg
    go_wp2_with (with_reducible first|refine ldK 2 hS isAgg29 sizeOf29 ?_|refine stA 5 hS sizeOf29 fun _ hS=>?_|refine ldA 4 hS isAgg29 sizeOf29 ?_|refine ldA 5 hS isAgg29 sizeOf29 ?_)
    refine (pof_any _ _ _ S (by unfold InI;have:=(hs.1).1;unfold okC at this;omega) (by unfold InI;have:=(hs.1).2;unfold okC at this;omega) (Liv.at hS hF0)).mono ?_;rintro e w' ⟨z,S1,rfl,hq,hz⟩;replace hS:=hS.pcl hF0 hO0 hp0 hq;obtain⟨F1,hF1,-,hp1,hO1,hS⟩:=hS;simp only []
    go_wp2_with (with_reducible refine stA 3 hS sizeOf199 fun _ hS=>?_)
    exact ret_c 3 hS rfl rfl rfl isAgg199 sizeOf199 rfl rfl (.inr (.inl ⟨_,z,S1,by rw [eL2.out,if_pos hfg.out];rfl,rfl,hp1.step hS hO1 hF1,hz.at hS hF1⟩))
   ·have HE:∀ w,(Op.equalIn 10000 29 (.agg #[.int .i64 s.a.x,.int .i64 s.a.y]) (.agg #[.int .i64 t.b.x,.int .i64 t.b.y])).run Tryz.prog w=.ok false w:=fun w=>by rw [equalG];simp [hfg]
    replace hfg:=Hd hfg
    go_wp2_with (with_reducible first|refine ldK 2 hS isAgg29 sizeOf29 ?_|refine stA 5 hS sizeOf29 fun _ hS=>?_|refine ldA 4 hS isAgg29 sizeOf29 ?_|refine ldA 5 hS isAgg29 sizeOf29 ?_)
    refine (before_any t.b s.a _).mono ?_;rintro e w' ⟨rfl,hq⟩;have hS:=hS.below hq.below hq.drawn;simp only [];clear HE
    by_cases hlt:(t.b).lt s.a
    ·have hd3:decide ((t.b).lt s.a)=true:=by simpa using hlt
     rw [hd3];replace hlt:=Hd hlt;clear hd3
     go_wp2_with (with_reducible refine stA 3 hS sizeOf199 fun _ hS=>?_)
     exact ret_c 3 hS rfl rfl rfl isAgg199 sizeOf199 rfl rfl (.inl ⟨by rw [eL2.out,if_neg hfg.out,if_pos hlt.out],rfl,hS.pure S⟩)
    ·have hd3:decide ((t.b).lt s.a)=false:=by simpa using hlt
     rw [hd3];replace hlt:=Hd hlt;clear hd3;go_wp2;refine rg0 [.r 0,.r 2,.e 1,.e 3,.p 4,.m 5] [5] hS fun w1 hS=>?_
     have hC:=hS
     repeat (with_reducible first|refine sldA 4 isAgg29 sizeOf29 ?_|refine sldA 5 isAgg29 sizeOf29 ?_)
     refine exL ?_
     go_wp2_with (fail)
     refine (pof_any _ _ _ S (by unfold InI;have:=(hs.1).1;unfold okC at this;omega) (by unfold InI;have:=(hs.1).2;unfold okC at this;omega) (Liv.at hS hF0)).mono ?_;rintro e w' ⟨z,S1,rfl,hq,hz⟩;simp only [];go_step;have hC:=hC.below hq.below hq.drawn;replace hS:=hS.pcl hF0 hO0 hp0 hq;obtain⟨F1,hF1,-,hp1,hO1,hS⟩:=hS;refine ext_end hC ?_;refine mvs ?_;refine exL ?_
     go_wp2_with (fail)
     refine (pof_any _ _ _ S1 (by unfold InI;have:=(ht.2).1;unfold okC at this;omega) (by unfold InI;have:=(ht.2).2;unfold okC at this;omega) (Liv.at hS hF1)).mono ?_;rintro e w' ⟨y,S2,rfl,hq2,hy⟩;simp only [];go_step;have hz:=(hz.at hS hF1).grow hq2;have hC:=hC.below hq2.below hq2.drawn;replace hS:=hS.pcl hF1 hO1 hp1 hq2;obtain⟨F2,hF2,-,hp2,hO2,hS⟩:=hS;refine ext_end hC ?_;refine mvs ?_;refine muL ?_
     (with_reducible refine stA 3 hS sizeOf199 fun _ hS=>?_)
     refine mut_end ?_;refine mvs ?_;refine snL ?_;go_wp2;exact ret_c 3 hS rfl rfl rfl isAgg199 sizeOf199 rfl rfl (.inr (.inr ⟨_,_,z,y,S2,by rw [eL2.out,if_neg hfg.out,if_neg hlt.out];rfl,rfl,hp2.step hS hO2 hF2,hz.at hS hF2,hy.at hS hF2⟩))
  ·have hd2:decide (t.b.lt s.b)=false:=by simpa using h2
   rw [hd2];replace h2:=Hd h2;clear hd2;have eL2:L=if s.a=s.b then [(s.a).pt] else if (s.b).lt s.a then [] else [(s.a).pt,(s.b).pt]:=by have e:=eL.out;simp only [if_neg h1.out,if_neg h2.out] at e;exact e
   replace eL2:=Hd eL2;clear eL
   by_cases hfg:s.a=s.b
   ·have HE:∀ w,(Op.equalIn 10000 29 (.agg #[.int .i64 s.a.x,.int .i64 s.a.y]) (.agg #[.int .i64 s.b.x,.int .i64 s.b.y])).run Tryz.prog w=.ok true w:=fun w=>by rw [equalG];simp [hfg]
    replace hfg:=Hd hfg
    go_wp2_with (first|(with_reducible refine ldK 2 hS isAgg29 sizeOf29 ?_)|fail|(with_reducible first|refine ldA 4 hS isAgg29 sizeOf29 ?_|refine ldA 5 hS isAgg29 sizeOf29 ?_))
    refine (pof_any _ _ _ S (by unfold InI;have:=(hs.1).1;unfold okC at this;omega) (by unfold InI;have:=(hs.1).2;unfold okC at this;omega) (Liv.at hS hF0)).mono ?_;rintro e w' ⟨z,S1,rfl,hq,hz⟩;replace hS:=hS.pcl hF0 hO0 hp0 hq;obtain⟨F1,hF1,-,hp1,hO1,hS⟩:=hS;simp only []
    go_wp2_with (with_reducible refine stA 3 hS sizeOf199 fun _ hS=>?_)
    exact ret_c 3 hS rfl rfl rfl isAgg199 sizeOf199 rfl rfl (.inr (.inl ⟨_,z,S1,by rw [eL2.out,if_pos hfg.out];rfl,rfl,hp1.step hS hO1 hF1,hz.at hS hF1⟩))
   ·have HE:∀ w,(Op.equalIn 10000 29 (.agg #[.int .i64 s.a.x,.int .i64 s.a.y]) (.agg #[.int .i64 s.b.x,.int .i64 s.b.y])).run Tryz.prog w=.ok false w:=fun w=>by rw [equalG];simp [hfg]
    replace hfg:=Hd hfg
    go_wp2_with (first|(with_reducible refine ldK 2 hS isAgg29 sizeOf29 ?_)|fail|(with_reducible first|refine ldA 4 hS isAgg29 sizeOf29 ?_|refine ldA 5 hS isAgg29 sizeOf29 ?_))
    refine (before_any s.b s.a _).mono ?_;rintro e w' ⟨rfl,hq⟩;have hS:=hS.below hq.below hq.drawn;simp only [];clear HE
    by_cases hlt:(s.b).lt s.a
    ·have hd3:decide ((s.b).lt s.a)=true:=by simpa using hlt
     rw [hd3];replace hlt:=Hd hlt;clear hd3
     go_wp2_with (with_reducible refine stA 3 hS sizeOf199 fun _ hS=>?_)
     exact ret_c 3 hS rfl rfl rfl isAgg199 sizeOf199 rfl rfl (.inl ⟨by rw [eL2.out,if_neg hfg.out,if_pos hlt.out],rfl,hS.pure S⟩)
    ·have hd3:decide ((s.b).lt s.a)=false:=by simpa using hlt
     rw [hd3];replace hlt:=Hd hlt;clear hd3;go_wp2;refine rg0 [.r 0,.r 2,.e 1,.e 3,.p 4,.m 5] [5] hS fun w1 hS=>?_
     have hC:=hS
     repeat (with_reducible first|refine sldA 4 isAgg29 sizeOf29 ?_|refine sldA 5 isAgg29 sizeOf29 ?_)
     refine exL ?_
     go_wp2_with (fail)
     refine (pof_any _ _ _ S (by unfold InI;have:=(hs.1).1;unfold okC at this;omega) (by unfold InI;have:=(hs.1).2;unfold okC at this;omega) (Liv.at hS hF0)).mono ?_;rintro e w' ⟨z,S1,rfl,hq,hz⟩;simp only [];go_step;have hC:=hC.below hq.below hq.drawn;replace hS:=hS.pcl hF0 hO0 hp0 hq;obtain⟨F1,hF1,-,hp1,hO1,hS⟩:=hS;refine ext_end hC ?_;refine mvs ?_;refine exL ?_
     go_wp2_with (fail)
     refine (pof_any _ _ _ S1 (by unfold InI;have:=(hs.2).1;unfold okC at this;omega) (by unfold InI;have:=(hs.2).2;unfold okC at this;omega) (Liv.at hS hF1)).mono ?_;rintro e w' ⟨y,S2,rfl,hq2,hy⟩;simp only [];go_step;have hz:=(hz.at hS hF1).grow hq2;have hC:=hC.below hq2.below hq2.drawn;replace hS:=hS.pcl hF1 hO1 hp1 hq2;obtain⟨F2,hF2,-,hp2,hO2,hS⟩:=hS;refine ext_end hC ?_;refine mvs ?_;refine muL ?_
     (with_reducible refine stA 3 hS sizeOf199 fun _ hS=>?_)
     refine mut_end ?_;refine mvs ?_;refine snL ?_;go_wp2;exact ret_c 3 hS rfl rfl rfl isAgg199 sizeOf199 rfl rfl (.inr (.inr ⟨_,_,z,y,S2,by rw [eL2.out,if_neg hfg.out,if_neg hlt.out];rfl,rfl,hp2.step hS hO2 hF2,hz.at hS hF2,hy.at hS hF2⟩))
end Go.Proofs
namespace Go.Proofs
open Go.Proofs.Tryz
open Go.RowKit Go.Hp
theorem _root_.Go.Hp.Sz.nrm_ok {s:Sz} (h:s.a.ok∧s.b.ok):s.nrm.a.ok∧s.nrm.b.ok:=by
 unfold Sz.nrm;split
 ·exact⟨h.2,h.1⟩
 ·exact h
theorem tri_mul {a b:Int} (ha:-1≤a∧a≤1) (hb:-1≤b∧b≤1):-1≤a*b∧a*b≤1:=by
 have h1:a = -1∨a=0∨a=1:=by omega
 rcases h1 with rfl|rfl|rfl <;> omega
theorem meet_any (s t:Sz) (w:World) (S:Nat→Prop) (hL:Liv w S) (hs:s.a.ok∧s.b.ok) (ht:t.a.ok∧t.b.ok) :
 Calls Tryz.prog 119 #[.agg #[.int .i64 s.a.x,.int .i64 s.a.y,.int .i64 s.b.x,.int .i64 s.b.y],.agg #[.int .i64 t.a.x,.int .i64 t.a.y,.int .i64 t.b.x,.int .i64 t.b.y]] w (CRes w S (meetL s.sg t.sg)):=by
 obtain⟨L,eL⟩:∃ L,L=meetL s.sg t.sg:=⟨_,rfl⟩;rw [← eL];rw [meetL_eq] at eL;have sd1:=fun w' S' hL'=>sideC_any t s.a w' S' hL' ht.1 ht.2 hs.1
 have sd2:=fun w' S' hL'=>sideC_any t s.b w' S' hL' ht.1 ht.2 hs.2
 have sd3:=fun w' S' hL'=>sideC_any s t.a w' S' hL' hs.1 hs.2 ht.1
 have sd4:=fun w' S' hL'=>sideC_any s t.b w' S' hL' hs.1 hs.2 ht.2
 have ln:=fun w' S' hL'=>line_any s.nrm t.nrm w' S' hL' (Sz.nrm_ok hs) (Sz.nrm_ok ht)
 have cx:=fun w' S' hL'=>crossing_any s t w' S' hL' hs ht
 have bm:=fun w'=>meets_any s.bx t.bx w'
 have hdne:sgnZ (areaZ t.a t.b s.a)*sgnZ (areaZ t.a t.b s.b)≤0→¬ (sgnZ (areaZ t.a t.b s.a)=0∧sgnZ (areaZ t.a t.b s.b)=0)→areaZ t.a t.b s.a≠areaZ t.a t.b s.b:=by
  intro h1 h2 h3;rw [h3] at h1 h2;have h4:¬ 0<areaZ t.a t.b s.b*areaZ t.a t.b s.b:=fun h=>by have:=(sgnZ_mul _ _).2 h;omega
  have h5:areaZ t.a t.b s.b≠0:=fun h=>h2 ⟨sgnZ_zero.2 h,sgnZ_zero.2 h⟩
  apply h4
  rcases Int.lt_or_gt_of_ne h5 with h|h
  ·exact Int.mul_pos_of_neg_of_neg h h
  ·exact Int.mul_pos h h
 have g1:=sgnZ_bd (areaZ t.a t.b s.a);have g2:=sgnZ_bd (areaZ t.a t.b s.b);have g3:=sgnZ_bd (areaZ s.a s.b t.a);have g4:=sgnZ_bd (areaZ s.a s.b t.b);obtain⟨c1,e1⟩:∃ c1,c1=sgnZ (areaZ t.a t.b s.a):=⟨_,rfl⟩;obtain⟨c2,e2⟩:∃ c2,c2=sgnZ (areaZ t.a t.b s.b):=⟨_,rfl⟩;obtain⟨c3,e3⟩:∃ c3,c3=sgnZ (areaZ s.a s.b t.a):=⟨_,rfl⟩;obtain⟨c4,e4⟩:∃ c4,c4=sgnZ (areaZ s.a s.b t.b):=⟨_,rfl⟩;simp only [← e1,← e2,← e3,← e4] at eL sd1 sd2 sd3 sd4 hdne g1 g2 g3 g4;clear e1 e2 e3 e4;replace eL:=Hd eL;replace hdne:=Hd hdne;obtain⟨hS,hF0,hO0,hp0⟩:=st0 hL
 go_enter func119,ntmps119
 go_wp2_with (with_reducible first|refine bxA hS fun bx wbx hS=>?_|refine alA hS zeroValue199 fun br wbr hS=>?_)
 refine rg0 [.r 0,.r 2,.e 1,.e 3,.e 4,.p 5] [] hS fun w1 hS=>?_
 repeat (with_reducible first|refine sldA 1 isAgg95 sizeOf95 ?_|refine sldA 2 isAgg95 sizeOf95 ?_)
 refine exL ?_
 go_wp2_with (fail)
 refine (boxC_any s _).mono ?_;rintro e w' ⟨rfl,hq1⟩;simp only [];go_step;have hS:=hS.below hq1.below hq1.drawn;refine ext_end hS ?_;refine mvs ?_;refine exL ?_
 go_wp2_with (fail)
 refine (boxC_any t _).mono ?_;rintro e w' ⟨rfl,hq1⟩;simp only [];go_step;have hS:=hS.below hq1.below hq1.drawn;refine ext_end hS ?_;refine mvs ?_;refine exL ?_
 go_wp2_with (fail)
 refine (bm _).mono ?_;rintro e w' ⟨rfl,hq1⟩;simp only [];go_step;have hS:=hS.below hq1.below hq1.drawn;refine ext_end hS ?_
 by_cases hb:max s.bx.x0 t.bx.x0≤min s.bx.x1 t.bx.x1∧max s.bx.y0 t.bx.y0≤min s.bx.y1 t.bx.y1
 ·have hd:decide (max s.bx.x0 t.bx.x0≤min s.bx.x1 t.bx.x1∧max s.bx.y0 t.bx.y0≤min s.bx.y1 t.bx.y1)=true:=by simpa using hb
  rw [hd];clear hd;replace hb:=Hd hb;refine mvs ?_;refine snL ?_;go_wp2;refine rg0 [.r 0,.p 1,.r 2,.r 4,.p 5,.r 6,.e 3,.e 7,.p 8,.p 9] [] hS fun w1 hS=>?_
  have hC:=hS
  repeat (with_reducible first|refine sldA 2 isAgg95 sizeOf95 ?_|refine sldK 1 isAgg29 sizeOf29 ?_|refine spL ?_)
  refine exL ?_
  go_wp2_with (fail)
  refine (sd1 _ S (Liv.at hS hF0)).mono ?_;rintro e w' ⟨rfl,hq⟩;simp only [];go_step;have hC:=hC.below hq.below hq.drawn;replace hS:=hS.pcl hF0 hO0 hp0 hq;obtain⟨F1,hF1,-,hp1,hO1,hS⟩:=hS;refine ext_end hC ?_;refine mvs ?_;refine exL ?_
  go_wp2_with (fail)
  refine (sd2 _ S (Liv.at hS hF1)).mono ?_;rintro e w' ⟨rfl,hq⟩;simp only [];go_step;have hC:=hC.below hq.below hq.drawn;replace hS:=hS.pcl hF1 hO1 hp1 hq;obtain⟨F2,hF2,-,hp2,hO2,hS⟩:=hS;refine ext_end hC ?_;refine mvs ?_;refine snL ?_;clear hC
  by_cases hz:c1=0∧c2=0
  ·obtain⟨rfl,rfl⟩:=hz
   go_wp2;refine rg0 [.r 0,.r 2,.e 1,.e 3,.e 4,.m 5] [5] hS fun w1 hS=>?_
   have hC:=hS
   repeat (with_reducible first|refine sldA 1 isAgg95 sizeOf95 ?_|refine sldA 2 isAgg95 sizeOf95 ?_)
   refine exL ?_
   go_wp2_with (fail)
   refine (nrm_any s _).mono ?_;rintro e w' ⟨rfl,hq1⟩;simp only [];go_step;have hS:=hS.below hq1.below hq1.drawn;have hC:=hC.below hq1.below hq1.drawn;refine ext_end hC ?_;refine mvs ?_;refine exL ?_
   go_wp2_with (fail)
   refine (nrm_any t _).mono ?_;rintro e w' ⟨rfl,hq1⟩;simp only [];go_step;have hS:=hS.below hq1.below hq1.drawn;have hC:=hC.below hq1.below hq1.drawn;refine ext_end hC ?_;refine mvs ?_;refine exL ?_
   go_wp2_with (fail)
   refine (ln _ S (Liv.at hS hF2)).mono ?_;have eL2:=eL.out;rw [if_neg (by simpa using hb.out),if_pos (by simp)] at eL2;rintro e w' (⟨hl,rfl,hq⟩|⟨p,z,S1,hl,rfl,hq,hz⟩|⟨p,q,z,y,S1,hl,rfl,hq,hz,hy⟩)
   ·replace eL2:=Hd (eL2.trans hl)
    clear hl;simp only [];go_step;have hC:=hC.below hq.below hq.drawn;replace hS:=hS.pcl hF2 hO2 hp2 hq;obtain⟨F3,hF3,-,hp3,hO3,hS⟩:=hS;refine ext_end hC ?_;refine mvs ?_;refine muL ?_
    (with_reducible refine stA 3 hS sizeOf199 fun _ hS=>?_)
    refine mut_end ?_;refine mvs ?_;refine snL ?_;go_wp2;exact ret_c 3 hS rfl rfl rfl isAgg199 sizeOf199 rfl rfl (.inl ⟨eL2.out,rfl,hp3.step hS hO3 hF3⟩)
   ·replace eL2:=Hd (eL2.trans hl)
    clear hl;simp only [];go_step;have hC:=hC.below hq.below hq.drawn;replace hS:=hS.pcl hF2 hO2 hp2 hq;obtain⟨F3,hF3,-,hp3,hO3,hS⟩:=hS;refine ext_end hC ?_;refine mvs ?_;refine muL ?_
    (with_reducible refine stA 3 hS sizeOf199 fun _ hS=>?_)
    refine mut_end ?_;refine mvs ?_;refine snL ?_;go_wp2;exact ret_c 3 hS rfl rfl rfl isAgg199 sizeOf199 rfl rfl (.inr (.inl ⟨_,z,S1,eL2.out,rfl,hp3.step hS hO3 hF3,hz.at hS hF3⟩))
   ·replace eL2:=Hd (eL2.trans hl)
    clear hl;simp only [];go_step;have hC:=hC.below hq.below hq.drawn;replace hS:=hS.pcl hF2 hO2 hp2 hq;obtain⟨F3,hF3,-,hp3,hO3,hS⟩:=hS;refine ext_end hC ?_;refine mvs ?_;refine muL ?_
    (with_reducible refine stA 3 hS sizeOf199 fun _ hS=>?_)
    refine mut_end ?_;refine mvs ?_;refine snL ?_;go_wp2;exact ret_c 3 hS rfl rfl rfl isAgg199 sizeOf199 rfl rfl (.inr (.inr ⟨_,_,z,y,S1,eL2.out,rfl,hp3.step hS hO3 hF3,hz.at hS hF3,hy.at hS hF3⟩))
  ·have eL2:=eL.out
   rw [if_neg (by simpa using hb.out),if_neg hz] at eL2;replace eL2:=Hd eL2;clear eL;have t12:=tri_mul g1 g2;have t34:=tri_mul g3 g4;have w12:IntKind.i64.wrap (c1*c2)=c1*c2:=w6;have w34:IntKind.i64.wrap (c3*c4)=c3*c4:=w6;clear t12 t34
   by_cases hc1:c1=0
   ·have hc1t:(c1 == 0)=true:=by simp [hc1]
    have hc2f:(c2 == 0)=false:=by simpa using fun h=>hz ⟨hc1,h⟩
    replace hz:=Hd hz;clear hc1;go_wp2;refine rg0 [.p 0,.p 1,.p 2,.p 3,.p 4,.r 5,.p 6,.r 7,.r 9,.p 10,.r 11,.e 8,.e 12,.p 13,.p 14,.p 15] [] hS fun w1 hS=>?_
    have hC:=hS
    by_cases hp12:0<c1*c2
    ·have hd1:decide (0<c1*c2)=true:=by simpa using hp12
     replace hp12:=Hd hp12
     repeat (with_reducible first|refine skL ?_|refine spL ?_)
     refine exL ?_;refine wpList_unwanted rfl ?_;refine ext_end hC ?_;refine mvs ?_;refine exL ?_;refine wpList_unwanted rfl ?_;refine ext_end hC ?_;refine mvs ?_;refine snL ?_;clear hC
     go_wp2_with (with_reducible refine stA 3 hS sizeOf199 fun _ hS=>?_)
     exact ret_c 3 hS rfl rfl rfl isAgg199 sizeOf199 rfl rfl (.inl ⟨by rw [eL2.out,if_pos (.inl hp12.out)],rfl,hp2.step hS hO2 hF2⟩)
    ·have hd1:decide (0<c1*c2)=false:=by simpa using hp12
     replace hp12:=Hd hp12
     repeat (with_reducible first|refine sldA 1 isAgg95 sizeOf95 ?_|refine sldK 2 isAgg29 sizeOf29 ?_|refine spL ?_)
     refine exL ?_
     go_wp2_with (fail)
     refine (sd3 _ S (Liv.at hS hF2)).mono ?_;rintro e w' ⟨rfl,hq⟩;simp only [];go_step;have hC:=hC.below hq.below hq.drawn;replace hS:=hS.pcl hF2 hO2 hp2 hq;obtain⟨F3,hF3,-,hp3,hO3,hS⟩:=hS;refine ext_end hC ?_;refine mvs ?_;refine exL ?_
     go_wp2_with (fail)
     refine (sd4 _ S (Liv.at hS hF3)).mono ?_;rintro e w' ⟨rfl,hq⟩;simp only [];go_step;have hC:=hC.below hq.below hq.drawn;replace hS:=hS.pcl hF3 hO3 hp3 hq;obtain⟨F4,hF4,-,hp4,hO4,hS⟩:=hS;refine ext_end hC ?_
     by_cases hp34:0<c3*c4
     ·have hd2:decide (0<c3*c4)=true:=by simpa using hp34
      replace hp34:=Hd hp34;refine mvs ?_;refine snL ?_;clear hC
      go_wp2_with (with_reducible refine stA 3 hS sizeOf199 fun _ hS=>?_)
      exact ret_c 3 hS rfl rfl rfl isAgg199 sizeOf199 rfl rfl (.inl ⟨by rw [eL2.out,if_pos (.inr hp34.out)],rfl,hp4.step hS hO4 hF4⟩)
     ·have hd2:decide (0<c3*c4)=false:=by simpa using hp34
      replace hp34:=Hd hp34;refine mvs ?_;refine snL ?_;clear hC
      go_wp2_with (with_reducible first|refine ldA 1 hS isAgg95 sizeOf95 ?_|refine ldA 2 hS isAgg95 sizeOf95 ?_)
      refine (cx _ S (Liv.at hS hF4) (hdne.out (by have:=hp12.out;omega) hz.out)).mono ?_;rintro e w' ⟨z,S1,rfl,hq,hz1⟩;replace hS:=hS.pcl hF4 hO4 hp4 hq;obtain⟨F5,hF5,-,hp5,hO5,hS⟩:=hS;simp only []
      go_wp2_with (with_reducible refine stA 3 hS sizeOf199 fun _ hS=>?_)
      exact ret_c 3 hS rfl rfl rfl isAgg199 sizeOf199 rfl rfl (.inr (.inl ⟨_,z,S1,by rw [eL2.out,if_neg (by have h1:=hp12.out;have h2:=hp34.out;omega)],rfl,hp5.step hS hO5 hF5,hz1.at hS hF5⟩))
   ·have hc1f:(c1 == 0)=false:=by simpa using hc1
    replace hz:=Hd hz;clear hc1;go_wp2;refine rg0 [.p 0,.p 1,.p 2,.p 3,.p 4,.r 5,.p 6,.r 7,.r 9,.p 10,.r 11,.e 8,.e 12,.p 13,.p 14,.p 15] [] hS fun w1 hS=>?_
    have hC:=hS
    by_cases hp12:0<c1*c2
    ·have hd1:decide (0<c1*c2)=true:=by simpa using hp12
     replace hp12:=Hd hp12
     repeat (with_reducible first|refine skL ?_|refine spL ?_)
     refine exL ?_;refine wpList_unwanted rfl ?_;refine ext_end hC ?_;refine mvs ?_;refine exL ?_;refine wpList_unwanted rfl ?_;refine ext_end hC ?_;refine mvs ?_;refine snL ?_;clear hC
     go_wp2_with (with_reducible refine stA 3 hS sizeOf199 fun _ hS=>?_)
     exact ret_c 3 hS rfl rfl rfl isAgg199 sizeOf199 rfl rfl (.inl ⟨by rw [eL2.out,if_pos (.inl hp12.out)],rfl,hp2.step hS hO2 hF2⟩)
    ·have hd1:decide (0<c1*c2)=false:=by simpa using hp12
     replace hp12:=Hd hp12
     repeat (with_reducible first|refine sldA 1 isAgg95 sizeOf95 ?_|refine sldK 2 isAgg29 sizeOf29 ?_|refine spL ?_)
     refine exL ?_
     go_wp2_with (fail)
     refine (sd3 _ S (Liv.at hS hF2)).mono ?_;rintro e w' ⟨rfl,hq⟩;simp only [];go_step;have hC:=hC.below hq.below hq.drawn;replace hS:=hS.pcl hF2 hO2 hp2 hq;obtain⟨F3,hF3,-,hp3,hO3,hS⟩:=hS;refine ext_end hC ?_;refine mvs ?_;refine exL ?_
     go_wp2_with (fail)
     refine (sd4 _ S (Liv.at hS hF3)).mono ?_;rintro e w' ⟨rfl,hq⟩;simp only [];go_step;have hC:=hC.below hq.below hq.drawn;replace hS:=hS.pcl hF3 hO3 hp3 hq;obtain⟨F4,hF4,-,hp4,hO4,hS⟩:=hS;refine ext_end hC ?_
     by_cases hp34:0<c3*c4
     ·have hd2:decide (0<c3*c4)=true:=by simpa using hp34
      replace hp34:=Hd hp34;refine mvs ?_;refine snL ?_;clear hC
      go_wp2_with (with_reducible refine stA 3 hS sizeOf199 fun _ hS=>?_)
      exact ret_c 3 hS rfl rfl rfl isAgg199 sizeOf199 rfl rfl (.inl ⟨by rw [eL2.out,if_pos (.inr hp34.out)],rfl,hp4.step hS hO4 hF4⟩)
     ·have hd2:decide (0<c3*c4)=false:=by simpa using hp34
      replace hp34:=Hd hp34;refine mvs ?_;refine snL ?_;clear hC
      go_wp2_with (with_reducible first|refine ldA 1 hS isAgg95 sizeOf95 ?_|refine ldA 2 hS isAgg95 sizeOf95 ?_)
      refine (cx _ S (Liv.at hS hF4) (hdne.out (by have:=hp12.out;omega) hz.out)).mono ?_;rintro e w' ⟨z,S1,rfl,hq,hz1⟩;replace hS:=hS.pcl hF4 hO4 hp4 hq;obtain⟨F5,hF5,-,hp5,hO5,hS⟩:=hS;simp only []
      go_wp2_with (with_reducible refine stA 3 hS sizeOf199 fun _ hS=>?_)
      exact ret_c 3 hS rfl rfl rfl isAgg199 sizeOf199 rfl rfl (.inr (.inl ⟨_,z,S1,by rw [eL2.out,if_neg (by have h1:=hp12.out;have h2:=hp34.out;omega)],rfl,hp5.step hS hO5 hF5,hz1.at hS hF5⟩))
 ·have hd:decide (max s.bx.x0 t.bx.x0≤min s.bx.x1 t.bx.x1∧max s.bx.y0 t.bx.y0≤min s.bx.y1 t.bx.y1)=false:=by simpa using hb
  rw [hd];clear hd;replace hb:=Hd hb;refine mvs ?_;refine snL ?_
  go_wp2_with (with_reducible refine stA 3 hS sizeOf199 fun _ hS=>?_)
  exact ret_c 3 hS rfl rfl rfl isAgg199 sizeOf199 rfl rfl (.inl ⟨by rw [eL.out,if_pos (by simpa using hb.out)],rfl,hS.pure S⟩)
end Go.Proofs
