/- Texts for the walk of the law: D9 D10 DR DR2 FR E1 E2 E3 E4 E5. -/
import Derived.Test.YtgaejkbkfoaaiaaGreatR06
import Derived.Lib.AppendZerosOnto
import Derived.Lib.AppendZeros
import Derived.Lib.Overlaps
import Derived.Laws.Externs
set_option maxRecDepth 100000
set_option maxHeartbeats 16000000
set_option linter.unusedVariables false
set_option linter.unusedSimpArgs false
namespace Go.Hp
open Go Go.RowKit Go.Proofs.Tryz
theorem pv (a b:Gp) (w:World):(Op.equalIn 10000 43 (.agg #[.int .i64 a.x,.int .i64 a.y]) (.agg #[.int .i64 b.x,.int .i64 b.y])).run prog w=.ok (decide (a=b)) w:=by
 obtain⟨x,y⟩:=a;obtain⟨u,v⟩:=b;have he:((⟨x,y⟩:Gp)=⟨u,v⟩)↔(x=u∧y=v):=by simp
 simp only [he]
 by_cases h1:x=u
 ·by_cases h2:y=v
  ·subst h1 h2
   go_simp
  ·go_simp
 ·go_simp
theorem aUs (s t:Sz) (w:World) (S:Nat→Prop) (hL:aP w S) (hs:s.a.ok∧s.b.ok) (ht:t.a.ok∧t.b.ok) :
 Calls prog 144 #[.agg #[.int .i64 s.a.x,.int .i64 s.a.y,.int .i64 s.b.x,.int .i64 s.b.y],.agg #[.int .i64 t.a.x,.int .i64 t.a.y,.int .i64 t.b.x,.int .i64 t.b.y]] w (aHw w S (a18 s t)):=by
 obtain⟨L,eL⟩:∃ L,L=a18 s t:=⟨_,rfl⟩;rw [← eL];unfold a18 at eL;replace eL:=Hd eL;obtain⟨hS,aC,bC,bD⟩:=eR hL
 go_enter func144,ntmps144
 go_wp2_with (with_reducible first|refine cI hS fun bx cu hS=>?_|refine bH hS zeroValue163 fun br fu hS=>?_)
 refine kQ 1 [.p 0,.r 1,.p 2,.r 3] [.e 6,.e 7] [] [eU 4 5 43 (.agg #[.int .i64 0,.int .i64 0]),eU 5 6 43 (.agg #[.int .i64 0,.int .i64 0])] w _ (by kernel_rfl) (by kernel_rfl) (a0n rfl zeroValue43 rfl zeroValue43 (by decide) (by decide)) hS.drew ?_;obtain⟨aI,aT⟩:=hS.jw
 repeat (with_reducible first|refine py 1 isAgg43 sizeOf43 ?_|refine lF ?_)
 refine a0H (fun b5 b6 wB hS=>?_);simp only [aK] at hS;simp only [aD];refine aZ ?_
 (with_reducible refine aJ 4 hS sizeOf43 fun _ hS=>?_)
 refine aX (aA.gA hS.sb aI aT) ?_;refine aM ?_;refine aZ ?_
 (with_reducible refine aJ 5 hS sizeOf43 fun _ hS=>?_)
 refine aX (aA.gA hS.sb aI aT) ?_;refine aM ?_;refine bE ?_;clear aI aT
 go_wp2_with (with_reducible first|refine eW 2 hS isAgg43 sizeOf43 ?_|refine bA 4 hS isAgg43 sizeOf43 ?_)
 refine (yR s.a t.a _).mono ?_;rintro e w' ⟨rfl,hq⟩;have hS:=hS.below hq.below hq.drawn;simp only []
 by_cases h1:s.a.lt t.a
 ·have eo:decide (s.a.lt t.a)=true:=by simpa using h1
  rw [eo];replace h1:=Hd h1;clear eo
  go_wp2_with (with_reducible first|refine eW 2 hS isAgg43 sizeOf43 ?_|refine bA 5 hS isAgg43 sizeOf43 ?_|refine aJ 4 hS sizeOf43 fun _ hS=>?_)
  refine (yR t.b s.b _).mono ?_;rintro e w' ⟨rfl,hq⟩;have hS:=hS.below hq.below hq.drawn;simp only []
  by_cases h2:t.b.lt s.b
  ·have fH:decide (t.b.lt s.b)=true:=by simpa using h2
   rw [fH];replace h2:=Hd h2;clear fH;have fj:L=if t.a=t.b then [(t.a).pt] else if (t.b).lt t.a then [] else [(t.a).pt,(t.b).pt]:=by have e:=eL.out;simp only [if_pos h1.out,if_pos h2.out] at e;exact e
   replace fj:=Hd fj;clear eL
   by_cases gJ:t.a=t.b
   ·have HE:∀ w,(Op.equalIn 10000 43 (.agg #[.int .i64 t.a.x,.int .i64 t.a.y]) (.agg #[.int .i64 t.b.x,.int .i64 t.b.y])).run prog w=.ok true w:=fun w=>by rw [pv];simp [gJ]
    replace gJ:=Hd gJ
    go_wp2_with (with_reducible first|refine eW 2 hS isAgg43 sizeOf43 ?_|refine aJ 5 hS sizeOf43 fun _ hS=>?_|refine bA 4 hS isAgg43 sizeOf43 ?_|refine bA 5 hS isAgg43 sizeOf43 ?_)
    refine (o6 _ _ _ S (by unfold bQ;have:=(ht.1).1;unfold fS at this;omega) (by unfold bQ;have:=(ht.1).2;unfold fS at this;omega) (aP.at hS aC)).mono ?_;rintro e w' ⟨z,S1,rfl,hq,hz⟩;replace hS:=hS.aj aC bC bD hq;obtain⟨F1,aG,-,bB,av,hS⟩:=hS;simp only []
    go_wp2_with (with_reducible refine aJ 3 hS sizeOf163 fun _ hS=>?_)
    exact fE 3 hS rfl rfl rfl isAgg163 sizeOf163 rfl rfl (.inr (.inl ⟨_,z,S1,by rw [fj.out,if_pos gJ.out];rfl,rfl,bB.step hS av aG,hz.at hS aG⟩))
   ·have HE:∀ w,(Op.equalIn 10000 43 (.agg #[.int .i64 t.a.x,.int .i64 t.a.y]) (.agg #[.int .i64 t.b.x,.int .i64 t.b.y])).run prog w=.ok false w:=fun w=>by rw [pv];simp [gJ]
    replace gJ:=Hd gJ
    go_wp2_with (with_reducible first|refine eW 2 hS isAgg43 sizeOf43 ?_|refine aJ 5 hS sizeOf43 fun _ hS=>?_|refine bA 4 hS isAgg43 sizeOf43 ?_|refine bA 5 hS isAgg43 sizeOf43 ?_)
    refine (yR t.b t.a _).mono ?_;rintro e w' ⟨rfl,hq⟩;have hS:=hS.below hq.below hq.drawn;simp only [];clear HE
    by_cases aW:(t.b).lt t.a
    ·have jI:decide ((t.b).lt t.a)=true:=by simpa using aW
     rw [jI];replace aW:=Hd aW;clear jI
     go_wp2_with (with_reducible refine aJ 3 hS sizeOf163 fun _ hS=>?_)
     exact fE 3 hS rfl rfl rfl isAgg163 sizeOf163 rfl rfl (.inl ⟨by rw [fj.out,if_neg gJ.out,if_pos aW.out],rfl,hS.pure S⟩)
    ·have jI:decide ((t.b).lt t.a)=false:=by simpa using aW
     rw [jI];replace aW:=Hd aW;clear jI;go_wp2;refine dB [.r 0,.r 2,.e 1,.e 3,.p 4,.m 5] [5] hS fun w1 hS=>?_
     have hC:=hS
     repeat (with_reducible first|refine cz 4 isAgg43 sizeOf43 ?_|refine cz 5 isAgg43 sizeOf43 ?_)
     refine aZ ?_
     go_wp2_with (fail)
     refine (o6 _ _ _ S (by unfold bQ;have:=(ht.1).1;unfold fS at this;omega) (by unfold bQ;have:=(ht.1).2;unfold fS at this;omega) (aP.at hS aC)).mono ?_;rintro e w' ⟨z,S1,rfl,hq,hz⟩;simp only [];go_step;have hC:=hC.below hq.below hq.drawn;replace hS:=hS.aj aC bC bD hq;obtain⟨F1,aG,-,bB,av,hS⟩:=hS;refine aX hC ?_;refine aM ?_;refine aZ ?_
     go_wp2_with (fail)
     refine (o6 _ _ _ S1 (by unfold bQ;have:=(ht.2).1;unfold fS at this;omega) (by unfold bQ;have:=(ht.2).2;unfold fS at this;omega) (aP.at hS aG)).mono ?_;rintro e w' ⟨y,S2,rfl,aR,hy⟩;simp only [];go_step;have hz:=(hz.at hS aG).grow aR;have hC:=hC.below aR.below aR.drawn;replace hS:=hS.aj aG av bB aR;obtain⟨F2,aQ,-,bR,bP,hS⟩:=hS;refine aX hC ?_;refine aM ?_;refine dC ?_
     (with_reducible refine aJ 3 hS sizeOf163 fun _ hS=>?_)
     refine dD ?_;refine aM ?_;refine bE ?_;go_wp2;exact fE 3 hS rfl rfl rfl isAgg163 sizeOf163 rfl rfl (.inr (.inr ⟨_,_,z,y,S2,by rw [fj.out,if_neg gJ.out,if_neg aW.out];rfl,rfl,bR.step hS bP aQ,hz.at hS aQ,hy.at hS aQ⟩))
  ·have fH:decide (t.b.lt s.b)=false:=by simpa using h2
   rw [fH];replace h2:=Hd h2;clear fH;have fj:L=if t.a=s.b then [(t.a).pt] else if (s.b).lt t.a then [] else [(t.a).pt,(s.b).pt]:=by have e:=eL.out;simp only [if_pos h1.out,if_neg h2.out] at e;exact e
   replace fj:=Hd fj;clear eL
   by_cases gJ:t.a=s.b
   ·have HE:∀ w,(Op.equalIn 10000 43 (.agg #[.int .i64 t.a.x,.int .i64 t.a.y]) (.agg #[.int .i64 s.b.x,.int .i64 s.b.y])).run prog w=.ok true w:=fun w=>by rw [pv];simp [gJ]
    replace gJ:=Hd gJ
    go_wp2_with (first|(with_reducible refine eW 2 hS isAgg43 sizeOf43 ?_)|fail|(with_reducible first|refine bA 4 hS isAgg43 sizeOf43 ?_|refine bA 5 hS isAgg43 sizeOf43 ?_))
    refine (o6 _ _ _ S (by unfold bQ;have:=(ht.1).1;unfold fS at this;omega) (by unfold bQ;have:=(ht.1).2;unfold fS at this;omega) (aP.at hS aC)).mono ?_;rintro e w' ⟨z,S1,rfl,hq,hz⟩;replace hS:=hS.aj aC bC bD hq;obtain⟨F1,aG,-,bB,av,hS⟩:=hS;simp only []
    go_wp2_with (with_reducible refine aJ 3 hS sizeOf163 fun _ hS=>?_)
    exact fE 3 hS rfl rfl rfl isAgg163 sizeOf163 rfl rfl (.inr (.inl ⟨_,z,S1,by rw [fj.out,if_pos gJ.out];rfl,rfl,bB.step hS av aG,hz.at hS aG⟩))
   ·have HE:∀ w,(Op.equalIn 10000 43 (.agg #[.int .i64 t.a.x,.int .i64 t.a.y]) (.agg #[.int .i64 s.b.x,.int .i64 s.b.y])).run prog w=.ok false w:=fun w=>by rw [pv];simp [gJ]
    replace gJ:=Hd gJ
    go_wp2_with (first|(with_reducible refine eW 2 hS isAgg43 sizeOf43 ?_)|fail|(with_reducible first|refine bA 4 hS isAgg43 sizeOf43 ?_|refine bA 5 hS isAgg43 sizeOf43 ?_))
    refine (yR s.b t.a _).mono ?_;rintro e w' ⟨rfl,hq⟩;have hS:=hS.below hq.below hq.drawn;simp only [];clear HE
    by_cases aW:(s.b).lt t.a
    ·have jI:decide ((s.b).lt t.a)=true:=by simpa using aW
     rw [jI];replace aW:=Hd aW;clear jI
     go_wp2_with (with_reducible refine aJ 3 hS sizeOf163 fun _ hS=>?_)
     exact fE 3 hS rfl rfl rfl isAgg163 sizeOf163 rfl rfl (.inl ⟨by rw [fj.out,if_neg gJ.out,if_pos aW.out],rfl,hS.pure S⟩)
    ·have jI:decide ((s.b).lt t.a)=false:=by simpa using aW
     rw [jI];replace aW:=Hd aW;clear jI;go_wp2;refine dB [.r 0,.r 2,.e 1,.e 3,.p 4,.m 5] [5] hS fun w1 hS=>?_
     have hC:=hS
     repeat (with_reducible first|refine cz 4 isAgg43 sizeOf43 ?_|refine cz 5 isAgg43 sizeOf43 ?_)
     refine aZ ?_
     go_wp2_with (fail)
     refine (o6 _ _ _ S (by unfold bQ;have:=(ht.1).1;unfold fS at this;omega) (by unfold bQ;have:=(ht.1).2;unfold fS at this;omega) (aP.at hS aC)).mono ?_;rintro e w' ⟨z,S1,rfl,hq,hz⟩;simp only [];go_step;have hC:=hC.below hq.below hq.drawn;replace hS:=hS.aj aC bC bD hq;obtain⟨F1,aG,-,bB,av,hS⟩:=hS;refine aX hC ?_;refine aM ?_;refine aZ ?_
     go_wp2_with (fail)
     refine (o6 _ _ _ S1 (by unfold bQ;have:=(hs.2).1;unfold fS at this;omega) (by unfold bQ;have:=(hs.2).2;unfold fS at this;omega) (aP.at hS aG)).mono ?_;rintro e w' ⟨y,S2,rfl,aR,hy⟩;simp only [];go_step;have hz:=(hz.at hS aG).grow aR;have hC:=hC.below aR.below aR.drawn;replace hS:=hS.aj aG av bB aR;obtain⟨F2,aQ,-,bR,bP,hS⟩:=hS;refine aX hC ?_;refine aM ?_;refine dC ?_
     (with_reducible refine aJ 3 hS sizeOf163 fun _ hS=>?_)
     refine dD ?_;refine aM ?_;refine bE ?_;go_wp2;exact fE 3 hS rfl rfl rfl isAgg163 sizeOf163 rfl rfl (.inr (.inr ⟨_,_,z,y,S2,by rw [fj.out,if_neg gJ.out,if_neg aW.out];rfl,rfl,bR.step hS bP aQ,hz.at hS aQ,hy.at hS aQ⟩))
 ·have eo:decide (s.a.lt t.a)=false:=by simpa using h1
  rw [eo];replace h1:=Hd h1;clear eo
  go_wp2_with (with_reducible first|refine eW 2 hS isAgg43 sizeOf43 ?_|refine bA 5 hS isAgg43 sizeOf43 ?_)
  refine (yR t.b s.b _).mono ?_;rintro e w' ⟨rfl,hq⟩;have hS:=hS.below hq.below hq.drawn;simp only []
  by_cases h2:t.b.lt s.b
  ·have fH:decide (t.b.lt s.b)=true:=by simpa using h2
   rw [fH];replace h2:=Hd h2;clear fH;have fj:L=if s.a=t.b then [(s.a).pt] else if (t.b).lt s.a then [] else [(s.a).pt,(t.b).pt]:=by have e:=eL.out;simp only [if_neg h1.out,if_pos h2.out] at e;exact e
   replace fj:=Hd fj;clear eL
   by_cases gJ:s.a=t.b
   ·have HE:∀ w,(Op.equalIn 10000 43 (.agg #[.int .i64 s.a.x,.int .i64 s.a.y]) (.agg #[.int .i64 t.b.x,.int .i64 t.b.y])).run prog w=.ok true w:=fun w=>by rw [pv];simp [gJ]
    replace gJ:=Hd gJ
    go_wp2_with (with_reducible first|refine eW 2 hS isAgg43 sizeOf43 ?_|refine aJ 5 hS sizeOf43 fun _ hS=>?_|refine bA 4 hS isAgg43 sizeOf43 ?_|refine bA 5 hS isAgg43 sizeOf43 ?_)
    refine (o6 _ _ _ S (by unfold bQ;have:=(hs.1).1;unfold fS at this;omega) (by unfold bQ;have:=(hs.1).2;unfold fS at this;omega) (aP.at hS aC)).mono ?_;rintro e w' ⟨z,S1,rfl,hq,hz⟩;replace hS:=hS.aj aC bC bD hq;obtain⟨F1,aG,-,bB,av,hS⟩:=hS;simp only []
    go_wp2_with (with_reducible refine aJ 3 hS sizeOf163 fun _ hS=>?_)
    exact fE 3 hS rfl rfl rfl isAgg163 sizeOf163 rfl rfl (.inr (.inl ⟨_,z,S1,by rw [fj.out,if_pos gJ.out];rfl,rfl,bB.step hS av aG,hz.at hS aG⟩))
   ·have HE:∀ w,(Op.equalIn 10000 43 (.agg #[.int .i64 s.a.x,.int .i64 s.a.y]) (.agg #[.int .i64 t.b.x,.int .i64 t.b.y])).run prog w=.ok false w:=fun w=>by rw [pv];simp [gJ]
    replace gJ:=Hd gJ
    go_wp2_with (with_reducible first|refine eW 2 hS isAgg43 sizeOf43 ?_|refine aJ 5 hS sizeOf43 fun _ hS=>?_|refine bA 4 hS isAgg43 sizeOf43 ?_|refine bA 5 hS isAgg43 sizeOf43 ?_)
    refine (yR t.b s.a _).mono ?_;rintro e w' ⟨rfl,hq⟩;have hS:=hS.below hq.below hq.drawn;simp only [];clear HE
    by_cases aW:(t.b).lt s.a
    ·have jI:decide ((t.b).lt s.a)=true:=by simpa using aW
     rw [jI];replace aW:=Hd aW;clear jI
     go_wp2_with (with_reducible refine aJ 3 hS sizeOf163 fun _ hS=>?_)
     exact fE 3 hS rfl rfl rfl isAgg163 sizeOf163 rfl rfl (.inl ⟨by rw [fj.out,if_neg gJ.out,if_pos aW.out],rfl,hS.pure S⟩)
    ·have jI:decide ((t.b).lt s.a)=false:=by simpa using aW
     rw [jI];replace aW:=Hd aW;clear jI;go_wp2;refine dB [.r 0,.r 2,.e 1,.e 3,.p 4,.m 5] [5] hS fun w1 hS=>?_
     have hC:=hS
     repeat (with_reducible first|refine cz 4 isAgg43 sizeOf43 ?_|refine cz 5 isAgg43 sizeOf43 ?_)
     refine aZ ?_
     go_wp2_with (fail)
     refine (o6 _ _ _ S (by unfold bQ;have:=(hs.1).1;unfold fS at this;omega) (by unfold bQ;have:=(hs.1).2;unfold fS at this;omega) (aP.at hS aC)).mono ?_;rintro e w' ⟨z,S1,rfl,hq,hz⟩;simp only [];go_step;have hC:=hC.below hq.below hq.drawn;replace hS:=hS.aj aC bC bD hq;obtain⟨F1,aG,-,bB,av,hS⟩:=hS;refine aX hC ?_;refine aM ?_;refine aZ ?_
     go_wp2_with (fail)
     refine (o6 _ _ _ S1 (by unfold bQ;have:=(ht.2).1;unfold fS at this;omega) (by unfold bQ;have:=(ht.2).2;unfold fS at this;omega) (aP.at hS aG)).mono ?_;rintro e w' ⟨y,S2,rfl,aR,hy⟩;simp only [];go_step;have hz:=(hz.at hS aG).grow aR;have hC:=hC.below aR.below aR.drawn;replace hS:=hS.aj aG av bB aR;obtain⟨F2,aQ,-,bR,bP,hS⟩:=hS;refine aX hC ?_;refine aM ?_;refine dC ?_
     (with_reducible refine aJ 3 hS sizeOf163 fun _ hS=>?_)
     refine dD ?_;refine aM ?_;refine bE ?_;go_wp2;exact fE 3 hS rfl rfl rfl isAgg163 sizeOf163 rfl rfl (.inr (.inr ⟨_,_,z,y,S2,by rw [fj.out,if_neg gJ.out,if_neg aW.out];rfl,rfl,bR.step hS bP aQ,hz.at hS aQ,hy.at hS aQ⟩))
  ·have fH:decide (t.b.lt s.b)=false:=by simpa using h2
   rw [fH];replace h2:=Hd h2;clear fH;have fj:L=if s.a=s.b then [(s.a).pt] else if (s.b).lt s.a then [] else [(s.a).pt,(s.b).pt]:=by have e:=eL.out;simp only [if_neg h1.out,if_neg h2.out] at e;exact e
   replace fj:=Hd fj;clear eL
   by_cases gJ:s.a=s.b
   ·have HE:∀ w,(Op.equalIn 10000 43 (.agg #[.int .i64 s.a.x,.int .i64 s.a.y]) (.agg #[.int .i64 s.b.x,.int .i64 s.b.y])).run prog w=.ok true w:=fun w=>by rw [pv];simp [gJ]
    replace gJ:=Hd gJ
    go_wp2_with (first|(with_reducible refine eW 2 hS isAgg43 sizeOf43 ?_)|fail|(with_reducible first|refine bA 4 hS isAgg43 sizeOf43 ?_|refine bA 5 hS isAgg43 sizeOf43 ?_))
    refine (o6 _ _ _ S (by unfold bQ;have:=(hs.1).1;unfold fS at this;omega) (by unfold bQ;have:=(hs.1).2;unfold fS at this;omega) (aP.at hS aC)).mono ?_;rintro e w' ⟨z,S1,rfl,hq,hz⟩;replace hS:=hS.aj aC bC bD hq;obtain⟨F1,aG,-,bB,av,hS⟩:=hS;simp only []
    go_wp2_with (with_reducible refine aJ 3 hS sizeOf163 fun _ hS=>?_)
    exact fE 3 hS rfl rfl rfl isAgg163 sizeOf163 rfl rfl (.inr (.inl ⟨_,z,S1,by rw [fj.out,if_pos gJ.out];rfl,rfl,bB.step hS av aG,hz.at hS aG⟩))
   ·have HE:∀ w,(Op.equalIn 10000 43 (.agg #[.int .i64 s.a.x,.int .i64 s.a.y]) (.agg #[.int .i64 s.b.x,.int .i64 s.b.y])).run prog w=.ok false w:=fun w=>by rw [pv];simp [gJ]
    replace gJ:=Hd gJ
    go_wp2_with (first|(with_reducible refine eW 2 hS isAgg43 sizeOf43 ?_)|fail|(with_reducible first|refine bA 4 hS isAgg43 sizeOf43 ?_|refine bA 5 hS isAgg43 sizeOf43 ?_))
    refine (yR s.b s.a _).mono ?_;rintro e w' ⟨rfl,hq⟩;have hS:=hS.below hq.below hq.drawn;simp only [];clear HE
    by_cases aW:(s.b).lt s.a
    ·have jI:decide ((s.b).lt s.a)=true:=by simpa using aW
     rw [jI];replace aW:=Hd aW;clear jI
     go_wp2_with (with_reducible refine aJ 3 hS sizeOf163 fun _ hS=>?_)
     exact fE 3 hS rfl rfl rfl isAgg163 sizeOf163 rfl rfl (.inl ⟨by rw [fj.out,if_neg gJ.out,if_pos aW.out],rfl,hS.pure S⟩)
    ·have jI:decide ((s.b).lt s.a)=false:=by simpa using aW
     rw [jI];replace aW:=Hd aW;clear jI;go_wp2;refine dB [.r 0,.r 2,.e 1,.e 3,.p 4,.m 5] [5] hS fun w1 hS=>?_
     have hC:=hS
     repeat (with_reducible first|refine cz 4 isAgg43 sizeOf43 ?_|refine cz 5 isAgg43 sizeOf43 ?_)
     refine aZ ?_
     go_wp2_with (fail)
     refine (o6 _ _ _ S (by unfold bQ;have:=(hs.1).1;unfold fS at this;omega) (by unfold bQ;have:=(hs.1).2;unfold fS at this;omega) (aP.at hS aC)).mono ?_;rintro e w' ⟨z,S1,rfl,hq,hz⟩;simp only [];go_step;have hC:=hC.below hq.below hq.drawn;replace hS:=hS.aj aC bC bD hq;obtain⟨F1,aG,-,bB,av,hS⟩:=hS;refine aX hC ?_;refine aM ?_;refine aZ ?_
     go_wp2_with (fail)
     refine (o6 _ _ _ S1 (by unfold bQ;have:=(hs.2).1;unfold fS at this;omega) (by unfold bQ;have:=(hs.2).2;unfold fS at this;omega) (aP.at hS aG)).mono ?_;rintro e w' ⟨y,S2,rfl,aR,hy⟩;simp only [];go_step;have hz:=(hz.at hS aG).grow aR;have hC:=hC.below aR.below aR.drawn;replace hS:=hS.aj aG av bB aR;obtain⟨F2,aQ,-,bR,bP,hS⟩:=hS;refine aX hC ?_;refine aM ?_;refine dC ?_
     (with_reducible refine aJ 3 hS sizeOf163 fun _ hS=>?_)
     refine dD ?_;refine aM ?_;refine bE ?_;go_wp2;exact fE 3 hS rfl rfl rfl isAgg163 sizeOf163 rfl rfl (.inr (.inr ⟨_,_,z,y,S2,by rw [fj.out,if_neg gJ.out,if_neg aW.out];rfl,rfl,bR.step hS bP aQ,hz.at hS aQ,hy.at hS aQ⟩))
theorem _root_.Go.Hp.Sz.aJg {s:Sz} (h:s.a.ok∧s.b.ok):s.lQ.a.ok∧s.lQ.b.ok:=by
 unfold Sz.lQ;split
 ·exact⟨h.2,h.1⟩
 ·exact h
theorem aIA {a b:Int} (ha:-1≤a∧a≤1) (hb:-1≤b∧b≤1):-1≤a*b∧a*b≤1:=by
 have h1:a = -1∨a=0∨a=1:=by omega
 rcases h1 with rfl|rfl|rfl <;> omega
theorem aNg (s t:Sz) (w:World) (S:Nat→Prop) (hL:aP w S) (hs:s.a.ok∧s.b.ok) (ht:t.a.ok∧t.b.ok) :
 Calls prog 98 #[.agg #[.int .i64 s.a.x,.int .i64 s.a.y,.int .i64 s.b.x,.int .i64 s.b.y],.agg #[.int .i64 t.a.x,.int .i64 t.a.y,.int .i64 t.b.x,.int .i64 t.b.y]] w (aHw w S (rT s.sg t.sg)):=by
 obtain⟨L,eL⟩:∃ L,L=rT s.sg t.sg:=⟨_,rfl⟩;rw [← eL];rw [aT0] at eL;have sd1:=fun w' S' eM=>a4t t s.a w' S' eM ht.1 ht.2 hs.1
 have sd2:=fun w' S' eM=>a4t t s.b w' S' eM ht.1 ht.2 hs.2
 have sd3:=fun w' S' eM=>a4t s t.a w' S' eM hs.1 hs.2 ht.1
 have sd4:=fun w' S' eM=>a4t s t.b w' S' eM hs.1 hs.2 ht.2
 have ln:=fun w' S' eM=>aUs s.lQ t.lQ w' S' eM (Sz.aJg hs) (Sz.aJg ht)
 have cx:=fun w' S' eM=>aWh s t w' S' eM hs ht
 have bm:=fun w'=>aR2 s.bx t.bx w'
 have a6L:gQ (dQ t.a t.b s.a)*gQ (dQ t.a t.b s.b)≤0→¬ (gQ (dQ t.a t.b s.a)=0∧gQ (dQ t.a t.b s.b)=0)→dQ t.a t.b s.a≠dQ t.a t.b s.b:=by
  intro h1 h2 h3;rw [h3] at h1 h2;have h4:¬ 0<dQ t.a t.b s.b*dQ t.a t.b s.b:=fun h=>by have:=(aHz _ _).2 h;omega
  have h5:dQ t.a t.b s.b≠0:=fun h=>h2 ⟨aAz.2 h,aAz.2 h⟩
  apply h4
  rcases Int.lt_or_gt_of_ne h5 with h|h
  ·exact Int.mul_pos_of_neg_of_neg h h
  ·exact Int.mul_pos h h
 have g1:=aAG (dQ t.a t.b s.a);have g2:=aAG (dQ t.a t.b s.b);have g3:=aAG (dQ s.a s.b t.a);have g4:=aAG (dQ s.a s.b t.b);obtain⟨c1,e1⟩:∃ c1,c1=gQ (dQ t.a t.b s.a):=⟨_,rfl⟩;obtain⟨c2,e2⟩:∃ c2,c2=gQ (dQ t.a t.b s.b):=⟨_,rfl⟩;obtain⟨c3,e3⟩:∃ c3,c3=gQ (dQ s.a s.b t.a):=⟨_,rfl⟩;obtain⟨c4,e4⟩:∃ c4,c4=gQ (dQ s.a s.b t.b):=⟨_,rfl⟩;simp only [← e1,← e2,← e3,← e4] at eL sd1 sd2 sd3 sd4 a6L g1 g2 g3 g4;clear e1 e2 e3 e4;replace eL:=Hd eL;replace a6L:=Hd a6L;obtain⟨hS,aC,bC,bD⟩:=eR hL
 go_enter func98,ntmps98
 go_wp2_with (with_reducible first|refine cI hS fun bx cu hS=>?_|refine bH hS zeroValue163 fun br fu hS=>?_)
 refine dB [.r 0,.r 2,.e 1,.e 3,.e 4,.p 5] [] hS fun w1 hS=>?_
 repeat (with_reducible first|refine cz 1 isAgg94 sizeOf94 ?_|refine cz 2 isAgg94 sizeOf94 ?_)
 refine aZ ?_
 go_wp2_with (fail)
 refine (aEq s _).mono ?_;rintro e w' ⟨rfl,az⟩;simp only [];go_step;have hS:=hS.below az.below az.drawn;refine aX hS ?_;refine aM ?_;refine aZ ?_
 go_wp2_with (fail)
 refine (aEq t _).mono ?_;rintro e w' ⟨rfl,az⟩;simp only [];go_step;have hS:=hS.below az.below az.drawn;refine aX hS ?_;refine aM ?_;refine aZ ?_
 go_wp2_with (fail)
 refine (bm _).mono ?_;rintro e w' ⟨rfl,az⟩;simp only [];go_step;have hS:=hS.below az.below az.drawn;refine aX hS ?_
 by_cases hb:max s.bx.x0 t.bx.x0≤min s.bx.x1 t.bx.x1∧max s.bx.y0 t.bx.y0≤min s.bx.y1 t.bx.y1
 ·have hd:decide (max s.bx.x0 t.bx.x0≤min s.bx.x1 t.bx.x1∧max s.bx.y0 t.bx.y0≤min s.bx.y1 t.bx.y1)=true:=by simpa using hb
  rw [hd];clear hd;replace hb:=Hd hb;refine aM ?_;refine bE ?_;go_wp2;refine dB [.r 0,.p 1,.r 2,.r 4,.p 5,.r 6,.e 3,.e 7,.p 8,.p 9] [] hS fun w1 hS=>?_
  have hC:=hS
  repeat (with_reducible first|refine cz 2 isAgg94 sizeOf94 ?_|refine tf 1 isAgg43 sizeOf43 ?_|refine bU ?_)
  refine aZ ?_
  go_wp2_with (fail)
  refine (sd1 _ S (aP.at hS aC)).mono ?_;rintro e w' ⟨rfl,hq⟩;simp only [];go_step;have hC:=hC.below hq.below hq.drawn;replace hS:=hS.aj aC bC bD hq;obtain⟨F1,aG,-,bB,av,hS⟩:=hS;refine aX hC ?_;refine aM ?_;refine aZ ?_
  go_wp2_with (fail)
  refine (sd2 _ S (aP.at hS aG)).mono ?_;rintro e w' ⟨rfl,hq⟩;simp only [];go_step;have hC:=hC.below hq.below hq.drawn;replace hS:=hS.aj aG av bB hq;obtain⟨F2,aQ,-,bR,bP,hS⟩:=hS;refine aX hC ?_;refine aM ?_;refine bE ?_;clear hC
  by_cases hz:c1=0∧c2=0
  ·obtain⟨rfl,rfl⟩:=hz
   go_wp2;refine dB [.r 0,.r 2,.e 1,.e 3,.e 4,.m 5] [5] hS fun w1 hS=>?_
   have hC:=hS
   repeat (with_reducible first|refine cz 1 isAgg94 sizeOf94 ?_|refine cz 2 isAgg94 sizeOf94 ?_)
   refine aZ ?_
   go_wp2_with (fail)
   refine (aHF s _).mono ?_;rintro e w' ⟨rfl,az⟩;simp only [];go_step;have hS:=hS.below az.below az.drawn;have hC:=hC.below az.below az.drawn;refine aX hC ?_;refine aM ?_;refine aZ ?_
   go_wp2_with (fail)
   refine (aHF t _).mono ?_;rintro e w' ⟨rfl,az⟩;simp only [];go_step;have hS:=hS.below az.below az.drawn;have hC:=hC.below az.below az.drawn;refine aX hC ?_;refine aM ?_;refine aZ ?_
   go_wp2_with (fail)
   refine (ln _ S (aP.at hS aQ)).mono ?_;have fj:=eL.out;rw [if_neg (by simpa using hb.out),if_pos (by simp)] at fj;rintro e w' (⟨hl,rfl,hq⟩|⟨p,z,S1,hl,rfl,hq,hz⟩|⟨p,q,z,y,S1,hl,rfl,hq,hz,hy⟩)
   ·replace fj:=Hd (fj.trans hl)
    clear hl;simp only [];go_step;have hC:=hC.below hq.below hq.drawn;replace hS:=hS.aj aQ bP bR hq;obtain⟨F3,bM,-,dP,dE,hS⟩:=hS;refine aX hC ?_;refine aM ?_;refine dC ?_
    (with_reducible refine aJ 3 hS sizeOf163 fun _ hS=>?_)
    refine dD ?_;refine aM ?_;refine bE ?_;go_wp2;exact fE 3 hS rfl rfl rfl isAgg163 sizeOf163 rfl rfl (.inl ⟨fj.out,rfl,dP.step hS dE bM⟩)
   ·replace fj:=Hd (fj.trans hl)
    clear hl;simp only [];go_step;have hC:=hC.below hq.below hq.drawn;replace hS:=hS.aj aQ bP bR hq;obtain⟨F3,bM,-,dP,dE,hS⟩:=hS;refine aX hC ?_;refine aM ?_;refine dC ?_
    (with_reducible refine aJ 3 hS sizeOf163 fun _ hS=>?_)
    refine dD ?_;refine aM ?_;refine bE ?_;go_wp2;exact fE 3 hS rfl rfl rfl isAgg163 sizeOf163 rfl rfl (.inr (.inl ⟨_,z,S1,fj.out,rfl,dP.step hS dE bM,hz.at hS bM⟩))
   ·replace fj:=Hd (fj.trans hl)
    clear hl;simp only [];go_step;have hC:=hC.below hq.below hq.drawn;replace hS:=hS.aj aQ bP bR hq;obtain⟨F3,bM,-,dP,dE,hS⟩:=hS;refine aX hC ?_;refine aM ?_;refine dC ?_
    (with_reducible refine aJ 3 hS sizeOf163 fun _ hS=>?_)
    refine dD ?_;refine aM ?_;refine bE ?_;go_wp2;exact fE 3 hS rfl rfl rfl isAgg163 sizeOf163 rfl rfl (.inr (.inr ⟨_,_,z,y,S1,fj.out,rfl,dP.step hS dE bM,hz.at hS bM,hy.at hS bM⟩))
  ·have fj:=eL.out
   rw [if_neg (by simpa using hb.out),if_neg hz] at fj;replace fj:=Hd fj;clear eL;have t12:=aIA g1 g2;have t34:=aIA g3 g4;have w12:IntKind.i64.wrap (c1*c2)=c1*c2:=w6;have w34:IntKind.i64.wrap (c3*c4)=c3*c4:=w6;clear t12 t34
   by_cases ef:c1=0
   ·have aYY:(c1 == 0)=true:=by simp [ef]
    have aXo:(c2 == 0)=false:=by simpa using fun h=>hz ⟨ef,h⟩
    replace hz:=Hd hz;clear ef;go_wp2;refine dB [.p 0,.p 1,.p 2,.p 3,.p 4,.r 5,.p 6,.r 7,.r 9,.p 10,.r 11,.e 8,.e 12,.p 13,.p 14,.p 15] [] hS fun w1 hS=>?_
    have hC:=hS
    by_cases lC:0<c1*c2
    ·have eo:decide (0<c1*c2)=true:=by simpa using lC
     replace lC:=Hd lC
     repeat (with_reducible first|refine gm ?_|refine bU ?_)
     refine aZ ?_;refine sf rfl ?_;refine aX hC ?_;refine aM ?_;refine aZ ?_;refine sf rfl ?_;refine aX hC ?_;refine aM ?_;refine bE ?_;clear hC
     go_wp2_with (with_reducible refine aJ 3 hS sizeOf163 fun _ hS=>?_)
     exact fE 3 hS rfl rfl rfl isAgg163 sizeOf163 rfl rfl (.inl ⟨by rw [fj.out,if_pos (.inl lC.out)],rfl,bR.step hS bP aQ⟩)
    ·have eo:decide (0<c1*c2)=false:=by simpa using lC
     replace lC:=Hd lC
     repeat (with_reducible first|refine cz 1 isAgg94 sizeOf94 ?_|refine tf 2 isAgg43 sizeOf43 ?_|refine bU ?_)
     refine aZ ?_
     go_wp2_with (fail)
     refine (sd3 _ S (aP.at hS aQ)).mono ?_;rintro e w' ⟨rfl,hq⟩;simp only [];go_step;have hC:=hC.below hq.below hq.drawn;replace hS:=hS.aj aQ bP bR hq;obtain⟨F3,bM,-,dP,dE,hS⟩:=hS;refine aX hC ?_;refine aM ?_;refine aZ ?_
     go_wp2_with (fail)
     refine (sd4 _ S (aP.at hS bM)).mono ?_;rintro e w' ⟨rfl,hq⟩;simp only [];go_step;have hC:=hC.below hq.below hq.drawn;replace hS:=hS.aj bM dE dP hq;obtain⟨F4,bZ,-,gN,gG,hS⟩:=hS;refine aX hC ?_
     by_cases oy:0<c3*c4
     ·have fH:decide (0<c3*c4)=true:=by simpa using oy
      replace oy:=Hd oy;refine aM ?_;refine bE ?_;clear hC
      go_wp2_with (with_reducible refine aJ 3 hS sizeOf163 fun _ hS=>?_)
      exact fE 3 hS rfl rfl rfl isAgg163 sizeOf163 rfl rfl (.inl ⟨by rw [fj.out,if_pos (.inr oy.out)],rfl,gN.step hS gG bZ⟩)
     ·have fH:decide (0<c3*c4)=false:=by simpa using oy
      replace oy:=Hd oy;refine aM ?_;refine bE ?_;clear hC
      go_wp2_with (with_reducible first|refine bA 1 hS isAgg94 sizeOf94 ?_|refine bA 2 hS isAgg94 sizeOf94 ?_)
      refine (cx _ S (aP.at hS bZ) (a6L.out (by have:=lC.out;omega) hz.out)).mono ?_;rintro e w' ⟨z,S1,rfl,hq,fG⟩;replace hS:=hS.aj bZ gG gN hq;obtain⟨F5,cG,-,gR,ff,hS⟩:=hS;simp only []
      go_wp2_with (with_reducible refine aJ 3 hS sizeOf163 fun _ hS=>?_)
      exact fE 3 hS rfl rfl rfl isAgg163 sizeOf163 rfl rfl (.inr (.inl ⟨_,z,S1,by rw [fj.out,if_neg (by have h1:=lC.out;have h2:=oy.out;omega)],rfl,gR.step hS ff cG,fG.at hS cG⟩))
   ·have aX9:(c1 == 0)=false:=by simpa using ef
    replace hz:=Hd hz;clear ef;go_wp2;refine dB [.p 0,.p 1,.p 2,.p 3,.p 4,.r 5,.p 6,.r 7,.r 9,.p 10,.r 11,.e 8,.e 12,.p 13,.p 14,.p 15] [] hS fun w1 hS=>?_
    have hC:=hS
    by_cases lC:0<c1*c2
    ·have eo:decide (0<c1*c2)=true:=by simpa using lC
     replace lC:=Hd lC
     repeat (with_reducible first|refine gm ?_|refine bU ?_)
     refine aZ ?_;refine sf rfl ?_;refine aX hC ?_;refine aM ?_;refine aZ ?_;refine sf rfl ?_;refine aX hC ?_;refine aM ?_;refine bE ?_;clear hC
     go_wp2_with (with_reducible refine aJ 3 hS sizeOf163 fun _ hS=>?_)
     exact fE 3 hS rfl rfl rfl isAgg163 sizeOf163 rfl rfl (.inl ⟨by rw [fj.out,if_pos (.inl lC.out)],rfl,bR.step hS bP aQ⟩)
    ·have eo:decide (0<c1*c2)=false:=by simpa using lC
     replace lC:=Hd lC
     repeat (with_reducible first|refine cz 1 isAgg94 sizeOf94 ?_|refine tf 2 isAgg43 sizeOf43 ?_|refine bU ?_)
     refine aZ ?_
     go_wp2_with (fail)
     refine (sd3 _ S (aP.at hS aQ)).mono ?_;rintro e w' ⟨rfl,hq⟩;simp only [];go_step;have hC:=hC.below hq.below hq.drawn;replace hS:=hS.aj aQ bP bR hq;obtain⟨F3,bM,-,dP,dE,hS⟩:=hS;refine aX hC ?_;refine aM ?_;refine aZ ?_
     go_wp2_with (fail)
     refine (sd4 _ S (aP.at hS bM)).mono ?_;rintro e w' ⟨rfl,hq⟩;simp only [];go_step;have hC:=hC.below hq.below hq.drawn;replace hS:=hS.aj bM dE dP hq;obtain⟨F4,bZ,-,gN,gG,hS⟩:=hS;refine aX hC ?_
     by_cases oy:0<c3*c4
     ·have fH:decide (0<c3*c4)=true:=by simpa using oy
      replace oy:=Hd oy;refine aM ?_;refine bE ?_;clear hC
      go_wp2_with (with_reducible refine aJ 3 hS sizeOf163 fun _ hS=>?_)
      exact fE 3 hS rfl rfl rfl isAgg163 sizeOf163 rfl rfl (.inl ⟨by rw [fj.out,if_pos (.inr oy.out)],rfl,gN.step hS gG bZ⟩)
     ·have fH:decide (0<c3*c4)=false:=by simpa using oy
      replace oy:=Hd oy;refine aM ?_;refine bE ?_;clear hC
      go_wp2_with (with_reducible first|refine bA 1 hS isAgg94 sizeOf94 ?_|refine bA 2 hS isAgg94 sizeOf94 ?_)
      refine (cx _ S (aP.at hS bZ) (a6L.out (by have:=lC.out;omega) hz.out)).mono ?_;rintro e w' ⟨z,S1,rfl,hq,fG⟩;replace hS:=hS.aj bZ gG gN hq;obtain⟨F5,cG,-,gR,ff,hS⟩:=hS;simp only []
      go_wp2_with (with_reducible refine aJ 3 hS sizeOf163 fun _ hS=>?_)
      exact fE 3 hS rfl rfl rfl isAgg163 sizeOf163 rfl rfl (.inr (.inl ⟨_,z,S1,by rw [fj.out,if_neg (by have h1:=lC.out;have h2:=oy.out;omega)],rfl,gR.step hS ff cG,fG.at hS cG⟩))
 ·have hd:decide (max s.bx.x0 t.bx.x0≤min s.bx.x1 t.bx.x1∧max s.bx.y0 t.bx.y0≤min s.bx.y1 t.bx.y1)=false:=by simpa using hb
  rw [hd];clear hd;replace hb:=Hd hb;refine aM ?_;refine bE ?_
  go_wp2_with (with_reducible refine aJ 3 hS sizeOf163 fun _ hS=>?_)
  exact fE 3 hS rfl rfl rfl isAgg163 sizeOf163 rfl rfl (.inl ⟨by rw [eL.out,if_pos (by simpa using hb.out)],rfl,hS.pure S⟩)
section
variable {P:Program} {ops:Array Oper} {Q:Exit→Act→World→Prop} {rest:List Oper} {a:Act} {w w0:World} {H:List Chunk} {K:Act→Prop} {C:World→Prop} {s:List Mv} {i:Nat}
variable {dst:Option Tmp} {ty T E Tb:TypeId} {pos:String} {ak:Array Edge} {gd:Option (Nat × Bool)} {x y ix:Operand} {g n c:Nat}
theorem aA.dn {v:Value} {k:Nat} {cs:List Value} (hS:aA w0 w H) (j:Nat) (hj:H[j]? = some (.row v Tb k n cs)):bN w (Chunk.row v Tb k n cs).has k v n cs:=bN.ofRow (hS.ok _ (bW hj))
theorem aA.aGI {ad:Option Addr} {k:Nat} {cs:List Value} (hS:aA w0 w H) (j:Nat) (hj:H[j]? = some (.row (.slice ad n c) Tb k n cs)):n≤c:=by
 obtain⟨_,a,cap,e,h,_⟩:=hS.dn j hj;simp only [Value.slice.injEq] at e;omega
theorem aA.uj {arr:Array Value} {k m:Nat} (hS:aA w0 w H) (j:Nat) (hj:H[j]? = some (.aB g (.cells arr Tb (0,0)))) (hl:arr.size=m*k) (hm:m≤maxLen):aA w0 w (H.set j (.row (.slice (some ⟨g,0,none⟩) m m) Tb k m arr.toList)):=by
 have bG:w.heap[g]? = some (.cells arr Tb (0,0)):=hS.ok _ (bW hj);refine hS.sQ j hj rfl rfl rfl (Nat.le_refl _) (Nat.le_refl _) ⟨by simpa using hl,.inr ⟨g,m,arr,rfl,Nat.zero_le _,bG,Nat.le_refl _,hm,hl,?_⟩⟩ (fun k hk=>.inl (by simp only [Chunk.has,Value.ownBlock] at hk ⊢;simpa using hk.symm)) (fun _ _ _=>rfl);rw [← hl,← Array.length_toList,List.take_length]
theorem yZ {off k:Nat} (hu:P.underlying T=some (.slice E)) (hz:∀ w,(sizeOf E).run P w=.ok k w) {i:Int} (hx:a.eval x=.slice (some ⟨g,off,none⟩) n c) (hi:a.eval ix=.int .i64 i) (dg:0≤i) (jU:i<n)
 (hk:K (a.put dst (.pointer (some ⟨g,off+i.toNat*k,none⟩)))):oN P ⟨dst,.indexAddr T x ix,ty,pos,ak,gd⟩ a K:=by
 have xH:(⟨g,off,none⟩:Addr).add (i.toNat*k)=⟨g,off+i.toNat*k,none⟩:=by unfold Addr.add;split <;> simp_all
 refine⟨⟨.pointer (some ⟨g,off+i.toNat*k,none⟩),fun w'=>?_,hk⟩⟩;generalize a.eval=ρ at hx hi;simp [execOp,hx,hi,Instr.indexAt,asIntOf,go_sem,run_underlying hu,dg,jU,hz,xH]
theorem aMo {k:Nat} {z:Value} {els:Array (Nat × Operand)} {L:List (Nat × Value)} {arr:Array Value} (hS:aA w0 w H) (hu:P.underlying T=some (.slice E)) (dJ:∀ w,(sizeOf E).run P w=.ok k w) (hz:∀ w,(zeroValue E).run P w=.ok z w)
 (h0:0<n*k) (hl:n*k≤16777216) (hf:Instr.fill (fun i=>some (i*k,k)) ((Array.range (n*k)).map (z.cells[· % z.cells.size]!)) L=some arr) (hx:els.toList.map (fun y=>(y.1,a.eval y.2))=L) (hg:Region.wanted ⟨dst,.buildSlice T n els,ty,pos,ak,gd⟩ (yielded ops a.tmps)=true)
 (hk:∀ b w',aA w0 w' (H++[.aB b (.cells arr E (0,0))])→wpList P ops Q rest (a.put dst (.slice (some ⟨b,0,none⟩) n n)) w'):wpList P ops Q (⟨dst,.buildSlice T n els,ty,pos,ak,gd⟩::rest) a w:=by
 refine lx (w':=w.alloc (.cells arr E (0,0))) (v:=.slice (some ⟨w.heap.size,0,none⟩) n n) hg ?_ (hk _ _ (hS.alloc _));generalize a.eval=ρ at hx;have h1:¬ (16777216<n*k):=by omega
 have h2:¬ (n*k=0):=by omega
 simp only [execOp,Instr.buildSlice,Sem.run_bind,run_underlying hu,dJ,Result.andThen_ok,gt_iff_lt,Nat.reducePow,h1,if_false,h2,hz,Sem.run_pure,Array.toList_map,hx,hf]
 rfl
end
theorem bN.cut {w:World} {S:Nat→Prop} {k n j c:Nat} {g:Nat} {cs:List Value} (h:bN w S k (.slice (some ⟨g,0,none⟩) n c) n cs) (hj:j≤n):bN w S k (.slice (some ⟨g,0,none⟩) j c) j (cs.take (j*k)):=by
 obtain⟨h1,a,cap,h2,h3,h4,h5,h6⟩:=h;simp only [Value.slice.injEq] at h2;obtain⟨rfl,-,rfl⟩:=h2;have hm:j*k≤n*k:=Nat.mul_le_mul_right k hj;refine⟨by rw [List.length_take];omega,_,c,rfl,by omega,h4,(fun e=>by cases e),fun ad e=>?_⟩;have hc:=h6 ad e;refine⟨fun bJ=>hc.spot (fun e2=>bJ (by rw [e2];simp)),fun bJ=>hc.tO (fun e2=>bJ (by rw [e2];simp)),fun i u hu=>hc.cell i u ?_⟩;rw [List.getElem?_take] at hu
 split at hu
 ·exact hu
 ·cases hu
section
variable {P:Program} {ops:Array Oper} {Q:Exit→Act→World→Prop} {rest:List Oper} {a:Act} {w w0:World} {H:List Chunk} {K:Act→Prop}
variable {dst:Option Tmp} {ty T E Tb sT:TypeId} {pos:String} {ak:Array Edge} {gd:Option (Nat × Bool)} {x y ix:Operand} {g n c k:Nat}
theorem aA.aCF {ad:Option Addr} {cs:List Value} (hS:aA w0 w H) (j:Nat) (hj:H[j]? = some (.row (.slice ad n c) Tb k n cs)) (hn:0<n) :
 ∃ g cur,ad=some ⟨g,0,none⟩∧n≤c∧c≤maxLen∧cur.size=c*k∧cs.length=n*k∧cur.toList.take (n*k)=cs∧aA w0 w (H.set j (.aB g (.cells cur Tb (0,0)))):=by
 obtain⟨hl,ho⟩:=hS.ok _ (bW hj)
 rcases ho with ⟨h1,h2⟩|⟨g,cap,cur,h1,fk,hg,mm,fg,hcs,eK⟩
 ·omega
 ·simp only [Value.slice.injEq] at h1
  obtain⟨rfl,-,rfl⟩:=h1;refine⟨g,cur,rfl,mm,fg,hcs,hl,eK,?_⟩;exact hS.sQ j hj rfl rfl rfl (Nat.le_refl _) (Nat.le_refl _) hg (fun k hk=>.inl (by simp only [Chunk.has,Value.ownBlock] at hk ⊢;rw [hk])) (fun _ _ _=>rfl)
theorem aA.a4d {arr:Array Value} (hS:aA w0 w H) (j:Nat) (hj:H[j]? = some (.aB g (.cells arr Tb (0,0)))) (hl:arr.size=c*k) (hn:n≤c) (hm:c≤maxLen):aA w0 w (H.set j (.row (.slice (some ⟨g,0,none⟩) n c) Tb k n (arr.toList.take (n*k)))):=by
 have bG:w.heap[g]? = some (.cells arr Tb (0,0)):=hS.ok _ (bW hj);have h1:n*k≤c*k:=Nat.mul_le_mul_right k hn;exact hS.sQ j hj rfl rfl rfl (Nat.le_refl _) (Nat.le_refl _) ⟨by simp;omega,.inr ⟨g,c,arr,rfl,Nat.zero_le _,bG,hn,hm,hl,rfl⟩⟩ (fun k hk=>.inl (by simp only [Chunk.has,Value.ownBlock] at hk ⊢;simpa using hk.symm)) (fun _ _ _=>rfl)
theorem aUD {w:World} {elem:TypeId} {cur:Array Value} {t:TypeId} {o a5V dCap a4y sCap m:Nat} {ad:Addr} {cs:List Value} (hu:P.underlying T=some (.slice elem)) (hs:(P.info? elem).map (·.size)=some k) (hm:m=Nat.min a4y a5V) (hl:cs.length=m*k)
 (aDi:∀ i v,cs[i]? = some v→w.cell? (ad.add i)=some v) (hg:w.heap[g]? = some (.cells cur t (0,0))) (iV:o+cs.length≤cur.size) (h1:∀ v ∈ cs,v.oneCell'=true) :
 (Builtin.copy_ #[T,sT] ty #[.slice (some ⟨g,o,none⟩) a5V dCap,.slice (some ad) a4y sCap]).run P w=.ok (goInt m) (w.setRow g (cur.toList.take o++cs++cur.toList.drop (o+cs.length)).toArray):=by
 have hld:=run_loadCells_list (P:=P) w ad cs aDi;have cA:=run_storeCells_at (P:=P) g o t cs 0 cur w hg (by simpa using iV) h1;simp only [Nat.add_zero] at cA;cases hq:P.info? elem with
 | none=>simp [hq] at hs
 | some i =>
  have hi:i.size=k:=by simpa [hq] using hs
  rw [hl] at hld;simp [Builtin.copy_,run_underlying hu,Builtin.lenOf,Builtin.firstCells,sizeOf,typeInfo,hq,hi,← hm,hld,cA,Sem.run_bind]
theorem a61 {args:Array Operand} {ts:Array TypeId} (h:wpList P ops Q (⟨dst,.call ⟨.builtin .copy,args,ts⟩,ty,pos,ak,gd⟩::rest) a w):wpList P ops Q (⟨dst,.call ⟨.builtin .copy,args,ts⟩,ty,pos,ak,gd⟩::rest) a w:=h
theorem a68 {elem:TypeId} {cur:Array Value} {o a5V dCap a4y sCap m:Nat} {ad:Addr} {cs:List Value} (j:Nat) (hS:aA w0 w H) (hu:P.underlying T=some (.slice elem)) (hs:(P.info? elem).map (·.size)=some k) (hx:a.eval x=.slice (some ⟨g,o,none⟩) a5V dCap) (hy:a.eval y=.slice (some ad) a4y sCap)
 (hj:H[j]? = some (.aB g (.cells cur Tb (0,0)))) (hm:m=Nat.min a4y a5V) (hl:cs.length=m*k) (aDi:∀ i v,cs[i]? = some v→w.cell? (ad.add i)=some v) (iV:o+cs.length≤cur.size) (h1:∀ v ∈ cs,v.oneCell'=true)
 (hk:∀ w',aA w0 w' (H.set j (.aB g (.cells (cur.toList.take o++cs++cur.toList.drop (o+cs.length)).toArray Tb (0,0))))→wpList P ops Q rest (a.put dst (.int .i64 m)) w'):wpList P ops Q (⟨dst,.call ⟨.builtin .copy,#[x,y],#[T,sT]⟩,ty,pos,ak,none⟩::rest) a w:=by
 have hg:=hS.aB (bW hj);have hr:=aUD (P:=P) (sT:=sT) (ty:=ty) (dCap:=dCap) (sCap:=sCap) hu hs hm hl aDi hg iV h1;have aW:g<w.heap.size:=(Array.getElem?_eq_some_iff.1 hg).1;refine lx (w':=w.setRow g (cur.toList.take o++cs++cur.toList.drop (o+cs.length)).toArray) (v:=.int .i64 (m:Nat)) rfl ?_ (hk _ (hS.write (o':=.cells (cur.toList.take o++cs++cur.toList.drop (o+cs.length)).toArray Tb (0,0)) j hj rfl rfl rfl (Nat.le_refl _) (by simp [World.setRow]) (setRow_heap w g cur _ _ _ hg) (fun k _ hkb=>by simp [World.setRow,Array.getElem?_modify,Ne.symm hkb])));generalize a.eval=ρ at hx hy;simp [execOp,resolve,invoke,builtin,hx,hy,hr,go_sem,goInt]
theorem a6Z {arr:Array Value} {o:Nat} {cs:List Value} (hS:aA w0 w H) (hm:Chunk.aB g (.cells arr Tb (0,0)) ∈ H) (h:cs=(arr.toList.drop o).take cs.length):∀ i v,cs[i]? = some v→w.cell? ((⟨g,o,none⟩:Addr).add i)=some v:=by
 intro i v hv;rw [xQ,cell_of_row w g (o+i) arr Tb (0,0) (hS.aB hm)];rw [h,List.getElem?_take] at hv
 split at hv
 ·rw [List.getElem?_drop] at hv
  simpa using hv
 ·cases hv
theorem aPr {i m:Nat} {mv:Int} {z:Value} {bytes:Nat} {cur:Array Value} {tn:TypeId} {kn:IntKind} (j:Nat) (hS:aA w0 w H) (hu:P.underlying T=some (.slice E)) (htn:P.underlying tn=some (.int kn)) (ky:(P.info? E).map (fun i=>(i.zero,i.size,i.bytes))=some (some z,k,bytes)) (kE:0<k) (hzk:z.cells.size=k)
 (hx:a.eval x=.slice (some ⟨g,0,none⟩) i c) (hy:a.eval y=.int .i64 mv) (fi:mv=(m:Int)) (wA:0<m) (xK:c<i+m) (hj:H[j]? = some (.aB g (.cells cur Tb (0,0)))) (a9q:i*k≤cur.size) (sk:(i+m)*bytes≤140737488355328) (uP:i+m≤9223372036854775807)
 (hk:∀ b G arr w',aA w0 w' (H++[.aB b (.cells arr E (0,0))])→arr.size=G*k→i+m≤G→G≤maxLen→arr.toList.take (i*k)=cur.toList.take (i*k)→wpList P ops Q rest (a.put dst (.slice (some ⟨b,0,none⟩) (i+m) G)) w') :
 wpList P ops Q (⟨dst,.call ⟨.builtin .append,#[x,y],#[T,tn]⟩,ty,pos,ak,none⟩::rest) a w:=by
 subst fi;obtain⟨inf,hi,hz,dJ,jm⟩:=info_parts ky;have hg:=hS.aB (bW hj)
 have hold:(Builtin.firstCells inf.size i (.slice (some ⟨g,0,none⟩) i c)).run P w.drew=.ok (cur.toList.take (i*k)).toArray w.drew:=by
  rw [dJ]
  exact run_firstCells_some w.drew k i ⟨g,0,none⟩ i c (cur.toList.take (i*k)) (by rw [List.length_take];simp;omega) (fun q v hq=>by
   rw [xQ,Nat.zero_add];rw [List.getElem?_take] at hq
   split at hq
   ·rw [cell_of_row w.drew g q cur Tb (0,0) hg];simpa using hq
   ·cases hq)
 have hr:=Lib.run_append_grow_zeros (P:=P) w T tn ty E inf z .i64 kn hu htn hi hz (some ⟨g,0,none⟩) i c (cur.toList.take (i*k)) hold m wA (by omega) xK (by omega) (by rw [jm];have:m*bytes≤(i+m)*bytes:=Nat.mul_le_mul_right _ (by omega);omega) (by rw [jm];exact growslice_fits xK sk);have hG1:i+m≤grownCap w (i+m) c E:=grownCap_ge w _ _ _;have pW:grownCap w (i+m) c E≤maxLen:=grownCap_le_maxLen w (i+m) c E (by unfold maxLen;omega);refine Lib.wpList_append_run w rfl x y T tn rfl _ _ hx hy _ _ hr (hk w.heap.size (grownCap w (i+m) c E) _ _ (hS.drew.alloc _) ?_ hG1 pW ?_)
 ·simp only [Builtin.zeroCells,hzk,Array.size_append,List.size_toArray,List.length_take,Array.length_toList,Array.size_map,Array.size_range,Nat.min_eq_left a9q]
  rw [← Nat.add_mul,← Nat.add_mul]
  congr 1;omega
 ·simp only [Array.toList_append,List.append_assoc]
  rw [List.take_append_of_le_length (by simp;omega),List.take_of_length_le (by simp;omega)]
theorem zY {lo:Operand} {off j b:Nat} {jv:Int} (hu:P.underlying T=some (.slice E)) (hz:∀ w,(sizeOf E).run P w=.ok k w) (hx:a.eval x=.slice (some ⟨b,off,none⟩) n c) (hl:a.eval lo=.int .i64 jv) (vh:jv=(j:Int)) (hjn:j≤n) (hjc:j<c)
 (hk:K (a.put dst (.slice (some ⟨b,off+j*k,none⟩) (n - j) (c - j)))):oN P ⟨dst,.slice T x (some lo) none none,ty,pos,ak,gd⟩ a K:=by
 subst vh;refine⟨⟨_,fun w'=>?_,hk⟩⟩;generalize a.eval=ρ at hx hl
 have iD:(Instr.sliceBound (.int .i64 (j:Int)) n .sliceB).run P w'=.ok j w':=by
  simp [Instr.sliceBound,asIntOf,go_sem,hjn]
 have xH:(⟨b,off,none⟩:Addr).add (j*k)=⟨b,off+j*k,none⟩:=by unfold Addr.add;split <;> simp_all
 simp [execOp,hx,hl,Instr.sliceAt,Instr.slice,Instr.sliceBounds,go_sem,run_underlying hu,iD,hz,show ¬ c=j by omega,xH]
end
section
variable {P:Program} {ops:Array Oper} {Q:Exit→Act→World→Prop} {rest:List Oper} {a:Act} {w w0 wr:World} {H:List Chunk} {S:Nat→Prop} {dst:Option Tmp} {x y ix:Operand} {ty T E Tb:TypeId} {pos:String} {ak:Array Edge} {gd:Option (Nat × Bool)} {K:Act→Prop} {n c g:Nat}
theorem yy {cs:List Value} {k q:Nat} {u:Value} (j:Nat) (fU:∀ w,(isAgg T).run P w=.ok false w) (hx:a.eval x=.pointer (some ⟨g,q,none⟩)) (hj:H[j]? = some (.row (.slice (some ⟨g,0,none⟩) n c) Tb k n cs)) (h0:cs[q]? = some u)
 (hk:K (a.put dst u)):nj P w0 H ⟨dst,.load T x,ty,pos,ak,gd⟩ a K:=by
 refine⟨⟨_,fun w' hS=>?_,hk⟩⟩;have hr:=hS.dn j hj;obtain⟨hl,ad,cap,e,_,_,_,hc⟩:=hr;simp only [Value.slice.injEq] at e;have hc:=(hc ⟨g,0,none⟩ e.1.symm).cell q u h0
 have h1:w'.cell? ⟨g,q,none⟩=some u:=by
  have e2:(⟨g,0,none⟩:Addr).add q=⟨g,q,none⟩:=by rw [xQ,Nat.zero_add]
  first|(rw [Nat.zero_add] at hc;exact hc)
 generalize a.eval=ρ at hx;simp [execOp,hx,Instr.loadAt,Instr.sureAddr,loadVar,fU,go_sem,h1]
theorem a0g {cs:List Value} {k kk q:Nat} (j:Nat) (eT:∀ w,(isAgg T).run P w=.ok true w) (hz:∀ w,(sizeOf T).run P w=.ok kk w) (hx:a.eval x=.pointer (some ⟨g,q,none⟩)) (hj:H[j]? = some (.row (.slice (some ⟨g,0,none⟩) n c) Tb k n cs)) {us:List Value} (h0:(cs.drop q).take kk=us) (hlen:us.length=kk)
 (hk:K (a.put dst (.agg us.toArray))):nj P w0 H ⟨dst,.load T x,ty,pos,ak,gd⟩ a K:=by
 subst h0;refine⟨⟨_,fun w' hS=>?_,hk⟩⟩;have hr:=hS.dn j hj;obtain⟨hl,ad,cap,e,_,_,_,hc⟩:=hr;simp only [Value.slice.injEq] at e;have hc:=hc ⟨g,0,none⟩ e.1.symm
 have h1:=run_loadCells_list (P:=P) w' ⟨g,q,none⟩ ((cs.drop q).take kk) (fun j u hu=>by
  rw [xQ];rw [List.getElem?_take] at hu
  split at hu
  ·rw [List.getElem?_drop] at hu
   have:=hc.cell _ _ hu
   rwa [Nat.zero_add] at this
  ·cases hu)
 rw [hlen] at h1;generalize a.eval=ρ at hx;simp only [execOp,hx,Instr.loadAt,Instr.sureAddr,Sem.run_bind,Sem.run_pure,Result.andThen_ok,a9K eT hz h1]
theorem a6k {cs:List Value} {k i:Nat} {v:Value} (j:Nat) (hS:aA w0 w H) (hx:a.eval x=.pointer (some ⟨g,i,none⟩)) (hy:a.eval y=v) (hj:H[j]? = some (.row (.slice (some ⟨g,0,none⟩) n c) Tb k n cs)) (hi:i<cs.length)
 (hT:∀ w,(sizeOf T).run P w=.ok 1 w) (kU:v.cells=#[v]) (hv:v.oneCell'=true)
 (hk:∀ w',aA w0 w' (H.set j (.row (.slice (some ⟨g,0,none⟩) n c) Tb k n (cs.set i v)))→wpList P ops Q rest (a.put dst undef) w') :
 wpList P ops Q (⟨dst,.store T x y,ty,pos,ak,none⟩::rest) a w:=by
 obtain⟨hl,ho⟩:=hS.ok _ (bW hj)
 rcases ho with ⟨h1,h2⟩|⟨g',cap,cur,h1,fk,hg,mm,fg,hcs,eK⟩
 ·subst h2;rw [hl] at hi;omega
 ·simp only [Value.slice.injEq,Option.some.injEq,Addr.mk.injEq] at h1
  obtain⟨⟨rfl,-⟩,-,rfl⟩:=h1
  have aW:i<cur.size:=by
   have:n*k≤c*k:=Nat.mul_le_mul_right k mm;omega
  have hr:=a7S (P:=P) (T:=T) (u:=v) (off:=i) (by rw [kU];exact hT) hg (by rw [kU];simp [hv]) (by rw [kU];simp;omega);refine a3j (w':=w.setRow g (cur.toList.take i++v.cells.toList++cur.toList.drop (i+v.cells.size)).toArray) rfl ?_ (hk _ ?_)
  ·generalize a.eval=ρ at hx hy
   simp only [execOp,hx,hy,Instr.storeAt,Instr.sureAddr,Sem.run_bind,Sem.run_pure,Result.andThen_ok,hr]
  ·have iF:(cur.toList.take i++v.cells.toList++cur.toList.drop (i+v.cells.size))=cur.toList.set i v:=by
    rw [List.set_eq_take_append_cons_drop,if_pos (by rw [Array.length_toList];omega),kU];simp
   rw [iF];refine hS.sQ j hj rfl rfl rfl (Nat.le_refl _) (by simp [World.setRow]) ?_ (fun k hk=>.inl hk) (fun k _ bJ=>setRow_other w g k _ (fun e=>bJ (by simp [Chunk.has,Value.ownBlock,e])));refine⟨by rw [List.length_set];exact hl,.inr ⟨g,c,_,rfl,fk,setRow_heap w g cur _ Tb (0,0) hg,mm,fg,by simp [hcs],?_⟩⟩;rw [List.take_set,eK]
end
section
variable {P:Program} {ops:Array Oper} {Q:Exit→Act→World→Prop} {rest:List Oper} {a:Act} {w w0:World} {H:List Chunk} {dst:Option Tmp} {x y:Operand} {ty T E:TypeId} {pos:String} {ak:Array Edge}
theorem a9J {n:Nat} {xv:Int} (hS:aA w0 w H) (hu:P.underlying T=some (.slice E)) (ky:(P.info? E).map (fun i=>(i.zero,i.size,i.bytes))=some (some (.int .i64 0),1,8))
 (hx:a.eval x=.int .i64 xv) (hy:a.eval y=.int .i64 xv) (fL:xv=(n:Int)) (hn:n≤65536)
 (hk:∀ b w',aA w0 w' (H++[.row (.slice (some ⟨b,0,none⟩) n n) E 1 n (iv (List.replicate n 0))])→wpList P ops Q rest (a.put dst (.slice (some ⟨b,0,none⟩) n n)) w') :
 wpList P ops Q (⟨dst,.makeSlice T x y,ty,pos,ak,none⟩::rest) a w:=by
 subst fL;obtain⟨i,hi,hz,dJ,jm⟩:=info_parts ky;have hr:=run_make (P:=P) w T E i _ hu hi hz .i64 .i64 n n (by omega) (by omega) (by rw [jm];omega) (by omega)
 have hc:madeCells (Value.int .i64 0).cells ((n:Int).toNat*i.size)=(iv (List.replicate n 0)).toArray:=by
  rw [dJ,Int.toNat_natCast,Nat.mul_one];apply Array.ext
  ·simp [madeCells,iv]
  ·intro j h1 h2
   simp [madeCells,iv,Value.cells,Nat.mod_one]
 rw [hc,Int.toNat_natCast] at hr;have hA:=hS.alloc (.cells (iv (List.replicate n 0)).toArray E (0,0));have hR:=hA.uj (k:=1) (m:=n) (g:=w.heap.size) (arr:=(iv (List.replicate n 0)).toArray) (Tb:=E) H.length (by simp) (by simp [iv]) (by unfold maxLen;omega)
 have o9:aA w0 (w.alloc (.cells (iv (List.replicate n 0)).toArray E (0,0))) (H++[.row (.slice (some ⟨w.heap.size,0,none⟩) n n) E 1 n (iv (List.replicate n 0))]):=by
  simpa using hR
 refine lx (w':=w.alloc (.cells (iv (List.replicate n 0)).toArray E (0,0))) (v:=.slice (some ⟨w.heap.size,0,none⟩) n n) rfl ?_ (hk _ _ o9);simp only [execOp,hx,hy];simp [hr,go_sem]
end
section
variable {P:Program} {Q:Exit→Act→World→Prop}
theorem qR {id:Nat} {a:Act} {w:World} {l:List Oper} (s:List Mv) (M:List Nat) (C D:World→Prop) (hm:P.follows .mixedOrders=true)
 (bG:(Region.noSelect l.toArray && (s.length == l.length) && p9 .any l.toArray M s (Array.replicate l.length false))=true) (hD:D w.drew) (hDC:∀ w',D w'→C w')
 (h:∀ w',D w'→dN P l.toArray (di Q) C s a w'):(Code.region id l.toArray true).wp P Q a w :=
 a6q s M C hm bG (hDC _ hD) (h _ hD)
end
theorem a0A:(prog.info? 3).map (fun i=>(i.zero,i.size,i.bytes))=some (some (.int .i64 0),1,8):=by kernel_rfl
def aQl (w:World) (S:Nat→Prop) (g n c bo br:Nat) (L:List Nat) (v:Nat) (e:Ending) (w':World):Prop :=
 ∃ L':List Nat,e=.returned (.int .i64 (rep L v:Int))∧aA w w' [.aH S w,.aB bo (.cells #[.slice (some ⟨g,0,none⟩) n c] 22 (0,0)),.aB br (.cells #[.func (.func 25) #[] #[.pointer (some ⟨bo,0,none⟩),.pointer (some ⟨br,0,none⟩)]] 80 (0,0)),.row (.slice (some ⟨g,0,none⟩) n c) 3 1 n (iv (zs L'))] ∧
  mZ L'∧L'.length=L.length∧(∀ u,u<L.length→rep L' u=rep L u)∧(∀ u,u<L.length→nth 0 L' u=nth 0 L u∨nth 0 L' u=rep L u)∧nth 0 L' v=rep L v
theorem aB8 (g n c bo br:Nat):∀ (v:Nat) (L:List Nat) (w:World) (S:Nat→Prop),mZ L→L.length=n→v<n →
 aA w w [.aH S w,.aB bo (.cells #[.slice (some ⟨g,0,none⟩) n c] 22 (0,0)),.aB br (.cells #[.func (.func 25) #[] #[.pointer (some ⟨bo,0,none⟩),.pointer (some ⟨br,0,none⟩)]] 80 (0,0)),.row (.slice (some ⟨g,0,none⟩) n c) 3 1 n (iv (zs L))] →
 Calls prog 25 #[.int .i64 (v:Int),.pointer (some ⟨bo,0,none⟩),.pointer (some ⟨br,0,none⟩)] w (aQl w S g n c bo br L v):=by
 intro v
 induction v using Nat.strongRecOn with
 | _ v ih =>
  intro L w S hF lO hv hS;have hle:=hF.le v (by omega);have hnz:=xj L v
  by_cases he:nth 0 L v=v
  ·have rh:=Hd (th hF (by omega) he)
   rw [he] at hnz;have q1:((v:Int) != (v:Int))=false:=by simp
   clear ih hle;replace he:=Hd he;replace hF:=Hd hF
   go_enter func25,ntmps25
   go_wp2_with (with_reducible first|refine aU 1 hS isAgg22 ?_|refine kW underlying22 sizeOf3 ?_|refine uC 3 hS isAgg3 ?_)
   go_ret;refine⟨L,?_,hS,hF.out,rfl,fun u _=>rfl,fun u _=>.inl rfl,by rw [he.out,rh.out]⟩;rw [rh.out];show Ending.returned (.int .i64 (nth 0 (zs L) v))=_;rw [hnz]
  ·obtain⟨p,hp⟩:∃ p,nth 0 L v=p:=⟨_,rfl⟩
   have rh:=yw hF (show v<L.length by omega);rw [hp] at hnz hle he rh;have q1:((p:Int) != (v:Int))=true:=by simp;omega
   have ihp:=fun w S h=>ih p (by omega) L w S hF lO (by omega) h
   replace rh:=Hd rh;replace hp:=Hd hp;replace hF:=Hd hF;clear ih
   go_enter func25,ntmps25
   go_wp2_with (with_reducible first|refine aU 1 hS isAgg22 ?_|refine kW underlying22 sizeOf3 ?_|refine uC 3 hS isAgg3 ?_)
   refine qR [.r 0,.p 1,.r 2,.r 3,.p 4,.p 5,.e 6,.e 7,.p 8,.m 9] [9] (fun w'=>aA w w' [.aH S w,.aB bo (.cells #[.slice (some ⟨g,0,none⟩) n c] 22 (0,0)),.aB br (.cells #[.func (.func 25) #[] #[.pointer (some ⟨bo,0,none⟩),.pointer (some ⟨br,0,none⟩)]] 80 (0,0))]) (fun w'=>aA w w' _) (by kernel_rfl) (by kernel_rfl) hS.drew (fun _ hZ=>aA.sub hZ (by repeat (first|exact List.Sublist.refl _|apply List.Sublist.cons_cons|apply List.Sublist.cons))) (fun w1 hS=>?_)
   repeat (with_reducible first|refine cZ 1 isAgg22 ?_|refine cZ 2 isAgg80 ?_|refine a2J underlying22 sizeOf3 ?_|refine bU ?_)
   refine aZ ?_
   (with_reducible refine uC 3 hS isAgg3 ?_)
   refine aX hS.sb ?_;refine aM ?_;refine aZ ?_;simp only [hnz]
   go_wp2_with (fail)
   refine (ihp _ _ (aA.split (A:=[.aH S w]) hS)).mono ?_;rintro e w' ⟨L1,rfl,cU,aG,kN,il,eX,kU⟩;simp only [];go_step;have hS:=aA.su (A:=[.aH S w]) hS cU;simp only [aK] at hS;replace aG:=Hd aG;replace il:=Hd il;replace eX:=Hd eX;replace kU:=Hd kU;replace kN:=Hd kN;clear cU;refine aX hS.sb ?_
   repeat (with_reducible refine a2J underlying22 sizeOf3 ?_)
   refine dC ?_
   (with_reducible refine xS 3 hS sizeOf3 fun _ hS=>?_)
   refine dD ?_;refine bE ?_
   go_wp2_with (with_reducible first|refine aU 1 hS isAgg22 ?_|refine kW underlying22 sizeOf3 ?_|refine uC 3 hS isAgg3 ?_)
   go_ret;have lP:v<L.length:=by omega
   have aAW:v<L1.length:=by rw [kN.out];exact lP
   obtain⟨aQ,cT⟩:=aRQ aG.out aAW;have e1:rep L1 v=rep L v:=il.out v lP;rw [e1] at aQ cT;have e2:(zs L1).set v ((rep L p:Nat):Int)=zs (L1.set v (rep L v)):=by rw [rh.out];simp [zs]
   have e3:nth 0 (L1.set v (rep L v)) v=rep L v:=by rw [wO _ _ _ _ _ aAW,if_pos rfl]
   refine⟨L1.set v (rep L v),?_,by rw [← e2];exact hS,aQ,by rw [List.length_set,kN.out],fun u hu=>?_,fun u hu=>?_,e3⟩
   ·show Ending.returned (.int .i64 (nth 0 ((zs L1).set v ((rep L p:Nat):Int)) v))=_
    rw [e2,xj,e3]
   ·rw [cT u (by rw [kN.out];exact hu),il.out u hu]
   ·rw [wO _ _ _ _ _ aAW]
    split
    ·rename_i e;subst e;exact .inr rfl
    ·exact eX.out u hu
def pc (p:PR):List Value:=[.bool p.x.num.neg,.slice p.x.num.ad p.x.num.n p.x.num.cap,.bool p.x.less.neg,.slice p.x.less.ad p.x.less.n p.x.less.cap,.bool p.y.num.neg,.slice p.y.num.ad p.y.num.n p.y.num.cap,.bool p.y.less.neg,.slice p.y.less.ad p.y.less.n p.y.less.cap]
theorem gF (p:PR):(pc p).length=8:=rfl
def au:Pt:=⟨0,0⟩
theorem a9V (prs:List PR):∀ v ∈ prs.flatMap pc,v.oneCell'=true:=by
 intro v hv;obtain⟨p,_,h⟩:=List.mem_flatMap.1 hv;simp only [pc,List.mem_cons,List.not_mem_nil,or_false] at h
 rcases h with rfl|rfl|rfl|rfl|rfl|rfl|rfl|rfl <;> rfl
structure ez (w:World) (S:Nat→Prop) (prs:List PR) (l:List Pt):Prop where
 len:prs.length=l.length
 el:∀ i,i<l.length→dh w S (nth p0 prs i) (nth au l i)
theorem ez.grow {w w':World} {S S':Nat→Prop} {prs:List PR} {l:List Pt} (h:ez w S prs l) (hp:Pure w S w' S'):ez w' S' prs l:=⟨h.len,fun i hi=>(h.el i hi).grow hp⟩
theorem ez.at {w0 w wr:World} {H:List Chunk} {F S:Nat→Prop} {prs:List PR} {l:List Pt} (h:ez wr S prs l) (hS:aA w0 w (.aH F wr::H)) (hF:∀ k,S k→F k):ez w S prs l:=⟨h.len,fun i hi=>(h.el i hi).at hS hF⟩
theorem ez.weaken {w:World} {S T:Nat→Prop} {prs:List PR} {l:List Pt} (h:ez w S prs l) (iU:∀ k,S k→T k):ez w T prs l:=⟨h.len,fun i hi=>(h.el i hi).weaken iU⟩
theorem ez.move {w wr:World} {S:Nat→Prop} {prs:List PR} {l:List Pt} (h:ez wr S prs l) (hk:∀ k,S k→w.heap[k]? = wr.heap[k]?):ez w S prs l:=⟨h.len,fun i hi=>(h.el i hi).move hk⟩
theorem ez.nil (w:World) (S:Nat→Prop):ez w S [] []:=⟨rfl,fun i hi=>by simp at hi⟩
structure PL (w:World) (S:Nat→Prop) (v:Value) (prs:List PR) (l:List Pt):Prop where
 sl:bN w S 8 v l.length (prs.flatMap pc)
 ps:ez w S prs l
theorem PL.grow {w w':World} {S S':Nat→Prop} {v:Value} {prs:List PR} {l:List Pt} (h:PL w S v prs l) (hp:Pure w S w' S'):PL w' S' v prs l:=⟨h.sl.grow hp,h.ps.grow hp⟩
theorem PL.at {w0 w wr:World} {H:List Chunk} {F S:Nat→Prop} {v:Value} {prs:List PR} {l:List Pt} (h:PL wr S v prs l) (hS:aA w0 w (.aH F wr::H)) (hF:∀ k,S k→F k):PL w S v prs l:=⟨h.sl.move (hS.da hF),h.ps.at hS hF⟩
theorem PL.weaken {w:World} {S T:Nat→Prop} {v:Value} {prs:List PR} {l:List Pt} (h:PL w S v prs l) (iU:∀ k,S k→T k):PL w T v prs l:=⟨h.sl.weaken iU,h.ps.weaken iU⟩
def vw (l:List Pt) (q:Pt) (i:Nat):Prop:=i≤l.length∧(∀ j,j<i→(nth au l j).lt q)∧∀ j,i≤j→j<l.length→¬ (nth au l j).lt q
theorem aJn (ad:Option Addr) (n c:Nat) (prs:List PR) (l:List Pt) (p:PR) (q:Pt) (w:World) (S:Nat→Prop) (hv:PL w S (.slice ad n c) prs l) (hp:dh w S p q) (hL:aP w S) (qW:l.Pairwise Pt.lt) (hle:l.length≤1000000) :
 Calls prog 96 #[.slice ad n c,.agg #[.bool p.x.num.neg,.slice p.x.num.ad p.x.num.n p.x.num.cap,.bool p.x.less.neg,.slice p.x.less.ad p.x.less.n p.x.less.cap,.bool p.y.num.neg,.slice p.y.num.ad p.y.num.n p.y.num.cap,.bool p.y.less.neg,.slice p.y.less.ad p.y.less.n p.y.less.cap],.func (.func 46) #[] #[]] w fun e w'=>(∃ i,vw l q i∧e=.returned (.tuple #[.int .i64 (i:Int),.bool (decide (i<l.length∧nth au l i=q))]))∧Pure w S w' S:=by
 have hn:n=l.length:=by obtain⟨h1,a,cap,h2,_⟩:=hv.sl;cases h2;rfl
 subst hn;have sK:=hv.ps.len
 have aGX:∀ i j,i<j→j<l.length→(nth au l i).lt (nth au l j):=fun i j fe hj=>by
  have:=List.pairwise_iff_getElem.1 qW i j (by omega) hj fe;rw [bS au l i (by omega),bS au l j hj];exact this
 obtain⟨hS,aC,bC,bD⟩:=eR hL
 go_enter func96,ntmps96
 go_wp2_with (with_reducible refine cI hS fun bx cu hS=>?_)
 go_loopw [9,10] (fun va vb wr=>∃ (a b:Nat) (F:Nat→Prop) (wq:World),a≤b∧b≤l.length∧va=.int .i64 (a:Int)∧vb=.int .i64 (b:Int)∧aA w wr [.aH F wq,.aB bx (.cells (pc p).toArray 55 (0,0))]∧(∀ k,S k→F k)∧(∀ k,Old w k→F k)∧Pure w S wq S∧PL wq S (.slice ad l.length c) prs l∧dh wq S p q∧(∀ j,j<a→(nth au l j).lt q)∧∀ j,b≤j→j<l.length→¬ (nth au l j).lt q) (fun va vb _=>(intOf vb - intOf va).toNat)
 case atStart=>exact⟨0,l.length,_,w,by omega,by omega,rfl,rfl,hS,aC,bC,bD,hv,hp,fun j hj=>by omega,fun j h1 h2=>by omega⟩
 case round =>
  clear hS aC bC bD hv hp;obtain⟨a,b,F0,wq,bV,hbn,rfl,rfl,hS,aC,bC,bD,hv,hp,dg,jU⟩:=hrel;replace dg:=Hd dg;replace jU:=Hd jU
  by_cases aW:a<b
  ·obtain⟨h,hh⟩:∃ h,h=(a+b) / 2:=⟨_,rfl⟩
   have hha:a≤h:=by omega
   have hhb:h<b:=by omega
   have w1:IntKind.i64.wrap ((a:Int)+(b:Int))=(a:Int)+(b:Int):=w6;have w2:IntKind.u64.wrap ((a:Int)+(b:Int))=(a:Int)+(b:Int):=by rw [IntKind.wrap_u64];omega
   have w3:((a:Int)+(b:Int)) / 2=(h:Int):=by omega
   have w4:IntKind.i64.wrap (h:Int)=(h:Int):=w6;have w5:IntKind.u64.wrap (h:Int)=(h:Int):=by rw [IntKind.wrap_u64];omega
   have hc:=eS gF p0 (show h<prs.length by omega);have dS:=hv.sl.weaken aC;have gV:=hv.ps.el h (by omega);obtain⟨m,hm⟩:∃ m,nth p0 prs h=m:=⟨_,rfl⟩;obtain⟨y,hy⟩:∃ y,nth au l h=y:=⟨_,rfl⟩;rw [hm] at hc gV;rw [hy] at gV;clear hh;go_wp2;refine dB [.p 0,.p 1,.p 2,.p 3,.r 4,.r 5,.e 6,.p 7] [] hS fun w1 hS=>?_
   have hC:=hS
   repeat (with_reducible first|refine e9 underlying25 sizeOf55 dS hc fun bq oq bO=>?_|refine qE isAgg55 sizeOf55 ?_|refine cz 1 isAgg55 sizeOf55 ?_|refine bU ?_)
   clear dS;refine aZ ?_
   go_wp2_with (fail)
   refine (a3H m p y q _ S (gV.at hS aC) (hp.at hS aC) (aP.at hS aC)).mono ?_;rintro e w' ⟨rfl,az⟩;simp only [];go_step;have hv:=(hv.at hS aC).grow az;have hp:=(hp.at hS aC).grow az;have hC:=hC.below az.below az.drawn;replace hS:=hS.aj aC bC bD az;obtain⟨F1,aG,-,bB,av,hS⟩:=hS;have hyq:=@a3s y q
   by_cases hd:y.lt q
   ·have hdt:decide (mW y q<0)=true:=by simpa [hyq] using hd
    clear hyq hc;replace hd:=Hd hd;refine aX hC ?_;refine aM ?_;refine bE ?_;clear hC;go_wp2;go_roundw
    case rel =>
     refine⟨h+1,b,F1,_,by omega,by omega,by simp,rfl,hS,aG,av,bB,hv,hp,fun j hj=>?_,jU.out⟩
     rcases Nat.lt_or_ge j h with h1|h1
     ·exact Pt.lt_trans (aGX j h h1 (by omega)) (by rw [hy];exact hd.out)
     ·obtain rfl:j=h:=by omega
      rw [hy];exact hd.out
    case measure=>simp [intOf];omega
   ·have hdt:decide (mW y q<0)=false:=by simpa [hyq] using hd
    clear hyq hc;replace hd:=Hd hd;refine aX hC ?_;refine aM ?_;refine bE ?_;clear hC;go_wp2;go_roundw
    case rel =>
     refine⟨a,h,F1,_,by omega,by omega,rfl,rfl,hS,aG,av,bB,hv,hp,dg.out,fun j h1 h2 uK=>?_⟩
     rcases Nat.lt_or_ge h j with h3|h3
     ·exact hd.out (Pt.lt_trans (by rw [← hy];exact aGX h j h3 h2) uK)
     ·obtain rfl:j=h:=by omega
      rw [hy] at uK;exact hd.out uK
    case measure=>simp [intOf];omega
  ·obtain rfl:a=b:=by omega
   by_cases hn:a<l.length
   ·have mR:decide ((a:Int)<(l.length:Int))=true:=by simpa using hn
    have hc:=eS gF p0 (show a<prs.length by omega);have dS:=hv.sl.weaken aC;have gV:=hv.ps.el a (by omega);obtain⟨m,hm⟩:∃ m,nth p0 prs a=m:=⟨_,rfl⟩;obtain⟨y,hy⟩:∃ y,nth au l a=y:=⟨_,rfl⟩;rw [hm] at hc gV;rw [hy] at gV;go_wp2;refine dB [.p 0,.p 1,.p 2,.p 3,.p 4,.p 5,.p 6,.p 7,.p 8,.r 9,.r 10,.e 11,.p 12,.p 13,.p 14,.p 15] [] hS fun w1 hS=>?_
    have hC:=hS
    repeat (with_reducible first|refine e9 underlying25 sizeOf55 dS hc fun bq oq bO=>?_|refine qE isAgg55 sizeOf55 ?_|refine cz 1 isAgg55 sizeOf55 ?_|refine bU ?_)
    clear dS;refine aZ ?_
    go_wp2_with (fail)
    refine (a3H m p y q _ S (gV.at hS aC) (hp.at hS aC) (aP.at hS aC)).mono ?_;rintro e w' ⟨rfl,az⟩;simp only [];go_step;have hC:=hC.below az.below az.drawn;replace hS:=hS.aj aC bC bD az;obtain⟨F1,aG,-,bB,av,hS⟩:=hS;refine aX hC ?_;have heq:=@aDd y q
    have fT:decide (a<l.length∧nth au l a=q)=(mW y q == 0):=by
     rw [hy]
     by_cases h2:y=q
     ·subst h2;simp [hn,(aDd (p:=y) (q:=y)).2 rfl]
     ·simp [h2,mt heq.1 h2]
    replace fT:=Hd fT;clear heq hc;refine aM ?_;refine bE ?_;go_wp2;refine bodyPost_ret (results_tmp2 rfl _ _ _) rfl ?_;exact⟨⟨a,⟨hbn,dg.out,jU.out⟩,by rw [fT.out];rfl⟩,bB.step hS av aG⟩
   ·obtain rfl:a=l.length:=by omega
    go_wp2;refine dB [.p 0,.p 1,.p 2,.p 3,.p 4,.p 5,.p 6,.p 7,.p 8,.r 9,.r 10,.e 11,.p 12,.p 13,.p 14,.p 15] [] hS fun w1 hS=>?_
    have hC:=hS;refine aM ?_;refine aZ ?_;refine sf rfl ?_;refine aX hC ?_;refine aM ?_;refine bE ?_;go_wp2;refine bodyPost_ret (results_tmp2 rfl _ _ _) rfl ?_;exact⟨⟨l.length,⟨hbn,dg.out,jU.out⟩,by simp⟩,bD.step hS bC aC⟩
theorem pc1 (p:PR):∀ v ∈ (pc p).toArray.toList,v.oneCell'=true:=by
 intro v hv;have:=a9V [p] v (by simpa using hv);exact this
theorem a29 {α:Type} {f:α→List Value} {k:Nat} (hk:∀ x,(f x).length=k):∀ (l:List α) (i:Nat),(l.flatMap f).take (i*k)=(l.take i).flatMap f
 | [],i=>by simp
 | x::l,0=>by simp
 | x::l,i+1=>by
  have h:=a29 hk l i;rw [List.flatMap_cons,List.take_succ_cons,List.flatMap_cons,Nat.add_mul,Nat.one_mul,Nat.add_comm,← h,← hk x,List.take_length_add_append]
theorem a8P {α:Type} {f:α→List Value} {k:Nat} (hk:∀ x,(f x).length=k):∀ (l:List α) (i:Nat),(l.flatMap f).drop (i*k)=(l.drop i).flatMap f
 | [],i=>by simp
 | x::l,0=>by simp
 | x::l,i+1=>by
  have h:=a8P hk l i;rw [List.flatMap_cons,List.drop_succ_cons,Nat.add_mul,Nat.one_mul,Nat.add_comm,← h,← List.drop_drop,← hk x,List.drop_left]
theorem aUe {cur D X:List Value} {i n:Nat} (hX:X.length=8) (hD:D.length=(n - i)*8) (jM:i<n) (hc:(n+1)*8≤cur.length) :
 ((((cur.take ((i+1)*8)++D++cur.drop ((i+1)*8+D.length)).take (i*8))++X++(cur.take ((i+1)*8)++D++cur.drop ((i+1)*8+D.length)).drop (i*8+X.length))).take ((n+1)*8)=cur.take (i*8)++X++D:=by
 have h1:(cur.take ((i+1)*8)++D++cur.drop ((i+1)*8+D.length)).take (i*8)=cur.take (i*8):=by
  rw [List.append_assoc,List.take_append_of_le_length (by simp;omega),List.take_take,Nat.min_eq_left (by omega)]
 have h2:(cur.take ((i+1)*8)++D++cur.drop ((i+1)*8+D.length)).drop (i*8+X.length)=D++cur.drop ((i+1)*8+D.length):=by
  rw [List.append_assoc,List.drop_append_of_le_length (by simp;omega),List.drop_of_length_le (by simp;omega),List.nil_append]
 rw [h1,h2,← List.append_assoc,List.take_append_of_le_length (by simp;omega),List.take_of_length_le (by simp;omega)]
theorem aQZ {arr D X:List Value} {i n:Nat} (hX:X.length=8) (hD:D.length=(n - i)*8) (jM:i<n) (hc:(n+1)*8≤arr.length) :
 ((arr.take (i*8)++X++arr.drop (i*8+X.length)).take ((i+1)*8)++D++(arr.take (i*8)++X++arr.drop (i*8+X.length)).drop ((i+1)*8+D.length)).take ((n+1)*8)=arr.take (i*8)++X++D:=by
 have h1:(arr.take (i*8)++X++arr.drop (i*8+X.length)).take ((i+1)*8)=arr.take (i*8)++X:=by
  rw [List.take_append_of_le_length (by simp;omega),List.take_of_length_le (by simp;omega)]
 rw [h1,List.append_assoc (arr.take (i*8)++X) D,← List.append_assoc (arr.take (i*8)++X) D,List.take_append_of_le_length (by simp;omega),List.take_of_length_le (by simp;omega)]
theorem a2B:(prog.info? 55).map (fun i=>(i.zero,i.size,i.bytes))=some (some (.agg #[.bool p0.x.num.neg,.slice p0.x.num.ad p0.x.num.n p0.x.num.cap,.bool p0.x.less.neg,.slice p0.x.less.ad p0.x.less.n p0.x.less.cap,.bool p0.y.num.neg,.slice p0.y.num.ad p0.y.num.n p0.y.num.cap,.bool p0.y.less.neg,.slice p0.y.less.ad p0.y.less.n p0.y.less.cap]),8,128):=by kernel_rfl
theorem a9L:(prog.info? 55).map (·.size)=some 8:=by kernel_rfl
theorem aQ8 (w:World) (vb b o m vc lb cb:Nat) (bJ:vb≠b) (A B:Array Value) (tA tB:TypeId) (hA:w.heap[vb]? = some (.cells A tA (0,0))) (hB:w.heap[b]? = some (.cells B tB (0,0))) (lS:B.size≠0) :
 (callFunc 141 #[.slice (some ⟨vb,0,none⟩) m vc,.slice (some ⟨b,o,none⟩) lb cb]).run prog w=.ok (.value (.bool false)) w:=by
 rw [run_callFunc_extern func141 (by kernel_rfl) (by kernel_rfl) (by kernel_rfl) (e:=Extern.SlicesOverlaps.overlaps #[25,25] #[4]) (by kernel_rfl),
  Lib.run_overlaps_apart w 25 4 55 underlying25 8 sizeOf55 ⟨vb,0,none⟩ ⟨b,o,none⟩ m vc lb cb bJ tA tB A.size B.size (by simp [World.shape?,hA]) (by simp [World.shape?,hB]) lS (by simp [World.frozen?,hA]) (by simp [World.frozen?,hA])]
 rfl
theorem aPF (ad:Option Addr) (n c i vb:Nat) (prs:List PR) (p:PR) (Tb:TypeId) (w:World) (S:Nat→Prop) (hS:aA w w [.aH S w,.row (.slice ad n c) 55 8 n (prs.flatMap pc),.aB vb (.cells (pc p).toArray Tb (0,0))]) (hi:i≤n) (hn:n≤100000) :
 Calls prog 97 #[.slice ad n c,.int .i64 i,.slice (some ⟨vb,0,none⟩) 1 1] w fun e w'=>∃ gD c',e=.returned (.slice gD (n+1) c')∧aA w w' [.aH S w,.row (.slice gD (n+1) c') 55 8 (n+1) ((prs.take i++p::prs.drop i).flatMap pc)]:=by
 have hlen:prs.length=n:=by
  have:=(hS.dn 1 rfl).1;rw [nB gF] at this;omega
 have mm:n≤c:=hS.aGI 1 rfl
 by_cases jM:i=n
 ·subst jM
  have fT:(prs.take i++p::prs.drop i).flatMap pc=prs.flatMap pc++(pc p).toArray.toList:=by
   rw [List.take_of_length_le (by omega),List.drop_of_length_le (by omega)];simp
  rw [fT];clear fT;replace hS:aA w w ([.aH S w,.row (.slice ad i c) 55 8 i (prs.flatMap pc)]++[.aB vb (.cells (pc p).toArray Tb (0,0))]):=hS;obtain⟨hl0,dt⟩:=hS.ok _ (bW (i:=1) rfl)
  rcases dt with ⟨h1,h2⟩|⟨g,cap,cur,h1,fk,hg,aKo,fg,hcs,eK⟩
  ·simp only [Value.slice.injEq] at h1
   obtain⟨rfl,rfl,rfl⟩:=h1;clear h2 hl0
   go_enter func97,ntmps97
   go_wp2_with (first|((with_reducible refine eG ?_);refine fw (t:=25) 1 hS underlying25 a2B rfl (by decide) rfl rfl rfl rfl (pc1 p) (by omega) (by unfold maxLen;omega) (fun dU gL _ hS=>?_)))
   go_ret;exact⟨_,_,rfl,hS⟩
  ·simp only [Value.slice.injEq] at h1
   obtain⟨rfl,-,rfl⟩:=h1;clear hl0 fk hg hcs eK aKo
   by_cases hci:c=i
   ·subst hci
    go_enter func97,ntmps97
    go_wp2_with (first|((with_reducible refine eG ?_);refine fw (t:=25) 1 hS underlying25 a2B rfl (by decide) rfl rfl rfl rfl (pc1 p) (by omega) (by unfold maxLen;omega) (fun dU gL _ hS=>?_)))
    go_ret;exact⟨_,_,rfl,hS⟩
   ·skip
    go_enter func97,ntmps97
    go_wp2_with (first|((with_reducible refine eG ?_);refine fw (t:=25) 1 hS underlying25 a2B rfl (by decide) rfl rfl rfl rfl (pc1 p) (by omega) (by unfold maxLen;omega) (fun dU gL _ hS=>?_)))
    go_ret;exact⟨_,_,rfl,hS⟩
 ·obtain⟨g,cur,rfl,aKo,fg,hcs,dK,eK,hS⟩:=hS.aCF 1 rfl (by omega)
  simp only [aK] at hS;have hif:((i:Int) == (n:Int))=false:=by simp;omega
  have aXO:¬ n=i:=fun h=>jM h.symm
  have hci:¬ c=i:=by omega
  have hc8:c*8=cur.size:=hcs.symm;have fb:w.heap[vb]? = some (.cells (pc p).toArray Tb (0,0)):=hS.aB (bW (i:=2) rfl);have hgb:w.heap[g]? = some (.cells cur 55 (0,0)):=hS.aB (bW (i:=1) rfl)
  have bJ:vb≠g:=by
   have:=List.pairwise_iff_getElem.1 hS.apart 1 2 (by simp) (by simp) (by omega);intro e;subst e;exact absurd rfl (this vb rfl)
  have jx:=fun o lb cb=>aQ8 w vb g o 1 1 lb cb bJ _ _ _ _ fb hgb (by omega)
  have nT:IntKind.i64.wrap ((i:Int)+1)=(i:Int)+1:=w6;have mM:IntKind.i64.wrap ((n:Int)+1)=(n:Int)+1:=w6;have htn:((i:Int)+1).toNat=i+1:=by omega
  have aYI:((n:Int)+1).toNat=n+1:=by omega
  have hA:(prs.take i).flatMap pc=cur.toList.take (i*8):=by rw [← a29 gF,← eK,List.take_take,Nat.min_eq_left (by omega)]
  have hD:(prs.drop i).flatMap pc=(cur.toList.drop (i*8)).take ((n - i)*8):=by
   rw [← a8P gF,← eK,List.drop_take];congr 1;omega
  have qw:((prs.drop i).flatMap pc).length=(n - i)*8:=by rw [nB gF,List.length_drop,hlen]
  have fT:(prs.take i++p::prs.drop i).flatMap pc=cur.toList.take (i*8)++pc p++(prs.drop i).flatMap pc:=by
   rw [← hA];simp
  rw [fT];clear fT hA;obtain⟨D,hDe⟩:∃ D,(prs.drop i).flatMap pc=D:=⟨_,rfl⟩;have hD1:∀ u ∈ D,u.oneCell'=true:=by rw [← hDe];exact a9V _
  rw [hDe] at hD qw ⊢;clear hDe eK dK;replace hD:=Hd hD;replace qw:=Hd qw
  by_cases xK:n+1≤c
  ·have hrf:decide ((c:Int)<(n:Int)+1)=false:=by simp;omega
   have aXT:¬ c=i+1:=by omega
   have cT:(n:Int)+1≤(c:Int):=by omega
   clear fb hgb
   go_enter func97,ntmps97
   go_wp2_with (simp only [jx])
   refine dB [.p 0,.p 1,.p 2,.p 3,.p 4,.p 5,.p 6,.p 7,.m 8] [8] hS fun w1 hS=>?_
   repeat (first|((with_reducible refine kM ?_);refine j3 rfl rfl (zY (T:=25) (j:=i+1) underlying25 sizeOf55 rfl rfl (by omega) (by omega) (by omega) ?_);simp only [aD];simp only [Nat.zero_add])|((with_reducible refine kM ?_);refine j3 rfl rfl (zY (T:=25) (j:=i) underlying25 sizeOf55 rfl rfl (by omega) (by omega) (by omega) ?_);simp only [aD];simp only [Nat.zero_add])|(with_reducible refine bU ?_))
   refine dC ?_
   ((with_reducible refine a61 ?_);refine a68 (k:=8) (m:=n - i) (cs:=D) 1 hS underlying25 a9L rfl rfl rfl (by simp only [Nat.min_def];split <;> omega) qw.out (a6Z hS (bW (i:=1) rfl) (by rw [qw.out];exact hD.out)) (by rw [qw.out];omega) hD1 (fun _ hS=>?_);simp only [aD];simp only [aK] at hS)
   refine dD ?_;refine bE ?_
   go_wp2_with (first|((with_reducible refine tD (T:=25) ?_);refine ck rfl (zY (T:=25) (j:=i) underlying25 sizeOf55 rfl rfl (by omega) (by omega) (by omega) ?_);simp only [aD];simp only [Nat.zero_add])|((with_reducible refine a61 ?_);refine a68 (k:=8) (m:=1) (cs:=pc p) 1 hS underlying25 a9L rfl rfl rfl (by simp only [Nat.min_def];split <;> omega) rfl (a6Z hS (arr:=(pc p).toArray) (Tb:=Tb) (bW (i:=2) rfl) rfl) (by simp [qw.out,gF];omega) (pc1 p) (fun _ hS=>?_);simp only [aD];simp only [aK] at hS))
   go_ret;have hS:=(hS.a4d (c:=c) (n:=n+1) (k:=8) 1 rfl (by simp [qw.out,gF];omega) xK fg).pick [0,1] rfl;simp only [List.filterMap_cons,List.getElem?_cons_zero,List.getElem?_cons_succ,List.filterMap_nil,List.set_cons_succ,List.set_cons_zero] at hS;refine⟨_,_,rfl,?_⟩;rw [← aUe (gF p) qw.out (by omega) (by simp;omega)]
   simpa using hS
  ·have hrt:decide ((c:Int)<(n:Int)+1)=true:=by simp;omega
   have hw3:IntKind.i64.wrap ((n:Int)+1 - (i:Int))=(n:Int)+1 - (i:Int):=w6;have rM:i+(n+1 - i)=n+1:=by omega
   have hic:(i:Int)≤(c:Int):=by omega
   clear jx fb hgb
   go_enter func97,ntmps97
   go_wp2_with (first|((with_reducible refine eG ?_);refine aPr (m:=n+1 - i) (i:=i) (T:=25) (E:=55) (tn:=3) (k:=8) 1 hS underlying25 underlying3 a2B (by decide) rfl rfl rfl (by omega) (by omega) (by omega) rfl (by omega) (by omega) (by omega) (fun b G arr _ hS a9Z hG1 pW aPf=>?_);rw [rM] at hG1 ⊢;simp only [aD];simp only [aK] at hS)|((with_reducible refine tD (T:=25) ?_);refine ck rfl (zY (T:=25) (j:=i) underlying25 sizeOf55 rfl rfl (by omega) (by omega) (by omega) ?_);simp only [aD];simp only [Nat.zero_add])|((with_reducible refine a61 ?_);refine a68 (k:=8) (m:=1) (cs:=pc p) 3 hS underlying25 a9L rfl rfl rfl (by simp only [Nat.min_def];split <;> omega) rfl (a6Z hS (arr:=(pc p).toArray) (Tb:=Tb) (bW (i:=2) rfl) rfl) (by simp [gF];omega) (pc1 p) (fun _ hS=>?_);simp only [aD];simp only [aK] at hS))
   refine dB [.p 0,.p 1,.p 2,.p 3,.p 4,.p 5,.p 6,.p 7,.m 8] [8] hS fun w1 hS=>?_
   repeat (first|((with_reducible refine kM ?_);refine j3 rfl rfl (zY (T:=25) (j:=i+1) underlying25 sizeOf55 rfl rfl (by omega) (by omega) (by omega) ?_);simp only [aD];simp only [Nat.zero_add])|((with_reducible refine kM ?_);refine j3 rfl rfl (zY (T:=25) (j:=i) underlying25 sizeOf55 rfl rfl (by omega) (by omega) (by omega) ?_);simp only [aD];simp only [Nat.zero_add])|(with_reducible refine bU ?_))
   refine dC ?_
   ((with_reducible refine a61 ?_);refine a68 (k:=8) (m:=n - i) (cs:=D) 3 hS underlying25 a9L rfl rfl rfl (by simp only [Nat.min_def];split <;> omega) qw.out (a6Z hS (bW (i:=1) rfl) (by rw [qw.out];exact hD.out)) (by simp [qw.out,gF];omega) hD1 (fun _ hS=>?_);simp only [aD];simp only [aK] at hS)
   refine dD ?_;refine bE ?_;go_wp2;go_ret;have hS:=(hS.a4d (c:=G) (n:=n+1) (k:=8) 3 rfl (by simp [qw.out,gF];omega) hG1 pW).pick [0,3] rfl;simp only [List.filterMap_cons,List.getElem?_cons_zero,List.getElem?_cons_succ,List.filterMap_nil,List.set_cons_succ,List.set_cons_zero] at hS;refine⟨_,_,rfl,?_⟩;rw [← aPf,← aQZ (gF p) qw.out (by omega) (by simp;omega)]
   simpa using hS
theorem aJI {α:Type} (d x:α) (l:List α) (i j:Nat) (hi:i≤l.length):nth d (l.take i++x::l.drop i) j=if j<i then nth d l j else if j=i then x else nth d l (j - 1):=by
 unfold nth;simp only [List.getD_eq_getElem?_getD,List.getElem?_append,List.length_take,Nat.min_eq_left hi]
 split
 ·rename_i h;rw [List.getElem?_take,if_pos h]
 ·rename_i h
  split
  ·rename_i h2;subst h2;simp
  ·rename_i h2
   obtain⟨k,rfl⟩:∃ k,j=i+(k+1):=⟨j - i - 1,by omega⟩;rw [show i+(k+1) - i=k+1 by omega,show i+(k+1) - 1=i+k by omega];simp
theorem ez.insert {w:World} {S:Nat→Prop} {prs:List PR} {l:List Pt} {p:PR} {q:Pt} (h:ez w S prs l) (hp:dh w S p q) {i:Nat} (hi:i≤l.length):ez w S (prs.take i++p::prs.drop i) (l.take i++q::l.drop i):=by
 have hl:=h.len;refine⟨by simp [hl],fun j hj=>?_⟩;simp only [List.length_append,List.length_take,List.length_cons,List.length_drop] at hj;rw [aJI _ _ _ _ _ (by omega),aJI _ _ _ _ _ hi]
 by_cases h1:j<i
 ·rw [if_pos h1,if_pos h1];exact h.el j (by omega)
 ·rw [if_neg h1,if_neg h1]
  by_cases h2:j=i
  ·rw [if_pos h2,if_pos h2];exact hp
  ·rw [if_neg h2,if_neg h2];exact h.el (j - 1) (by omega)
theorem vw.sorted {l:List Pt} {q:Pt} {i:Nat} (h:vw l q i) (hs:l.Pairwise Pt.lt) (bJ:¬ (i<l.length∧nth au l i=q)):(l.take i++q::l.drop i).Pairwise Pt.lt:=by
 obtain⟨h1,h2,h3⟩:=h
 have hq:∀ b ∈ l.drop i,q.lt b:=by
  intro b hb;obtain⟨j,hj,rfl⟩:=List.mem_iff_getElem.1 hb;rw [List.getElem_drop];have gX:i+j<l.length:=by simp at hj;omega
  have e:=bS au l (i+j) gX;rw [← e]
  rcases Pt.total q (nth au l (i+j)) with h4|h4|h4
  ·exact h4
  ·exfalso
   rcases Nat.eq_zero_or_pos j with h5|h5
   ·subst h5;exact bJ ⟨by omega,h4.symm⟩
   ·apply h3 i (Nat.le_refl _) (by omega)
    rw [h4,bS au l i (by omega),e];exact List.pairwise_iff_getElem.1 hs i (i+j) (by omega) gX (by omega)
  ·exact absurd h4 (h3 (i+j) (by omega) gX)
 have dg:∀ a ∈ l.take i,a.lt q:=by
  intro a ha;obtain⟨j,hj,rfl⟩:=List.mem_iff_getElem.1 ha;rw [List.getElem_take];have gX:j<i:=by simp at hj;omega
  rw [← bS au l j (by omega)];exact h2 j gX
 refine List.pairwise_append.2 ⟨hs.sublist (List.take_sublist _ _),List.pairwise_cons.2 ⟨hq,hs.sublist (List.drop_sublist _ _)⟩,fun a ha b hb=>?_⟩
 rcases List.mem_cons.1 hb with rfl|hb
 ·exact dg a ha
 ·exact Pt.lt_trans (dg a ha) (hq b hb)
theorem aPc {l:List Pt} {q x:Pt} {i:Nat}:x ∈ l.take i++q::l.drop i↔x ∈ l∨x=q:=by
 conv=>rhs;rw [← List.take_append_drop i l]
 simp only [List.mem_append,List.mem_cons]
 constructor
 ·rintro (h|h|h)
  ·exact .inl (.inl h)
  ·exact .inr h
  ·exact .inl (.inr h)
 ·rintro ((h|h)|h)
  ·exact .inl h
  ·exact .inr (.inr h)
  ·exact .inr (.inl h)
theorem aOk (bo:Nat) (ad:Option Addr) (n c:Nat) (prs:List PR) (l:List Pt) (p:PR) (q:Pt) (F S:Nat→Prop) (w:World)
 (hS:aA w w [.aH F w,.aB bo (.cells #[.slice ad n c] 25 (0,0)),.row (.slice ad n c) 55 8 n (prs.flatMap pc)]) (hF:∀ k,S k→F k) (dL:ez w S prs l) (hp:dh w S p q) (hs:l.Pairwise Pt.lt) (hle:l.length≤5000) :
 Calls prog 95 #[.agg #[.bool p.x.num.neg,.slice p.x.num.ad p.x.num.n p.x.num.cap,.bool p.x.less.neg,.slice p.x.less.ad p.x.less.n p.x.less.cap,.bool p.y.num.neg,.slice p.y.num.ad p.y.num.n p.y.num.cap,.bool p.y.less.neg,.slice p.y.less.ad p.y.less.n p.y.less.cap],.pointer (some ⟨bo,0,none⟩)] w fun e w'=>e=.returned (.tuple #[])∧∃ gD n' c' nJ l',aA w w' [.aH F w,.aB bo (.cells #[.slice gD n' c'] 25 (0,0)),.row (.slice gD n' c') 55 8 n' (nJ.flatMap pc)]∧ez w' S nJ l'∧l'.Pairwise Pt.lt∧(∀ x,x ∈ l'↔x ∈ l∨x=q)∧l'.length≤l.length+1:=by
 have hn:n=l.length:=by
  have:=(hS.dn 2 rfl).1;rw [nB gF,dL.len] at this;omega
 subst hn
 go_enter func95,ntmps95
 go_wp2_with (with_reducible first|refine cI hS fun bx cu hS=>?_|refine aU 1 hS isAgg25 ?_|refine bA 3 hS isAgg55 sizeOf55 ?_)
 have bh:=hS.dn 2 rfl;have fi:∀ k,S k→F k:=hF;refine (aJn ad l.length c prs l p q _ (fun k=>S k∨(Chunk.row (.slice ad l.length c) 55 8 l.length (prs.flatMap pc)).has k) ⟨bh.weaken fun k h=>.inr h,(dL.at hS hF).weaken fun k h=>.inl h⟩ ((hp.at hS hF).weaken fun k h=>.inl h) (fun k h=>?_) hs (by omega)).mono ?_
 ·rcases h with h|h
  ·exact (hS.ok (.aH F w) (by simp) k (hF k h)).1
  ·exact Chunk.lt (hS.ok _ (bW (i:=2) rfl)) h
 clear bh fi;rintro e w' ⟨⟨i,cA,rfl⟩,az⟩;have hS:=hS.below az.below az.drawn;clear az
 by_cases hf:i<l.length∧nth au l i=q
 ·have hd:decide (i<l.length∧nth au l i=q)=true:=by simpa using hf
  rw [hd];clear hd;have hqm:q ∈ l:=by rw [← hf.2];exact cQ au l i hf.1
  clear hf;replace cA:=Hd cA;simp only [];go_wp2
  go_end0
  exact⟨rfl,ad,l.length,c,prs,l,hS.sb,dL.at hS hF,hs,fun x=>⟨fun h=>.inl h,fun h=>h.elim id (fun e=>e ▸ hqm)⟩,by omega⟩
 ·have hd:decide (i<l.length∧nth au l i=q)=false:=by simpa using hf
  rw [hd];clear hd;replace hf:=Hd hf;have dj:=cA.1;replace cA:=Hd cA;simp only []
  go_wp2_with (first|(with_reducible first|refine aU 1 hS isAgg25 ?_|refine bA 3 hS isAgg55 sizeOf55 ?_)|((with_reducible refine dV (T:=25) ?_);refine fZ (T:=25) (v:=.agg #[.bool _,.slice _ _ _,.bool _,.slice _ _ _,.bool _,.slice _ _ _,.bool _,.slice _ _ _]) hS underlying25 sizeOf55 zeroValue55 rfl rfl rfl (by decide) (by decide) rfl (fun bl fX hS=>?_);simp only [aD];simp only [Value.cells] at hS))
  have cU:=hS.order [0,1,3,2,4] rfl;have dw:=aA.split (A:=[.aH F w,.aB bo (.cells #[.slice ad l.length c] 25 (0,0)),.aB bx (.cells (pc p).toArray 55 (0,0))]) (B:=[.row (.slice ad l.length c) 55 8 l.length (prs.flatMap pc),.aB bl (.cells (pc p).toArray 55 (0,0))]) cU;refine (aPF ad l.length c i bl prs p _ _ _ dw dj (by omega)).mono ?_;rintro e w2 ⟨dU,c2,rfl,uu⟩;have cK:=aA.su (A:=[.aH F w,.aB bo (.cells #[.slice ad l.length c] 25 (0,0)),.aB bx (.cells (pc p).toArray 55 (0,0))]) (B:=[.row (.slice ad l.length c) 55 8 l.length (prs.flatMap pc),.aB bl (.cells (pc p).toArray 55 (0,0))]) cU uu;clear hS cU dw uu;have hS:=cK;clear cK;simp only [aK] at hS;simp only []
  go_wp2_with (with_reducible refine aJ 1 hS sizeOf25 fun _ hS=>?_)
  go_end0
  exact⟨rfl,dU,_,c2,_,_,hS.sb,(dL.at hS hF).insert (hp.at hS hF) dj,cA.out.sorted hs hf.out,fun x=>aPc,by simp;omega⟩
theorem Rest.of {w0 w wr:World} {F:Nat→Prop} {A B:List Chunk} (hS:aA w0 w (.aH F wr::(A++B))) {k:Nat} (hk:F k):Rest w B k:=by
 refine⟨(hS.ok (.aH F wr) (by simp) k hk).1,fun c hc=>?_⟩;exact (List.pairwise_cons.1 hS.apart).1 c (by simp [hc]) k hk
theorem bN.at {w0 w wr:World} {H:List Chunk} {F S:Nat→Prop} {k n:Nat} {v:Value} {cs:List Value} (h:bN wr S k v n cs) (hS:aA w0 w (.aH F wr::H)) (hF:∀ k,S k→F k):bN w S k v n cs:=h.move (hS.da hF)
theorem aVg (s:Sz) (g:Gp):cj s.sg g.pt↔(decide (((min s.a.x s.b.x:Int):Rat)≤g.pt.x∧g.pt.x≤((max s.a.x s.b.x:Int):Rat)) && decide (((min s.a.y s.b.y:Int):Rat)≤g.pt.y∧g.pt.y≤((max s.a.y s.b.y:Int):Rat)))=true∧dQ s.a s.b g=0:=by
 unfold cj sj;rw [show s.sg.a=s.a.pt from rfl,show s.sg.b=s.b.pt from rfl,yV,← aDq,← aFn,← aDq,← aFn];rw [Bool.and_eq_true,decide_eq_true_iff,decide_eq_true_iff]
 have:((dQ s.a s.b g:Rat)=0)↔dQ s.a s.b g=0:=by
  constructor
  ·intro h;exact_mod_cast h
  ·intro h;exact_mod_cast h
 rw [this]
 constructor
 ·rintro⟨h1,h2,h3,h4,h5⟩;exact⟨⟨⟨h2,h3⟩,h4,h5⟩,h1⟩
 ·rintro⟨⟨⟨h2,h3⟩,h4,h5⟩,h1⟩;exact⟨h1,h2,h3,h4,h5⟩
theorem aA.a5W {w0 w wr:World} {H:List Chunk} {F S0 S:Nat→Prop} {c:Chunk} (hS:aA w0 w (.aH F wr::H)) (hO:∀ k,Old w0 k→F k) (hF:∀ k,S k→F k) (hp:Pure w0 S0 wr S) (hc:c ∈ H):Pure w0 S0 w (fun k=>S k∨c.has k):=by
 have h1:=hp.step hS hO hF;refine⟨h1.below,h1.drawn,fun k hk=>.inl (h1.sub k hk),fun k hk=>?_⟩
 rcases hk with hk|hk
 ·exact h1.new k hk
 ·refine .inr ⟨?_,Chunk.lt (hS.ok _ (List.mem_cons_of_mem _ hc)) hk⟩
  rcases Nat.lt_or_ge k w0.heap.size with aW|gB
  ·exact absurd hk ((List.pairwise_cons.1 hS.apart).1 _ hc k (hO k aW))
  ·exact gB
structure yU (s:Sz) (os:List Sz) (gs:List Gp) (l:List Pt):Prop where
 sorted:l.Pairwise Pt.lt
 mem:∀ x,x ∈ l↔x=s.a.pt∨x=s.b.pt∨(∃ t ∈ os,x ∈ rT s.sg t.sg)∨∃ g ∈ gs,x=g.pt∧cj s.sg x
 len:l.length≤2+2*os.length+gs.length
theorem a10 {w0 wr w:World} {F S:Nat→Prop} {A:List Chunk} {bo:Nat} {ad:Option Addr} {n c:Nat} {prs:List PR} {l:List Pt} {p:PR} {q:Pt}
 (hS:aA w0 w (.aH F wr::(A++[.aB bo (.cells #[.slice ad n c] 25 (0,0)),.row (.slice ad n c) 55 8 n (prs.flatMap pc)]))) (hF:∀ k,S k→F k) (dL:ez wr S prs l) (hp:dh wr S p q) (hs:l.Pairwise Pt.lt) (hle:l.length≤5000) :
 Calls prog 95 #[.agg #[.bool p.x.num.neg,.slice p.x.num.ad p.x.num.n p.x.num.cap,.bool p.x.less.neg,.slice p.x.less.ad p.x.less.n p.x.less.cap,.bool p.y.num.neg,.slice p.y.num.ad p.y.num.n p.y.num.cap,.bool p.y.less.neg,.slice p.y.less.ad p.y.less.n p.y.less.cap],.pointer (some ⟨bo,0,none⟩)] w fun e w'=>e=.returned (.tuple #[])∧∃ gD n' c' nJ l',aA w0 w' (.aH F wr::(A++[.aB bo (.cells #[.slice gD n' c'] 25 (0,0)),.row (.slice gD n' c') 55 8 n' (nJ.flatMap pc)]))∧ez wr S nJ l'∧l'.Pairwise Pt.lt∧(∀ x,x ∈ l'↔x ∈ l∨x=q)∧l'.length≤l.length+1:=by
 have dw:=aA.split (A:=.aH F wr::A) hS;refine (aOk bo ad n c prs l p q _ S w dw (fun k hk=>Rest.of hS (hF k hk)) (dL.at hS hF) (hp.at hS hF) hs hle).mono ?_;rintro e w' ⟨rfl,gD,n',c',nJ,l',fY,h1,h2,h3,h4⟩;have cK:=aA.su (A:=.aH F wr::A) hS fY;exact⟨rfl,gD,n',c',nJ,l',cK,h1.move (fun k hk=>(cK.da hF k hk).symm),h2,h3,h4⟩
theorem sM:(prog.info? 94).map (fun i=>(i.zero,i.size,i.bytes))=some (some (.agg #[.int .i64 s0.a.x,.int .i64 s0.a.y,.int .i64 s0.b.x,.int .i64 s0.b.y]),4,32):=by kernel_rfl
theorem a2X (l:List Sz):∀ v ∈ l.flatMap sc,v.oneCell'=true:=by
 intro v hv;obtain⟨p,_,h⟩:=List.mem_flatMap.1 hv;simp only [sc,List.mem_cons,List.not_mem_nil,or_false] at h
 rcases h with rfl|rfl|rfl|rfl <;> rfl
theorem aNu (s:Sz) (os:List Sz) (gs:List Gp) (ao ap:Option Addr) (no co np cp:Nat) (w:World) (S:Nat→Prop) (hL:aP w S) (hs:s.ok) (cJ:∀ t ∈ os,t.ok) (qm:∀ g ∈ gs,g.ok) (hv:bN w S 4 (.slice ao no co) os.length (os.flatMap sc)) (hg:bN w S 2 (.slice ap np cp) gs.length (gs.flatMap gc)) (dg:os.length≤600) (hlg:gs.length≤600) :
 Calls prog 45 #[.agg #[.int .i64 s.a.x,.int .i64 s.a.y,.int .i64 s.b.x,.int .i64 s.b.y],.slice ao no co,.slice ap np cp] w fun e w'=>∃ ad n c prs l S',e=.returned (.tuple #[.slice ad n c,.int .i64 0])∧Pure w S w' S'∧PL w' S' (.slice ad n c) prs l∧yU s os gs l:=by
 obtain rfl:no=os.length:=by obtain⟨h1,a,cap,h2,_⟩:=hv;cases h2;rfl
 obtain rfl:np=gs.length:=by obtain⟨h1,a,cap,h2,_⟩:=hg;cases h2;rfl
 have hvS:=fun ad n c w S hv=>aUc ad n c (s::os) w S hv (by simpa using ⟨hs,cJ⟩)
 have ia:bQ s.a.x∧bQ s.a.y:=by have:=hs.1;unfold Gp.ok fS at this;unfold bQ;omega
 have ib:bQ s.b.x∧bQ s.b.y:=by have:=hs.2.1;unfold Gp.ok fS at this;unfold bQ;omega
 obtain⟨hS,aC,bC,bD⟩:=eR hL
 go_enter func45,ntmps45
 have nF:bN w (Old w) 4 _ _ _:=hv.weaken aC
 go_wp2_with (first|(with_reducible first|refine cI (T:=94) (v:=.agg _) hS fun bx cu hS=>?_|refine bA 1 hS isAgg94 sizeOf94 ?_)|(((with_reducible refine dV (T:=23) ?_);refine fZ (T:=23) (v:=.agg #[.int .i64 s.a.x,.int .i64 s.a.y,.int .i64 s.b.x,.int .i64 s.b.y]) hS underlying23 sizeOf94 zeroValue94 rfl rfl rfl (by decide) (by decide) rfl (fun b20 aCI hS=>?_);simp only [aD];simp only [Value.cells] at hS);have hS:=hS.uj (m:=1) (k:=4) 2 rfl (by simp) (by decide);simp only [aK] at hS)|((with_reducible refine eG ?_);refine uA (t:=23) 2 hS underlying23 sM rfl (by decide) rfl rfl rfl nF (by simp) (a2X os) (by omega) (by unfold maxLen;omega) (fun lV c1 _ hS=>?_);simp only [aD];simp only [aK] at hS))
 have bh:=hS.dn 2 rfl;refine (hvS lV (1+os.length) c1 _ _ (by rw [List.length_cons,Nat.add_comm os.length 1];simpa [sc] using bh)).mono ?_;rintro e w' ⟨rfl,hq⟩;have hS:=hS.below hq.below hq.drawn;clear bh hvS;simp only [];have zQ:=hS.sub (H':=[.aH (Old w) w,.aB bx (.cells #[.int .i64 s.a.x,.int .i64 s.a.y,.int .i64 s.b.x,.int .i64 s.b.y] 94 (0,0))]) (by repeat (first|exact List.Sublist.refl _|apply List.Sublist.cons_cons|apply List.Sublist.cons));clear hS nF hq;have hS:=zQ;clear zQ;have yu:bN w (Old w) 2 _ _ _:=hg.weaken aC;go_wp2
 go_loopw [29] (fun v wr=>∃ k:Nat,k≤gs.length∧v=.int .i64 (k:Int)∧aA w wr [.aH (Old w) w,.aB bx (.cells #[.int .i64 s.a.x,.int .i64 s.a.y,.int .i64 s.b.x,.int .i64 s.b.y] 94 (0,0))]) (fun v _=>gs.length - (intOf v).toNat)
 case atStart=>exact⟨0,by omega,rfl,hS⟩
 case round =>
  clear hS;obtain⟨k,hk,rfl,hS⟩:=hrel
  by_cases cW:k<gs.length
  ·obtain⟨p,hp⟩:∃ p,nth g0 gs k=p:=⟨_,rfl⟩
   have hc:=eS yT g0 cW;rw [hp] at hc;obtain⟨o1,o2⟩:=qm p (by rw [← hp];exact cQ g0 gs k cW);unfold fS at o1 o2;have vW:=a0L p.x p.y
   go_wp2_with (first|(with_reducible first|refine iH underlying24 sizeOf43 yu hc fun bq oq bO=>?_|refine j9 hS isAgg43 sizeOf43 ?_|refine bH hS zeroValue43 fun bp wbp hS=>?_|refine aJ (u:=.agg #[_,_]) 2 hS sizeOf43 fun _ hS=>?_|refine bA 2 hS isAgg43 sizeOf43 ?_)|(go_at_call 92;refine (vW _ o1 o2).mono ?_;rintro e w' ⟨rfl,hq⟩;have hS:=hS.below hq.below hq.drawn))
   go_roundw
   case rel=>exact⟨k+1,by omega,rfl,hS.sb⟩
   case measure=>simp [intOf];omega
  ·obtain rfl:k=gs.length:=by omega
   clear yu
   go_wp2_with (with_reducible first|refine bH hS zeroValue25 fun qH a1h hS=>?_|refine eW 1 hS isAgg43 sizeOf43 ?_)
   refine (o6 s.a.x s.a.y _ S ia.1 ia.2 (aP.at hS aC)).mono ?_;rintro e w1 ⟨z1,S1,rfl,hq,fG⟩;have hv:=(hv.at hS aC).grow hq;have hg:=(hg.at hS aC).grow hq;replace hS:=hS.aj aC bC bD hq;obtain⟨F1,aG,-,bB,av,hS⟩:=hS;simp only []
   go_wp2_with (fail)
   have hS:=hS.iB 55 8;refine (a10 (A:=[.aB bx (.cells #[.int .i64 s.a.x,.int .i64 s.a.y,.int .i64 s.b.x,.int .i64 s.b.y] 94 (0,0))]) (prs:=[]) hS aG (ez.nil _ _) fG List.Pairwise.nil (by simp)).mono ?_;rintro e w2 ⟨rfl,lV,n1,c1,aW2,l1,cK,ps1,so1,r9,le1⟩;clear hS;have hS:=cK;clear cK;simp only [aK] at hS;simp only []
   go_wp2_with (with_reducible refine eW 1 hS isAgg43 sizeOf43 ?_)
   refine (o6 s.b.x s.b.y _ S1 ib.1 ib.2 (aP.at hS aG)).mono ?_;rintro e w3 ⟨z2,S2,rfl,aR,gS⟩;have hv:=(hv.at hS aG).grow aR;have hg:=(hg.at hS aG).grow aR;have ps1:=(ps1.at hS aG).grow aR;replace hS:=hS.aj aG av bB aR;obtain⟨F2,aQ,-,bR,bP,hS⟩:=hS;simp only []
   go_wp2_with (fail)
   refine (a10 (A:=[.aB bx (.cells #[.int .i64 s.a.x,.int .i64 s.a.y,.int .i64 s.b.x,.int .i64 s.b.y] 94 (0,0))]) hS aQ ps1 gS so1 (by simp at le1;omega)).mono ?_;rintro e w4 ⟨rfl,dU,n2,c2,aXe,l2,cK,ps2,so2,me2,le2⟩;clear hS;have hS:=cK;clear cK;simp only [aK] at hS;simp only [];go_wp2
   have me0:∀ x,x ∈ l2↔x=s.a.pt∨x=s.b.pt∨∃ t ∈ os.take 0,x ∈ rT s.sg t.sg:=by
    intro x;rw [me2,r9];simp [Gp.pt]
   have le0:l2.length≤2+2*0:=by simp at le1;omega
   clear r9 me2 le1 le2 so1 ps1 fG gS;replace me0:=Hd me0;have aJY:=fun t w' S' (eM:aP w' S') (ht:t.a.ok∧t.b.ok)=>aNg s t w' S' eM ⟨hs.1,hs.2.1⟩ ht
   go_loopw [52] (fun v wr=>∃ (k:Nat) (F S':Nat→Prop) (wq:World) (ad:Option Addr) (n c:Nat) (prs:List PR) (l:List Pt),k≤os.length∧v=.int .i64 (k:Int)∧aA w wr [.aH F wq,.aB bx (.cells #[.int .i64 s.a.x,.int .i64 s.a.y,.int .i64 s.b.x,.int .i64 s.b.y] 94 (0,0)),.aB qH (.cells #[.slice ad n c] 25 (0,0)),.row (.slice ad n c) 55 8 n (prs.flatMap pc)]∧(∀ k,S' k→F k)∧(∀ k,Old w k→F k)∧Pure w S wq S'∧bN wq S' 4 (.slice ao os.length co) os.length (os.flatMap sc)∧bN wq S' 2 (.slice ap gs.length cp) gs.length (gs.flatMap gc)∧ez wq S' prs l∧l.Pairwise Pt.lt∧Hid (∀ x,x ∈ l↔x=s.a.pt∨x=s.b.pt∨∃ t ∈ os.take k,x ∈ rT s.sg t.sg)∧l.length≤2+2*k) (fun v _=>os.length - (intOf v).toNat)
   case atStart=>exact⟨0,_,_,_,_,_,_,_,_,by omega,rfl,hS,aQ,bP,bR,hv,hg,ps2,so2,me0,le0⟩
   case round =>
    clear hS aC aG aQ bC av bP bD bB bR hv hg ps2 so2 me0 le0;obtain⟨k,F0,S0,wq,ad,n,c,prs,l,hk,rfl,hS,aC,bC,bD,hv,hg,ps,so,me,le⟩:=hrel
    by_cases cW:k<os.length
    ·obtain⟨t,ht⟩:∃ t,nth s0 os k=t:=⟨_,rfl⟩
     have hc:=eS tc s0 cW;rw [ht] at hc;have pI:=cJ t (by rw [← ht];exact cQ s0 os k cW);have dS:=hv.weaken aC;have eK:os.take (k+1)=os.take k++[t]:=by rw [← ht];exact nk s0 os k cW
     clear ht;replace eK:=Hd eK
     go_wp2_with (with_reducible first|refine iH underlying23 sizeOf94 dS hc fun bq oq bO=>?_|refine j9 hS isAgg94 sizeOf94 ?_|refine bH hS zeroValue94 fun b15 aLr hS=>?_|refine aJ (u:=.agg #[_,_,_,_]) 4 hS sizeOf94 fun _ hS=>?_|refine bA 1 hS isAgg94 sizeOf94 ?_|refine bA 4 hS isAgg94 sizeOf94 ?_)
     refine (aJY t _ S0 (aP.at hS aC) ⟨pI.1,pI.2.1⟩).mono ?_;obtain⟨M,hM⟩:∃ M,rT s.sg t.sg=M:=⟨_,rfl⟩
     have r9:∀ x,(x=s.a.pt∨x=s.b.pt∨∃ t ∈ os.take (k+1),x ∈ rT s.sg t.sg)↔x ∈ l∨x ∈ M:=by
      intro x;rw [eK.out,me.out x,← hM];simp only [List.mem_append,List.mem_singleton]
      constructor
      ·rintro (h|h|⟨u,hu|rfl,h⟩)
       ·exact .inl (.inl h)
       ·exact .inl (.inr (.inl h))
       ·exact .inl (.inr (.inr ⟨u,hu,h⟩))
       ·exact .inr h
      ·rintro ((h|h|⟨u,hu,h⟩)|h)
       ·exact .inl h
       ·exact .inr (.inl h)
       ·exact .inr (.inr ⟨u,.inl hu,h⟩)
       ·exact .inr (.inr ⟨t,.inr rfl,h⟩)
     rw [hM];clear hM dS hc pI eK me;replace r9:=Hd r9;rintro e w5 (⟨rfl,rfl,hq⟩|⟨q,z,S1,rfl,rfl,hq,hz⟩|⟨q,r,z,y,S1,rfl,rfl,hq,hz,hy⟩)
     ·have hv:=(hv.at hS aC).grow hq
      have hg:=(hg.at hS aC).grow hq;have ps:=(ps.at hS aC).grow hq;replace hS:=hS.aj aC bC bD hq;obtain⟨F1,aG,-,bB,av,hS⟩:=hS;simp only []
      go_wp2_with (with_reducible first|refine bH hS zeroValue163 fun vZ a4M hS=>?_|refine aJ (u:=.agg #[.int .i64 _,.bool _,.slice _ _ _,.bool _,.slice _ _ _,.bool _,.slice _ _ _,.bool _,.slice _ _ _,.bool _,.slice _ _ _,.bool _,.slice _ _ _,.bool _,.slice _ _ _,.bool _,.slice _ _ _]) 5 hS sizeOf163 fun _ hS=>?_|refine aU 5 hS isAgg3 ?_)
      go_roundw
      case rel=>exact⟨k+1,F1,_,_,_,_,_,_,_,by omega,rfl,hS.sb,aG,av,bB,hv,hg,ps,so,Hd (fun x=>by rw [r9.out x];simp),by omega⟩
      case measure=>simp [intOf];omega
     ·have hv:=(hv.at hS aC).grow hq
      have hg:=(hg.at hS aC).grow hq;have ps:=(ps.at hS aC).grow hq;replace hS:=hS.aj aC bC bD hq;obtain⟨F1,aG,-,bB,av,hS⟩:=hS;simp only []
      go_wp2_with (with_reducible first|refine bH hS zeroValue163 fun vZ a4M hS=>?_|refine aJ (u:=.agg #[.int .i64 _,.bool _,.slice _ _ _,.bool _,.slice _ _ _,.bool _,.slice _ _ _,.bool _,.slice _ _ _,.bool _,.slice _ _ _,.bool _,.slice _ _ _,.bool _,.slice _ _ _,.bool _,.slice _ _ _]) 5 hS sizeOf163 fun _ hS=>?_|refine aU 5 hS isAgg3 ?_|refine eW 5 hS isAgg55 sizeOf55 ?_)
      have hS:=hS.order [0,1,4,5,2,3] rfl;simp only [iw] at hS;refine (a10 (A:=[_,_,_]) hS aG ps hz so (by omega)).mono ?_;rintro e w6 ⟨rfl,uS,n3,c3,aLT,l3,cK,ps3,so3,ui,le3⟩;clear hS ps hz;have hS:=cK;clear cK;simp only [aK] at hS;replace ui:=Hd ui;simp only []
      go_wp2_with (with_reducible refine aU 3 hS isAgg3 ?_)
      go_roundw
      case rel=>exact⟨k+1,F1,_,_,_,_,_,_,_,by omega,rfl,hS.sb,aG,av,bB,hv,hg,ps3,so3,Hd (fun x=>by rw [r9.out x,ui.out x];simp),by omega⟩
      case measure=>simp [intOf];omega
     ·have hv:=(hv.at hS aC).grow hq
      have hg:=(hg.at hS aC).grow hq;have ps:=(ps.at hS aC).grow hq;replace hS:=hS.aj aC bC bD hq;obtain⟨F1,aG,-,bB,av,hS⟩:=hS;simp only []
      go_wp2_with (with_reducible first|refine bH hS zeroValue163 fun vZ a4M hS=>?_|refine aJ (u:=.agg #[.int .i64 _,.bool _,.slice _ _ _,.bool _,.slice _ _ _,.bool _,.slice _ _ _,.bool _,.slice _ _ _,.bool _,.slice _ _ _,.bool _,.slice _ _ _,.bool _,.slice _ _ _,.bool _,.slice _ _ _]) 5 hS sizeOf163 fun _ hS=>?_|refine aU 5 hS isAgg3 ?_|refine eW 5 hS isAgg55 sizeOf55 ?_)
      have hS:=hS.order [0,1,4,5,2,3] rfl;simp only [iw] at hS;refine (a10 (A:=[_,_,_]) hS aG ps hz so (by omega)).mono ?_;rintro e w6 ⟨rfl,uS,n3,c3,aLT,l3,cK,ps3,so3,ui,le3⟩;clear hS ps hz;have hS:=cK;clear cK;simp only [aK] at hS;replace ui:=Hd ui;simp only []
      go_wp2_with (with_reducible first|refine aU 3 hS isAgg3 ?_|refine eW 3 hS isAgg55 sizeOf55 ?_)
      refine (a10 (A:=[_,_,_]) hS aG ps3 hy so3 (by omega)).mono ?_;rintro e w7 ⟨rfl,ad4,n4,c4,aYP,l4,cK,ps4,so4,me4,le4⟩;clear hS ps3 hy;have hS:=cK;clear cK;simp only [aK] at hS;replace me4:=Hd me4;simp only [];go_wp2;go_roundw
      case rel=>exact⟨k+1,F1,_,_,_,_,_,_,_,by omega,rfl,hS.sb,aG,av,bB,hv,hg,ps4,so4,Hd (fun x=>by rw [r9.out x,me4.out x,ui.out x];simp [or_assoc]),by omega⟩
      case measure=>simp [intOf];omega
    ·obtain rfl:k=os.length:=by omega
     rw [List.take_length] at me;clear aJY;go_wp2
     go_loopw [76] (fun v wr=>∃ (k:Nat) (F S':Nat→Prop) (wq:World) (ad:Option Addr) (n c:Nat) (prs:List PR) (l:List Pt),k≤gs.length∧v=.int .i64 (k:Int)∧aA w wr [.aH F wq,.aB bx (.cells #[.int .i64 s.a.x,.int .i64 s.a.y,.int .i64 s.b.x,.int .i64 s.b.y] 94 (0,0)),.aB qH (.cells #[.slice ad n c] 25 (0,0)),.row (.slice ad n c) 55 8 n (prs.flatMap pc)]∧(∀ k,S' k→F k)∧(∀ k,Old w k→F k)∧Pure w S wq S'∧bN wq S' 2 (.slice ap gs.length cp) gs.length (gs.flatMap gc)∧ez wq S' prs l∧l.Pairwise Pt.lt∧Hid (∀ x,x ∈ l↔x=s.a.pt∨x=s.b.pt∨(∃ t ∈ os,x ∈ rT s.sg t.sg)∨∃ g ∈ gs.take k,x=g.pt∧cj s.sg x)∧l.length≤2+2*os.length+k) (fun v _=>gs.length - (intOf v).toNat)
     case atStart=>exact⟨0,_,_,_,_,_,_,_,_,by omega,rfl,hS,aC,bC,bD,hg,ps,so,Hd (fun x=>by rw [me.out x];simp),by omega⟩
     case round =>
      clear hS aC bC bD hv hg ps so me le;obtain⟨k,F0,S0,wq,ad,n,c,prs,l,hk,rfl,hS,aC,bC,bD,hg,ps,so,me,le⟩:=hrel
      by_cases cW:k<gs.length
      ·obtain⟨g,jK⟩:∃ g,nth g0 gs k=g:=⟨_,rfl⟩
       have hc:=eS yT g0 cW;rw [jK] at hc;have jG:=qm g (by rw [← jK];exact cQ g0 gs k cW);have ig:bQ g.x∧bQ g.y:=by have:=jG;unfold Gp.ok fS at this;unfold bQ;omega
       have yu:=hg.weaken aC;have gtk:gs.take (k+1)=gs.take k++[g]:=by rw [← jK];exact nk g0 gs k cW
       have sd:=fun w' S' eM=>a4t s g w' S' eM hs.1 hs.2.1 jG
       obtain⟨c1,ef⟩:∃ c1,(decide (((min s.a.x s.b.x:Int):Rat)≤g.pt.x∧g.pt.x≤((max s.a.x s.b.x:Int):Rat)) && decide (((min s.a.y s.b.y:Int):Rat)≤g.pt.y∧g.pt.y≤((max s.a.y s.b.y:Int):Rat)))=c1:=⟨_,rfl⟩
       have pn:∀ z w' S',aP w' S'→dh w' S' z g.pt→Calls prog 99 #[.agg #[.int .i64 s.bx.x0,.int .i64 s.bx.y0,.int .i64 s.bx.x1,.int .i64 s.bx.y1],.agg #[.bool z.x.num.neg,.slice z.x.num.ad z.x.num.n z.x.num.cap,.bool z.x.less.neg,.slice z.x.less.ad z.x.less.n z.x.less.cap,.bool z.y.num.neg,.slice z.y.num.ad z.y.num.n z.y.num.cap,.bool z.y.less.neg,.slice z.y.less.ad z.y.less.n z.y.less.cap]] w' fun e uG=>e=.returned (.bool c1)∧Pure w' S' uG S':=fun z w' S' eM hz=>by
        have hb:bQ s.bx.x0∧bQ s.bx.y0∧bQ s.bx.x1∧bQ s.bx.y1:=by unfold Sz.bx;simp only;unfold bQ at *;omega
        rw [← ef];exact aO4 s.bx z g.pt w' S' hb.1 hb.2.1 hb.2.2.1 hb.2.2.2 hz eM
       have bc:=fun w=>aEq s w
       have pr:=aVg s g;rw [ef] at pr
       have r9:∀ x,(x=s.a.pt∨x=s.b.pt∨(∃ t ∈ os,x ∈ rT s.sg t.sg)∨∃ g ∈ gs.take (k+1),x=g.pt∧cj s.sg x)↔x ∈ l∨(x=g.pt∧(c1=true∧dQ s.a s.b g=0)):=by
        intro x;rw [gtk,me.out x,← pr];simp only [List.mem_append,List.mem_singleton]
        constructor
        ·rintro (h|h|h|⟨u,hu|rfl,h⟩)
         ·exact .inl (.inl h)
         ·exact .inl (.inr (.inl h))
         ·exact .inl (.inr (.inr (.inl h)))
         ·exact .inl (.inr (.inr (.inr ⟨u,hu,h⟩)))
         ·obtain⟨rfl,h⟩:=h
          exact .inr ⟨rfl,h⟩
        ·rintro ((h|h|h|⟨u,hu,h⟩)|⟨rfl,h⟩)
         ·exact .inl h
         ·exact .inr (.inl h)
         ·exact .inr (.inr (.inl h))
         ·exact .inr (.inr (.inr ⟨u,.inl hu,h⟩))
         ·exact .inr (.inr (.inr ⟨g,.inr rfl,rfl,h⟩))
       replace r9:=Hd r9;have lX:=@aAz (dQ s.a s.b g);obtain⟨d1,eo⟩:∃ d1,gQ (dQ s.a s.b g)=d1:=⟨_,rfl⟩;rw [eo] at sd lX;clear ef jK eo gtk me pr;replace lX:=Hd lX
       go_wp2_with (with_reducible first|refine iH underlying24 sizeOf43 yu hc fun bq oq bO=>?_|refine j9 hS isAgg43 sizeOf43 ?_|refine bH hS zeroValue43 fun b18 aPl hS=>?_|refine aJ (u:=.agg #[_,_]) 4 hS sizeOf43 fun _ hS=>?_)
       clear yu hc;refine dB [.r 0,.r 2,.e 1,.e 3,.e 4,.p 5,.r 6,.r 7,.e 8,.p 9,.p 10] [] hS fun w1 hS=>?_
       have hC:=hS
       repeat (with_reducible first|refine cz 1 isAgg94 sizeOf94 ?_|refine cz 4 isAgg43 sizeOf43 ?_)
       refine aZ ?_
       go_wp2_with (fail)
       refine (bc _).mono ?_;rintro e w' ⟨rfl,hq⟩;simp only [];go_step;have hS:=hS.below hq.below hq.drawn;have hC:=hC.below hq.below hq.drawn;refine aX hC ?_;refine aM ?_;refine aZ ?_
       go_wp2_with (fail)
       refine (o6 g.x g.y _ S0 ig.1 ig.2 (aP.at hS aC)).mono ?_;rintro e w' ⟨z,S1,rfl,az,hz⟩;simp only [];go_step;have hg:=(hg.at hS aC).grow az;have ps:=(ps.at hS aC).grow az;have hC:=hC.below az.below az.drawn;replace hS:=hS.aj aC bC bD az;obtain⟨F1,aG,-,bB,av,hS⟩:=hS;refine aX hC ?_;refine aM ?_;refine aZ ?_
       go_wp2_with (fail)
       refine (pn z _ S1 (aP.at hS aG) (hz.at hS aG)).mono ?_;rintro e w' ⟨rfl,aR⟩;simp only [];go_step;have hg:=(hg.at hS aG).grow aR;have ps:=(ps.at hS aG).grow aR;have hC:=hC.below aR.below aR.drawn;replace hS:=hS.aj aG av bB aR;obtain⟨F2,aQ,-,bR,bP,hS⟩:=hS;refine aX hC ?_;cases c1
       ·refine aM ?_
        refine aZ ?_;refine sf rfl ?_;refine aX hC ?_;refine aM ?_;refine bE ?_;clear hC;go_wp2;go_roundw
        case rel=>exact⟨k+1,F2,_,_,_,_,_,_,_,by omega,rfl,hS.sb,aQ,bP,bR,hg,ps,so,Hd (fun x=>by rw [r9.out x];simp),by omega⟩
        case measure=>simp [intOf];omega
       ·repeat (with_reducible first|refine cz 1 isAgg94 sizeOf94 ?_|refine cz 4 isAgg43 sizeOf43 ?_|refine bU ?_)
        refine aZ ?_
        go_wp2_with (fail)
        refine (sd _ S1 (aP.at hS aQ)).mono ?_;rintro e w' ⟨rfl,bI⟩;simp only [];go_step;have hg:=(hg.at hS aQ).grow bI;have ps:=(ps.at hS aQ).grow bI;have hC:=hC.below bI.below bI.drawn;replace hS:=hS.aj aQ bP bR bI;obtain⟨F3,bM,-,dP,dE,hS⟩:=hS;refine aX hC ?_
        by_cases qv:d1=0
        ·have eo:(d1 == 0)=true:=by simp [qv]
         have fG:=lX.out.1 qv;clear qv lX;replace fG:=Hd fG;refine aM ?_;refine bE ?_;clear hC
         go_wp2_with (with_reducible refine bA 4 hS isAgg43 sizeOf43 ?_)
         refine (o6 g.x g.y _ S1 ig.1 ig.2 (aP.at hS bM)).mono ?_;rintro e w8 ⟨z2,S2,rfl,cY,gS⟩;have hg:=(hg.at hS bM).grow cY;have ps:=(ps.at hS bM).grow cY;replace hS:=hS.aj bM dE dP cY;obtain⟨F4,bZ,-,gN,gG,hS⟩:=hS;simp only []
         go_wp2_with (fail)
         have hS:=hS.order [0,1,4,2,3] rfl;simp only [iw] at hS;refine (a10 (A:=[_,_]) hS bZ ps gS so (by omega)).mono ?_;rintro e w6 ⟨rfl,uS,n3,c3,aLT,l3,cK,ps3,so3,ui,le3⟩;clear hS ps gS;have hS:=cK;clear cK;simp only [aK] at hS;replace ui:=Hd ui;simp only [];go_wp2;go_roundw
         case rel=>exact⟨k+1,F4,_,_,_,_,_,_,_,by omega,rfl,hS.sb,bZ,gG,gN,hg,ps3,so3,Hd (fun x=>by rw [r9.out x,ui.out x];simp [fG.out,Gp.pt]),by omega⟩
         case measure=>simp [intOf];omega
        ·have eo:(d1 == 0)=false:=by simp [qv]
         have fG:¬ dQ s.a s.b g=0:=fun h=>qv (lX.out.2 h)
         clear qv lX;replace fG:=Hd fG;refine aM ?_;refine bE ?_;clear hC;go_wp2;go_roundw
         case rel=>exact⟨k+1,F3,_,_,_,_,_,_,_,by omega,rfl,hS.sb,bM,dE,dP,hg,ps,so,Hd (fun x=>by rw [r9.out x];simp [fG.out]),by omega⟩
         case measure=>simp [intOf];omega
      ·obtain rfl:k=gs.length:=by omega
       rw [List.take_length] at me;replace me:=Hd me
       go_wp2_with (with_reducible refine aU 2 hS isAgg25 ?_)
       refine bodyPost_ret (results_tmp2 rfl _ _ _) rfl ?_
       have hn:n=l.length:=by
        have:=(hS.dn 3 rfl).1;rw [nB gF,ps.len] at this;omega
       subst hn;exact⟨ad,l.length,c,prs,l,_,rfl,hS.a5W bC aC bD (bW (i:=2) rfl),⟨(hS.dn 3 rfl).weaken fun k h=>.inr h,(ps.at hS aC).weaken fun k h=>.inl h⟩,so,me.out,by omega⟩
theorem aWr (x y:Int):Int.gcd y (Int.tmod x y)=Int.gcd x y:=by
 unfold Int.gcd;rw [Int.natAbs_tmod,Nat.gcd_comm,← Nat.gcd_rec,Nat.gcd_comm]
theorem aOx {x y:Int} (hy:y≠0):(Int.tmod x y).natAbs<y.natAbs:=by
 rw [Int.natAbs_tmod];exact Nat.mod_lt _ (by omega)
def fN (s:Sz):Gp:=if s.b.x - s.a.x<0∨(s.b.x - s.a.x=0∧s.b.y - s.a.y<0) then ⟨-((s.b.x - s.a.x).tdiv (Int.gcd (s.b.x - s.a.x) (s.b.y - s.a.y):Nat)),-((s.b.y - s.a.y).tdiv (Int.gcd (s.b.x - s.a.x) (s.b.y - s.a.y):Nat))⟩
 else ⟨(s.b.x - s.a.x).tdiv (Int.gcd (s.b.x - s.a.x) (s.b.y - s.a.y):Nat),(s.b.y - s.a.y).tdiv (Int.gcd (s.b.x - s.a.x) (s.b.y - s.a.y):Nat)⟩
theorem aFK (a:Int) (n:Nat):(a.tdiv (n:Int)).natAbs≤a.natAbs:=by
 rw [Int.natAbs_tdiv];exact Nat.div_le_self _ _
theorem aAc (a b:Int) (w:World) (ha:a.natAbs<1099511627776) (hb:b.natAbs<1099511627776) :
 Calls prog 104 #[.int .i64 a,.int .i64 b] w fun e w'=>e=.returned (.int .i64 (Int.gcd a b:Nat))∧Pure w (fun _=>False) w' (fun _=>False):=by
 have hS:=aA.start w
 go_enter func104,ntmps104
 go_wp2
 go_loopw [0,1] (fun va vb wr=>∃ x y:Int,va=.int .i64 x∧vb=.int .i64 y∧aA w wr [.aH (Old w) w]∧x.natAbs<1099511627776∧y.natAbs<1099511627776∧Int.gcd x y=Int.gcd a b) (fun va vb _=>(intOf vb).natAbs)
 case atStart=>exact⟨a,b,rfl,rfl,hS,ha,hb,rfl⟩
 case round =>
  clear hS ha hb;obtain⟨x,y,rfl,rfl,hS,hx,hy,hg⟩:=hrel
  by_cases h0:y=0
  ·subst h0
   have qK:x.natAbs=Int.gcd a b:=by rw [← hg,Int.gcd_zero]
   have hm:max x (-x)=((x.natAbs:Nat):Int):=by omega
   have hw:IntKind.i64.wrap (-x) = -x:=w6;clear hg;replace qK:=Hd qK;go_wp2;go_ret;exact⟨by rw [← qK.out];rfl,hS.pure _⟩
  ·have hyf:(y == 0)=false:=by simp [h0]
   have hg3:=aWr x y;have hb3:=@aOx x y h0;have hw:IntKind.i64.wrap (Int.tmod x y)=Int.tmod x y:=w6;replace hg:=Hd hg;replace hg3:=Hd hg3;have hb4:(x.tmod y).natAbs<1099511627776:=by omega
   replace hb4:=Hd hb4;replace hb3:=Hd hb3;go_wp2;refine dB [.p 0,.p 1,.p 2,.p 3,.p 4,.p 5] [] hS fun w1 hS=>?_
   refine aM ?_;refine bE ?_;go_wp2;go_roundw
   case rel=>exact⟨y,x.tmod y,rfl,rfl,hS,hy,hb4.out,hg3.out.trans hg.out⟩
   case measure=>exact hb3.out
theorem aUu (s:Sz) (w:World) (h:s.ok):Calls prog 52 #[.agg #[.int .i64 s.a.x,.int .i64 s.a.y,.int .i64 s.b.x,.int .i64 s.b.y]] w fun e w'=>e=.returned (.agg #[.int .i64 (fN s).x,.int .i64 (fN s).y])∧Pure w (fun _=>False) w' (fun _=>False):=by
 obtain⟨⟨ax,ay⟩,⟨bx,by'⟩⟩:=s;obtain⟨ha,hb,bJ⟩:=h;unfold Gp.ok fS at ha hb;simp only at ha hb;have wi:¬ (bx - ax=0∧by' - ay=0):=fun h=>bJ (by have h1:=h.1;have h2:=h.2;simp only [Gp.mk.injEq];omega)
 clear bJ;have w1:IntKind.i64.wrap (bx - ax)=bx - ax:=w6;have w2:IntKind.i64.wrap (by' - ay)=by' - ay:=w6
 have w3:IntKind.i64.wrap (-(bx - ax)) = -(bx - ax):=w6;have w4:IntKind.i64.wrap (-(by' - ay)) = -(by' - ay):=w6;obtain⟨D,hD⟩:∃ D,fN ⟨⟨ax,ay⟩,⟨bx,by'⟩⟩=D:=⟨_,rfl⟩;rw [hD];unfold fN at hD;simp only at hD;obtain⟨X,hX⟩:∃ X,X=bx - ax:=⟨_,rfl⟩;obtain⟨Y,hY⟩:∃ Y,Y=by' - ay:=⟨_,rfl⟩
 rw [← hX] at w1 w3 hD wi;rw [← hY] at w2 w4 hD wi;have bX:X.natAbs<1099511627776:=by omega
 have bY:Y.natAbs<1099511627776:=by omega
 have mA:((Int.gcd X Y:Nat):Int)≠0:=by
  intro h;have:=Int.gcd_eq_zero_iff.1 (by omega:Int.gcd X Y=0);exact wi this
 have hgn:((Int.gcd (-X) (-Y):Nat):Int)=((Int.gcd X Y:Nat):Int):=by simp
 have q1:=fun a=>aFK a (Int.gcd X Y)
 obtain⟨G,hG⟩:∃ G:Int,G=((Int.gcd X Y:Nat):Int):=⟨_,rfl⟩;rw [← hG] at hD mA hgn;simp only [← hG] at q1;have q2:∀ a:Int,a.natAbs<1099511627776→IntKind.i64.wrap (a.tdiv G)=a.tdiv G:=fun a h=>by have:=q1 a;exact w6
 have q3:=q2 X bX;have q4:=q2 Y bY;have q5:IntKind.i64.wrap (-(X.tdiv G)) = -(X.tdiv G):=by have:=q1 X;exact w6
 have q6:IntKind.i64.wrap (-(Y.tdiv G)) = -(Y.tdiv G):=by have:=q1 Y;exact w6
 have hG0:(G == 0)=false:=by simpa using mA
 replace hG:=Hd hG;replace hX:=Hd hX;replace hY:=Hd hY;replace hgn:=Hd hgn;clear q1 q2 ha hb wi;have hS:=aA.start w
 go_enter func52,ntmps52
 go_wp2_with (with_reducible first|refine cI hS fun b1 wb1 hS=>?_|refine bH hS zeroValue43 fun b2 ri hS=>?_)
 refine dB [.p 0,.p 1,.r 2,.p 3,.p 4,.r 5,.p 6,.p 7,.p 8,.r 9,.p 10,.p 11,.r 12,.p 13,.p 14,.p 15] [] hS fun w1 hS=>?_
 repeat (with_reducible first|refine cZ 1 isAgg3 ?_|refine bU ?_)
 refine bE ?_;rw [← hX.out,← hY.out]
 by_cases hc:X<0∨(X=0∧Y<0)
 ·rw [if_pos hc] at hD
  replace hD:=Hd hD
  rcases hc with h1|⟨h1,h2⟩
  ·have eo:decide (X<0)=true:=by simpa using h1
   replace h1:=Hd h1
   go_wp2_with (fail)
   refine (aAc (-X) (-Y) _ (by omega) (by omega)).mono ?_;rintro e w' ⟨rfl,hq⟩;have hS:=hS.below hq.below hq.drawn;simp only [];rw [hgn.out];go_wp2;refine dB [.p 0,.p 1,.p 2,.p 3,.p 4,.p 5,.p 6,.m 7] [7] hS fun w1 hS=>?_
   refine aM ?_;refine dC ?_
   (with_reducible refine aJ 2 hS sizeOf43 fun _ hS=>?_)
   refine dD ?_;refine bE ?_;go_wp2;exact fE 2 hS rfl rfl rfl isAgg43 sizeOf43 rfl rfl ⟨by first|(rw [← hD.out];done),hS.pure _⟩
  ·have eo:decide (X<0)=false:=by simp [h1]
   have fH:(X == 0)=true:=by simp [h1]
   have jI:decide (Y<0)=true:=by simpa using h2
   replace h1:=Hd h1;replace h2:=Hd h2
   go_wp2_with (fail)
   refine (aAc (-X) (-Y) _ (by omega) (by omega)).mono ?_;rintro e w' ⟨rfl,hq⟩;have hS:=hS.below hq.below hq.drawn;simp only [];rw [hgn.out];go_wp2;refine dB [.p 0,.p 1,.p 2,.p 3,.p 4,.p 5,.p 6,.m 7] [7] hS fun w1 hS=>?_
   refine aM ?_;refine dC ?_
   (with_reducible refine aJ 2 hS sizeOf43 fun _ hS=>?_)
   refine dD ?_;refine bE ?_;go_wp2;exact fE 2 hS rfl rfl rfl isAgg43 sizeOf43 rfl rfl ⟨by first|(rw [← hD.out];done),hS.pure _⟩
 ·rw [if_neg hc] at hD
  replace hD:=Hd hD;have h1:decide (X<0)=false:=by simp;omega
  by_cases h0:X=0
  ·have fH:(X == 0)=true:=by simp [h0]
   have jI:decide (Y<0)=false:=by simp;omega
   replace h0:=Hd h0;replace hc:=Hd hc
   go_wp2_with (fail)
   refine (aAc (X) (Y) _ (by omega) (by omega)).mono ?_;rintro e w' ⟨rfl,hq⟩;have hS:=hS.below hq.below hq.drawn;simp only [];rw [← hG.out];go_wp2;refine dB [.p 0,.p 1,.p 2,.p 3,.p 4,.p 5,.p 6,.m 7] [7] hS fun w1 hS=>?_
   refine aM ?_;refine dC ?_
   (with_reducible refine aJ 2 hS sizeOf43 fun _ hS=>?_)
   refine dD ?_;refine bE ?_;go_wp2;exact fE 2 hS rfl rfl rfl isAgg43 sizeOf43 rfl rfl ⟨by first|(rw [← hD.out];done),hS.pure _⟩
  ·have fH:(X == 0)=false:=by simp [h0]
   replace h0:=Hd h0;replace hc:=Hd hc
   go_wp2_with (fail)
   refine (aAc (X) (Y) _ (by omega) (by omega)).mono ?_;rintro e w' ⟨rfl,hq⟩;have hS:=hS.below hq.below hq.drawn;simp only [];rw [← hG.out];go_wp2;refine dB [.p 0,.p 1,.p 2,.p 3,.p 4,.p 5,.p 6,.m 7] [7] hS fun w1 hS=>?_
   refine aM ?_;refine dC ?_
   (with_reducible refine aJ 2 hS sizeOf43 fun _ hS=>?_)
   refine dD ?_;refine bE ?_;go_wp2;exact fE 2 hS rfl rfl rfl isAgg43 sizeOf43 rfl rfl ⟨by first|(rw [← hD.out];done),hS.pure _⟩
end Go.Hp
