/- Texts for the walk of the law: D2 D3 D4 D5 D6 D7 D8 D9 D10. -/
import Derived.LoopN
import Derived.Test.YtihpoboahbpaiaaGreatR05
set_option maxRecDepth 100000
set_option maxHeartbeats 16000000
set_option linter.unusedVariables false
set_option linter.unusedSimpArgs false
namespace Go.Hp
open Go Go.RowKit Go.Proofs.Tryz
theorem a0L (x y:Int) (w:World) (hx:-1073741824≤x∧x≤1073741824) (hy:-1073741824≤y∧y≤1073741824) :
 Calls prog 39 #[.agg #[.int .i64 x,.int .i64 y]] w fun e w'=>e=.returned (.int .i64 0)∧Pure w (fun _=>False) w' (fun _=>False):=by
 have hS:=aA.start w;have hxd:decide (-1073741824≤x∧x≤1073741824)=true:=by simpa using hx
 have hyd:decide (-1073741824≤y∧y≤1073741824)=true:=by simpa using hy
 clear hx hy
 go_enter func39,ntmps39
 go_wp2_with (with_reducible first|refine cI hS fun bx cu hS=>?_|refine aU 1 hS isAgg3 ?_)
 try simp only [fA]
 go_loopw [10] (fun v wr=>∃ k:Nat,k≤2∧v=.int .i64 (k:Int)∧aA w wr [.aH (Old w) w,.aB bx (.cells #[.int .i64 x,.int .i64 y] 29 (0,0))]) (fun v _=>2 - (intOf v).toNat)
 case atStart=>exact⟨0,by omega,rfl,hS⟩
 case round =>
  clear hS;obtain⟨k,hk,rfl,hS⟩:=hrel;have xP:k=0∨k=1∨k=2:=by omega
  rcases xP with rfl|rfl|rfl
  ·go_wp2_with (first|((with_reducible refine wR (T:=84) ?_);refine ck rfl (zT (i:=0) (T:=84) (E:=3) underlying84 sizeOf3 isAgg3 rfl rfl rfl (by decide) rfl ?_);simp only [aD])|(go_at_call 90;refine (aIg _ _ _ _).mono ?_;rintro e w' ⟨rfl,rfl⟩;rw [hxd]))
   go_roundw
   case rel=>exact⟨1,by omega,rfl,hS⟩
   case measure=>simp [intOf]
  ·go_wp2_with (first|((with_reducible refine wR (T:=84) ?_);refine ck rfl (zT (i:=1) (T:=84) (E:=3) underlying84 sizeOf3 isAgg3 rfl rfl rfl (by decide) rfl ?_);simp only [aD])|(go_at_call 90;refine (aIg _ _ _ _).mono ?_;rintro e w' ⟨rfl,rfl⟩;rw [hyd]))
   go_roundw
   case rel=>exact⟨2,by omega,rfl,hS⟩
   case measure=>simp [intOf]
  ·go_wp2
   go_ret;exact⟨rfl,hS.pure _⟩
structure aEL where
 x0:Int
 y0:Int
 x1:Int
 y1:Int
theorem aR2 (a b:aEL) (w:World) :
 Calls prog 170 #[.agg #[.int .i64 a.x0,.int .i64 a.y0,.int .i64 a.x1,.int .i64 a.y1],.agg #[.int .i64 b.x0,.int .i64 b.y0,.int .i64 b.x1,.int .i64 b.y1]] w fun e w'=>e=.returned (.bool (decide (max a.x0 b.x0≤min a.x1 b.x1∧max a.y0 b.y0≤min a.y1 b.y1)))∧Pure w (fun _=>False) w' (fun _=>False):=by
 have hS:=aA.start w
 by_cases h1:max a.x0 b.x0≤min a.x1 b.x1
 ·have sI:decide (max a.x0 b.x0≤min a.x1 b.x1)=true:=by simpa using h1
  have hq:decide (max a.x0 b.x0≤min a.x1 b.x1∧max a.y0 b.y0≤min a.y1 b.y1)=decide (max a.y0 b.y0≤min a.y1 b.y1):=by simp [h1]
  rw [hq];clear hq h1
  go_enter func170,ntmps170
  go_wp2_with (with_reducible first|refine cI hS fun bx cu hS=>?_|refine aU 1 hS isAgg3 ?_|refine aU 2 hS isAgg3 ?_)
  go_ret;exact⟨rfl,hS.pure _⟩
 ·have sI:decide (max a.x0 b.x0≤min a.x1 b.x1)=false:=by simpa using h1
  have hq:decide (max a.x0 b.x0≤min a.x1 b.x1∧max a.y0 b.y0≤min a.y1 b.y1)=false:=by simp [h1]
  rw [hq];clear hq h1
  go_enter func170,ntmps170
  go_wp2_with (with_reducible first|refine cI hS fun bx cu hS=>?_|refine aU 1 hS isAgg3 ?_|refine aU 2 hS isAgg3 ?_)
  go_ret;exact⟨rfl,hS.pure _⟩
theorem aO4 (b:aEL) (p:PR) (q:Pt) (w:World) (S:Nat→Prop) (h0:bQ b.x0) (h1:bQ b.y0) (h2:bQ b.x1) (h3:bQ b.y1) (hp:dh w S p q) (hL:aP w S) :
 Calls prog 120 #[.agg #[.int .i64 b.x0,.int .i64 b.y0,.int .i64 b.x1,.int .i64 b.y1],.agg #[.bool p.x.num.neg,.slice p.x.num.ad p.x.num.n p.x.num.cap,.bool p.x.less.neg,.slice p.x.less.ad p.x.less.n p.x.less.cap,.bool p.y.num.neg,.slice p.y.num.ad p.y.num.n p.y.num.cap,.bool p.y.less.neg,.slice p.y.less.ad p.y.less.n p.y.less.cap]] w fun e w'=>e=.returned (.bool (decide ((b.x0:Rat)≤q.x∧q.x≤(b.x1:Rat)) && decide ((b.y0:Rat)≤q.y∧q.y≤(b.y1:Rat))))∧Pure w S w' S:=by
 obtain⟨hS,aC,bC,bD⟩:=eR hL;obtain⟨c1,ef⟩:∃ c1,decide ((b.x0:Rat)≤q.x∧q.x≤(b.x1:Rat))=c1:=⟨_,rfl⟩;obtain⟨c2,iu⟩:∃ c2,decide ((b.y0:Rat)≤q.y∧q.y≤(b.y1:Rat))=c2:=⟨_,rfl⟩;rw [ef,iu];replace ef:=Hd ef;replace iu:=Hd iu;cases c1
 ·go_enter func120,ntmps120
  go_wp2_with (with_reducible refine cI hS fun bb wbb hS=>?_)
  refine gI [.p 0,.p 1,.r 2,.p 4,.r 5,.p 6,.p 7,.r 8,.e 3,.e 9,.e 10,.p 11,.p 12,.p 13,.r 14,.p 16,.r 17,.p 18,.p 19,.r 20,.e 15,.e 21,.e 22,.p 23,.p 24] [] (fun w'=>aA w w' _) (by kernel_rfl) (by as_aux_lemma=>kernel_rfl) hS.drew (fun w1 hS=>?_);have hC:=hS
  repeat (with_reducible first|refine cZ 1 isAgg3 ?_|refine tf 2 isAgg54 sizeOf54 ?_|refine bU ?_)
  refine aZ ?_
  go_wp2_with (fail)
  refine (x8 b.x0 _ S h0 (aP.at hS aC)).mono ?_;rintro e w' ⟨u,S1,rfl,hq,hu⟩;simp only [];go_step;have hp:=(hp.at hS aC).grow hq;have hC:=hC.below hq.below hq.drawn;replace hS:=hS.aj aC bC bD hq;obtain⟨F1,aG,-,bB,av,hS⟩:=hS;refine aX hC ?_;refine aM ?_;refine aZ ?_
  go_wp2_with (fail)
  refine (x8 b.x1 _ S1 h2 (aP.at hS aG)).mono ?_;rintro e w' ⟨v,S2,rfl,aR,hv⟩;simp only [];go_step;have hp:=(hp.at hS aG).grow aR;have hu:=(hu.at hS aG).grow aR;have hC:=hC.below aR.below aR.drawn;replace hS:=hS.aj aG av bB aR;obtain⟨F2,aQ,-,bR,bP,hS⟩:=hS;refine aX hC ?_;refine aM ?_;refine aZ ?_
  go_wp2_with (fail)
  refine (aCH u p.x v _ _ _ _ S2 (hu.at hS aQ) (hp.x.at hS aQ) (hv.at hS aQ) (aP.at hS aQ)).mono ?_;rintro e w' ⟨rfl,bI⟩;simp only [];go_step;have hp:=(hp.at hS aQ).grow bI;rw [ef.out];have hC:=hC.below bI.below bI.drawn;replace hS:=hS.aj aQ bP bR bI;obtain⟨F3,bM,-,dP,dE,hS⟩:=hS;refine aX hC ?_;refine aM ?_;refine aZ ?_;refine sf rfl ?_;refine aX hC ?_;refine aM ?_;refine aZ ?_;refine sf rfl ?_;refine aX hC ?_;refine aM ?_;refine aZ ?_;refine sf rfl ?_;refine aX hC ?_;refine aM ?_;refine bE ?_;go_wp2;go_ret;exact⟨by simp,(dP.step hS dE bM).back⟩
 ·go_enter func120,ntmps120
  go_wp2_with (with_reducible refine cI hS fun bb wbb hS=>?_)
  refine gI [.p 0,.p 1,.r 2,.p 4,.r 5,.p 6,.p 7,.r 8,.e 3,.e 9,.e 10,.p 11,.p 12,.p 13,.r 14,.p 16,.r 17,.p 18,.p 19,.r 20,.e 15,.e 21,.e 22,.p 23,.p 24] [] (fun w'=>aA w w' _) (by kernel_rfl) (by as_aux_lemma=>kernel_rfl) hS.drew (fun w1 hS=>?_);have hC:=hS
  repeat (with_reducible first|refine cZ 1 isAgg3 ?_|refine tf 2 isAgg54 sizeOf54 ?_|refine bU ?_)
  refine aZ ?_
  go_wp2_with (fail)
  refine (x8 b.x0 _ S h0 (aP.at hS aC)).mono ?_;rintro e w' ⟨u,S1,rfl,hq,hu⟩;simp only [];go_step;have hp:=(hp.at hS aC).grow hq;have hC:=hC.below hq.below hq.drawn;replace hS:=hS.aj aC bC bD hq;obtain⟨F1,aG,-,bB,av,hS⟩:=hS;refine aX hC ?_;refine aM ?_;refine aZ ?_
  go_wp2_with (fail)
  refine (x8 b.x1 _ S1 h2 (aP.at hS aG)).mono ?_;rintro e w' ⟨v,S2,rfl,aR,hv⟩;simp only [];go_step;have hp:=(hp.at hS aG).grow aR;have hu:=(hu.at hS aG).grow aR;have hC:=hC.below aR.below aR.drawn;replace hS:=hS.aj aG av bB aR;obtain⟨F2,aQ,-,bR,bP,hS⟩:=hS;refine aX hC ?_;refine aM ?_;refine aZ ?_
  go_wp2_with (fail)
  refine (aCH u p.x v _ _ _ _ S2 (hu.at hS aQ) (hp.x.at hS aQ) (hv.at hS aQ) (aP.at hS aQ)).mono ?_;rintro e w' ⟨rfl,bI⟩;simp only [];go_step;have hp:=(hp.at hS aQ).grow bI;rw [ef.out];have hC:=hC.below bI.below bI.drawn;replace hS:=hS.aj aQ bP bR bI;obtain⟨F3,bM,-,dP,dE,hS⟩:=hS;refine aX hC ?_;refine aM ?_
  repeat (with_reducible first|refine cZ 1 isAgg3 ?_|refine tf 2 isAgg54 sizeOf54 ?_|refine bU ?_)
  refine aZ ?_
  go_wp2_with (fail)
  refine (x8 b.y0 _ S2 h1 (aP.at hS bM)).mono ?_;rintro e w' ⟨u2,S4,rfl,cY,hu⟩;simp only [];go_step;have hp:=(hp.at hS bM).grow cY;have hC:=hC.below cY.below cY.drawn;replace hS:=hS.aj bM dE dP cY;obtain⟨F4,bZ,-,gN,gG,hS⟩:=hS;refine aX hC ?_;refine aM ?_;refine aZ ?_
  go_wp2_with (fail)
  refine (x8 b.y1 _ S4 h3 (aP.at hS bZ)).mono ?_;rintro e w' ⟨v2,S5,rfl,gh,hv⟩;simp only [];go_step;have hp:=(hp.at hS bZ).grow gh;have hu:=(hu.at hS bZ).grow gh;have hC:=hC.below gh.below gh.drawn;replace hS:=hS.aj bZ gG gN gh;obtain⟨F5,cG,-,gR,ff,hS⟩:=hS;refine aX hC ?_;refine aM ?_;refine aZ ?_
  go_wp2_with (fail)
  refine (aCH u2 p.y v2 _ _ _ _ S5 (hu.at hS cG) (hp.y.at hS cG) (hv.at hS cG) (aP.at hS cG)).mono ?_;rintro e w' ⟨rfl,lT⟩;simp only [];go_step;rw [iu.out];have hC:=hC.below lT.below lT.drawn;replace hS:=hS.aj cG ff gR lT;obtain⟨F6,eO,-,kY,j4,hS⟩:=hS;refine aX hC ?_;refine aM ?_;refine bE ?_;go_wp2;go_ret;exact⟨by simp,(kY.step hS j4 eO).back⟩
theorem tk {a:Int} {n:Nat} (g:Nat) (h:a.natAbs<n):(a / (g:Int)).natAbs<n:=Nat.lt_of_le_of_lt (a1i a g) h
theorem Bq.mul {j k:Nat} {a b:Rat} (ha:Bq j a) (hb:Bq k b):Bq (j+k) (a*b):=by
 obtain⟨h1,h2⟩:=aGU a b
 constructor
 ·rw [h1,Int.natAbs_mul];exact sL (tk _ ha.1) (tk _ hb.1)
 ·have h3:((a*b).den:Int).natAbs<2 ^ (j+k):=by
   rw [h2,Int.natAbs_mul];exact sL (tk _ (by simpa using ha.2)) (tk _ (by simpa using hb.2))
  simpa using h3
theorem Bq.add {j k:Nat} {a b:Rat} (ha:Bq j a) (hb:Bq k b):Bq (j+k+1) (a+b):=by
 have h:=aFO a b;have hda:=a.den_pos;have hdb:=b.den_pos;obtain⟨x,hx⟩:∃ x,(b.den:Int) / (Int.gcd a.den b.den:Nat)=x:=⟨_,rfl⟩;obtain⟨y,hy⟩:∃ y,(a.den:Int) / (Int.gcd a.den b.den:Nat)=y:=⟨_,rfl⟩;have hxb:x.natAbs<2 ^ k:=by rw [← hx];exact tk _ (by simpa using hb.2)
 have hyb:y.natAbs<2 ^ j:=by rw [← hy];exact tk _ (by simpa using ha.2)
 have iJ:0<y:=by
  rw [← hy];have h1:((Int.gcd a.den b.den:Nat):Int) ∣ (a.den:Int):=Int.gcd_dvd_left ..;obtain⟨e,he⟩:=h1
  have hg:0<((Int.gcd a.den b.den:Nat):Int):=by
   have:Int.gcd a.den b.den≠0:=fun h0=>by rw [h0] at he;simp at he;omega
   omega
  refine Int.ediv_pos_of_pos_of_dvd (by omega) (by omega) (Int.gcd_dvd_left ..)
 rw [hx,hy] at h;obtain⟨e1,e2⟩:=a5i (a:=a.num*x+b.num*y) (b:=y*b.den) (Int.mul_pos iJ (by omega));rw [h] at e1 e2;have b1:=sL ha.1 hxb;have b2:=sL hyb hb.1;have b3:(2:Nat) ^ (j+k+1)=2 ^ (j+k)+2 ^ (j+k):=by rw [Nat.pow_succ];omega
 constructor
 ·rw [e1]
  refine tk _ ?_;have:(a.num*x+b.num*y).natAbs≤(a.num*x).natAbs+(b.num*y).natAbs:=Int.natAbs_add_le _ _;rw [Int.natAbs_mul,Int.natAbs_mul,Nat.mul_comm b.num.natAbs] at this;omega
 ·have h3:((a+b).den:Int).natAbs<2 ^ (j+k+1):=by
   rw [e2];refine tk _ ?_;rw [Int.natAbs_mul];have:=sL hyb (show (b.den:Int).natAbs<2 ^ k by simpa using hb.2);omega
  simpa using h3
theorem Bq.sub {j k:Nat} {a b:Rat} (ha:Bq j a) (hb:Bq k b):Bq (j+k+1) (a - b):=by
 rw [Rat.sub_eq_add_neg];exact ha.add hb.neg
theorem Bq.int {k:Nat} {n:Int} (hk:1≤k) (h:n.natAbs<2 ^ k):Bq k (n:Rat):=by
 refine⟨by simpa using h,?_⟩;have:2 ^ 1≤2 ^ k:=Nat.pow_le_pow_right (by decide) hk;simp;omega
theorem aNB (p q r:PR) (a b c:Pt) (k:Nat) (w:World) (S:Nat→Prop) (hp:dh w S p a) (hq:dh w S q b) (hr:dh w S r c) (hL:aP w S) (ka:Bq k a.x∧Bq k a.y) (kb:Bq k b.x∧Bq k b.y) (kc:Bq k c.x∧Bq k c.y) (hk:8*k+8≤16384) :
 Calls prog 148 #[.agg #[.bool p.x.num.neg,.slice p.x.num.ad p.x.num.n p.x.num.cap,.bool p.x.less.neg,.slice p.x.less.ad p.x.less.n p.x.less.cap,.bool p.y.num.neg,.slice p.y.num.ad p.y.num.n p.y.num.cap,.bool p.y.less.neg,.slice p.y.less.ad p.y.less.n p.y.less.cap],.agg #[.bool q.x.num.neg,.slice q.x.num.ad q.x.num.n q.x.num.cap,.bool q.x.less.neg,.slice q.x.less.ad q.x.less.n q.x.less.cap,.bool q.y.num.neg,.slice q.y.num.ad q.y.num.n q.y.num.cap,.bool q.y.less.neg,.slice q.y.less.ad q.y.less.n q.y.less.cap],.agg #[.bool r.x.num.neg,.slice r.x.num.ad r.x.num.n r.x.num.cap,.bool r.x.less.neg,.slice r.x.less.ad r.x.less.n r.x.less.cap,.bool r.y.num.neg,.slice r.y.num.ad r.y.num.n r.y.num.cap,.bool r.y.less.neg,.slice r.y.less.ad r.y.less.n r.y.less.cap]] w (yb w S (bT a b c)):=by
 obtain⟨hS,aC,bC,bD⟩:=eR hL
 go_enter func148,ntmps148
 go_wp2_with (with_reducible first|refine cI hS fun bx cu hS=>?_|refine eW 1 hS isAgg54 sizeOf54 ?_|refine eW 2 hS isAgg54 sizeOf54 ?_|refine eW 3 hS isAgg54 sizeOf54 ?_|refine bH hS zeroValue54 fun b6 xz hS=>?_|refine bH hS zeroValue289 fun b9 xX hS=>?_|refine bH hS zeroValue290 fun fo qM hS=>?_|refine aJ 6 hS sizeOf289 fun _ hS=>?_|refine bA 6 hS isAgg289 sizeOf289 ?_)
 refine wp_loop_rounds 3 ?_;rw [rounds_succ]
 go_wp2_with (first|((with_reducible refine wR (T:=289) ?_);refine ck rfl (aIp (i:=0) (T:=289) (E:=288) underlying289 sizeOf288 isAgg288 rfl rfl rfl (by decide) rfl ?_);simp only [aD])|(with_reducible first|refine bH hS zeroValue3 fun b11 a3b hS=>?_|refine bH hS zeroValue288 fun qH a1h hS=>?_|refine bH hS zeroValue54 fun xY a62 hS=>?_|refine bH hS zeroValue43 fun b15 aLr hS=>?_|refine bH hS zeroValue292 fun vZ a4M hS=>?_|refine aJ 8 hS sizeOf3 fun _ hS=>?_|refine aJ 9 hS sizeOf288 fun _ hS=>?_|refine aJ 13 hS sizeOf292 fun _ hS=>?_|refine bA 13 hS isAgg292 sizeOf292 ?_))
 refine wp_loop_rounds 4 ?_;rw [rounds_succ]
 go_wp2_with (first|((with_reducible refine wR (T:=292) ?_);refine ck rfl (zT (i:=0) (T:=292) (E:=291) underlying292 sizeOf291 isAgg291 rfl rfl rfl (by decide) rfl ?_);simp only [aD])|(go_at_call 219;go_in)|(with_reducible refine eW 9 hS isAgg54 sizeOf54 ?_))
 refine (zi q.x p.x b.x a.x k k _ S (hq.x.at hS aC) (hp.x.at hS aC) (aP.at hS aC) kb.1 ka.1 (by omega)).mono ?_;rintro e w' ⟨x,S1,rfl,az,hx⟩;have hp:=(hp.at hS aC).grow az;have hq:=(hq.at hS aC).grow az;have hr:=(hr.at hS aC).grow az
 try (have fG:=(fG.at hS aC).grow az)
 replace hS:=hS.aj aC bC bD az;obtain⟨F1,aG,-,bB,av,hS⟩:=hS;simp only [iW]
 go_wp2_with (with_reducible first|refine aJ 10 hS sizeOf54 fun _ hS=>?_|refine aJ 12 hS sizeOf43 fun _ hS=>?_|refine aU 12 hS isAgg43 ?_)
 first|rw [rounds_succ]
 go_wp2_with (first|((with_reducible refine wR (T:=292) ?_);refine ck rfl (zT (i:=1) (T:=292) (E:=291) underlying292 sizeOf291 isAgg291 rfl rfl rfl (by decide) rfl ?_);simp only [aD])|(go_at_call 220;go_in)|(with_reducible refine eW 9 hS isAgg54 sizeOf54 ?_))
 refine (zi r.y p.y c.y a.y k k _ S1 (hr.y.at hS aG) (hp.y.at hS aG) (aP.at hS aG) kc.2 ka.2 (by omega)).mono ?_;rintro e w' ⟨y,S2,rfl,aR,hy⟩;have hp:=(hp.at hS aG).grow aR;have hq:=(hq.at hS aG).grow aR;have hr:=(hr.at hS aG).grow aR;have hx:=(hx.at hS aG).grow aR
 try (have fG:=(fG.at hS aG).grow aR)
 replace hS:=hS.aj aG av bB aR;obtain⟨F2,aQ,-,bR,bP,hS⟩:=hS;simp only [iW]
 go_wp2_with (with_reducible first|refine aJ 11 hS sizeOf54 fun _ hS=>?_|refine aJ 12 hS sizeOf43 fun _ hS=>?_|refine aU 12 hS isAgg43 ?_)
 first|rw [rounds_succ]
 go_wp2_with (first|((with_reducible refine wR (T:=292) ?_);refine ck rfl (zT (i:=2) (T:=292) (E:=291) underlying292 sizeOf291 isAgg291 rfl rfl rfl (by decide) rfl ?_);simp only [aD])|(go_at_call 221;go_in))
 refine dB [.r 0,.r 1,.r 2,.e 3,.p 4,.p 5,.p 6,.p 7,.m 8,.m 9] [8,9] hS fun w1 hS=>?_
 repeat (with_reducible first|refine cZ 8 isAgg3 ?_|refine cz 10 isAgg54 sizeOf54 ?_|refine cz 11 isAgg54 sizeOf54 ?_)
 have hC:=hS;refine aZ ?_
 go_wp2_with (fail)
 refine (a1A x y (b.x - a.x) (c.y - a.y) (k+k+1) (k+k+1) _ S2 (hx.at hS aQ) (hy.at hS aQ) (aP.at hS aQ) (kb.1.sub ka.1) (kc.2.sub ka.2) (by omega)).mono ?_;rintro e w' ⟨z1,S3,rfl,bI,fG⟩;simp only [iW];go_step;have hp:=(hp.at hS aQ).grow bI;have hq:=(hq.at hS aQ).grow bI;have hr:=(hr.at hS aQ).grow bI
 try (have fG:=(fG.at hS aQ).grow bI)
 have hC:=(hC.call bI.below bI.drawn).sub (List.sublist_append_left _ _);replace hS:=hS.aj aQ bP bR bI;obtain⟨F3,bM,-,dP,dE,hS⟩:=hS;refine aX hC ?_;refine aM ?_;refine dC ?_
 (with_reducible refine aJ 7 hS sizeOf54 fun _ hS=>?_)
 refine dD ?_;refine aM ?_;refine dC ?_
 (with_reducible refine aJ 12 hS sizeOf43 fun _ hS=>?_)
 refine dD ?_;refine aM ?_;refine bE ?_;clear hC
 go_wp2_with (with_reducible refine aU 12 hS isAgg43 ?_)
 first|rw [rounds_succ]
 go_wp2;have hS:=hS.pick [0,1,2,3,4,5,6,7] rfl;simp only [iw] at hS
 first|rw [rounds_succ]
 go_wp2_with (first|((with_reducible refine wR (T:=289) ?_);refine ck rfl (aIp (i:=1) (T:=289) (E:=288) underlying289 sizeOf288 isAgg288 rfl rfl rfl (by decide) rfl ?_);simp only [aD])|(with_reducible first|refine bH hS zeroValue3 fun b11 a3b hS=>?_|refine bH hS zeroValue288 fun qH a1h hS=>?_|refine bH hS zeroValue54 fun xY a62 hS=>?_|refine bH hS zeroValue43 fun b15 aLr hS=>?_|refine bH hS zeroValue292 fun vZ a4M hS=>?_|refine aJ 8 hS sizeOf3 fun _ hS=>?_|refine aJ 9 hS sizeOf288 fun _ hS=>?_|refine aJ 13 hS sizeOf292 fun _ hS=>?_|refine bA 13 hS isAgg292 sizeOf292 ?_))
 refine wp_loop_rounds 4 ?_;rw [rounds_succ]
 go_wp2_with (first|((with_reducible refine wR (T:=292) ?_);refine ck rfl (zT (i:=0) (T:=292) (E:=291) underlying292 sizeOf291 isAgg291 rfl rfl rfl (by decide) rfl ?_);simp only [aD])|(go_at_call 219;go_in)|(with_reducible refine eW 9 hS isAgg54 sizeOf54 ?_))
 refine (zi q.y p.y b.y a.y k k _ S3 (hq.y.at hS bM) (hp.y.at hS bM) (aP.at hS bM) kb.2 ka.2 (by omega)).mono ?_;rintro e w' ⟨x,S4,rfl,az,hx⟩;have hp:=(hp.at hS bM).grow az;have hq:=(hq.at hS bM).grow az;have hr:=(hr.at hS bM).grow az
 try (have fG:=(fG.at hS bM).grow az)
 replace hS:=hS.aj bM dE dP az;obtain⟨F4,bZ,-,gN,gG,hS⟩:=hS;simp only [iW]
 go_wp2_with (with_reducible first|refine aJ 10 hS sizeOf54 fun _ hS=>?_|refine aJ 12 hS sizeOf43 fun _ hS=>?_|refine aU 12 hS isAgg43 ?_)
 first|rw [rounds_succ]
 go_wp2_with (first|((with_reducible refine wR (T:=292) ?_);refine ck rfl (zT (i:=1) (T:=292) (E:=291) underlying292 sizeOf291 isAgg291 rfl rfl rfl (by decide) rfl ?_);simp only [aD])|(go_at_call 220;go_in)|(with_reducible refine eW 9 hS isAgg54 sizeOf54 ?_))
 refine (zi r.x p.x c.x a.x k k _ S4 (hr.x.at hS bZ) (hp.x.at hS bZ) (aP.at hS bZ) kc.1 ka.1 (by omega)).mono ?_;rintro e w' ⟨y,S5,rfl,aR,hy⟩;have hp:=(hp.at hS bZ).grow aR;have hq:=(hq.at hS bZ).grow aR;have hr:=(hr.at hS bZ).grow aR;have hx:=(hx.at hS bZ).grow aR
 try (have fG:=(fG.at hS bZ).grow aR)
 replace hS:=hS.aj bZ gG gN aR;obtain⟨F5,cG,-,gR,ff,hS⟩:=hS;simp only [iW]
 go_wp2_with (with_reducible first|refine aJ 11 hS sizeOf54 fun _ hS=>?_|refine aJ 12 hS sizeOf43 fun _ hS=>?_|refine aU 12 hS isAgg43 ?_)
 first|rw [rounds_succ]
 go_wp2_with (first|((with_reducible refine wR (T:=292) ?_);refine ck rfl (zT (i:=2) (T:=292) (E:=291) underlying292 sizeOf291 isAgg291 rfl rfl rfl (by decide) rfl ?_);simp only [aD])|(go_at_call 221;go_in))
 refine dB [.r 0,.r 1,.r 2,.e 3,.p 4,.p 5,.p 6,.p 7,.m 8,.m 9] [8,9] hS fun w1 hS=>?_
 repeat (with_reducible first|refine cZ 8 isAgg3 ?_|refine cz 10 isAgg54 sizeOf54 ?_|refine cz 11 isAgg54 sizeOf54 ?_)
 have hC:=hS;refine aZ ?_
 go_wp2_with (fail)
 refine (a1A x y (b.y - a.y) (c.x - a.x) (k+k+1) (k+k+1) _ S5 (hx.at hS cG) (hy.at hS cG) (aP.at hS cG) (kb.2.sub ka.2) (kc.1.sub ka.1) (by omega)).mono ?_;rintro e w' ⟨z2,S6,rfl,bI,gS⟩;simp only [iW];go_step;have hp:=(hp.at hS cG).grow bI;have hq:=(hq.at hS cG).grow bI;have hr:=(hr.at hS cG).grow bI
 try (have fG:=(fG.at hS cG).grow bI)
 have hC:=(hC.call bI.below bI.drawn).sub (List.sublist_append_left _ _);replace hS:=hS.aj cG ff gR bI;obtain⟨F6,eO,-,kY,j4,hS⟩:=hS;refine aX hC ?_;refine aM ?_;refine dC ?_
 (with_reducible refine aJ 7 hS sizeOf54 fun _ hS=>?_)
 refine dD ?_;refine aM ?_;refine dC ?_
 (with_reducible refine aJ 12 hS sizeOf43 fun _ hS=>?_)
 refine dD ?_;refine aM ?_;refine bE ?_;clear hC
 go_wp2_with (with_reducible refine aU 12 hS isAgg43 ?_)
 first|rw [rounds_succ]
 go_wp2;have hS:=hS.pick [0,1,2,3,4,5,6,7] rfl;simp only [iw] at hS
 first|rw [rounds_succ]
 go_wp2_with (with_reducible refine eW 7 hS isAgg54 sizeOf54 ?_)
 refine (zi z1 z2 _ _ (k+k+1+(k+k+1)) (k+k+1+(k+k+1)) _ S6 (fG.at hS eO) (gS.at hS eO) (aP.at hS eO) ((kb.1.sub ka.1).mul (kc.2.sub ka.2)) ((kb.2.sub ka.2).mul (kc.1.sub ka.1)) (by omega)).mono ?_;rintro e w' ⟨z,S7,rfl,hq7,hz⟩;replace hS:=hS.aj eO j4 kY hq7;obtain⟨F7,iR,-,mT,qN,hS⟩:=hS;simp only [iW]
 go_wp2_with (with_reducible first|refine bH hS zeroValue54 fun b20 aCI hS=>?_|refine aJ 8 hS sizeOf54 fun _ hS=>?_|refine aJ 4 hS sizeOf54 fun _ hS=>?_|refine bA 8 hS isAgg54 sizeOf54 ?_)
 exact jJ 4 hS rfl rfl rfl isAgg54 sizeOf54 rfl rfl ⟨z,S7,rfl,mT.step hS qN iR,hz.at hS iR⟩
theorem aQ9 (q:Rat):cR q.num 0=e8 q 0:=by
 have h1:=Rat.lt_iff q 0;have h2:=Rat.lt_iff 0 q;simp at h1 h2;unfold cR e8;simp only [h1,h2]
theorem aFV (p q r:PR) (a b c:Pt) (k:Nat) (w:World) (S:Nat→Prop) (hp:dh w S p a) (hq:dh w S q b) (hr:dh w S r c) (hL:aP w S) (ka:Bq k a.x∧Bq k a.y) (kb:Bq k b.x∧Bq k b.y) (kc:Bq k c.x∧Bq k c.y) (hk:8*k+8≤16384) :
 Calls prog 101 #[.agg #[.bool p.x.num.neg,.slice p.x.num.ad p.x.num.n p.x.num.cap,.bool p.x.less.neg,.slice p.x.less.ad p.x.less.n p.x.less.cap,.bool p.y.num.neg,.slice p.y.num.ad p.y.num.n p.y.num.cap,.bool p.y.less.neg,.slice p.y.less.ad p.y.less.n p.y.less.cap],.agg #[.bool q.x.num.neg,.slice q.x.num.ad q.x.num.n q.x.num.cap,.bool q.x.less.neg,.slice q.x.less.ad q.x.less.n q.x.less.cap,.bool q.y.num.neg,.slice q.y.num.ad q.y.num.n q.y.num.cap,.bool q.y.less.neg,.slice q.y.less.ad q.y.less.n q.y.less.cap],.agg #[.bool r.x.num.neg,.slice r.x.num.ad r.x.num.n r.x.num.cap,.bool r.x.less.neg,.slice r.x.less.ad r.x.less.n r.x.less.cap,.bool r.y.num.neg,.slice r.y.num.ad r.y.num.n r.y.num.cap,.bool r.y.less.neg,.slice r.y.less.ad r.y.less.n r.y.less.cap]] w fun e w'=>e=.returned (.tuple #[.int .i64 (e8 (bT a b c) 0),.int .i64 0])∧Pure w S w' S:=by
 obtain⟨hS,aC,bC,bD⟩:=eR hL
 go_enter func101,ntmps101
 go_wp2_with (with_reducible first|refine cI hS fun bx cu hS=>?_|refine bA 1 hS isAgg56 sizeOf56 ?_|refine bA 2 hS isAgg56 sizeOf56 ?_|refine bA 3 hS isAgg56 sizeOf56 ?_)
 refine (aNB p q r a b c k _ S (hp.at hS aC) (hq.at hS aC) (hr.at hS aC) (aP.at hS aC) ka kb kc hk).mono ?_;rintro e w' ⟨z,S1,rfl,az,hz⟩;replace hS:=hS.aj aC bC bD az;obtain⟨F1,aG,-,bB,av,hS⟩:=hS;simp only [iW]
 go_wp2_with (with_reducible first|refine bH hS zeroValue54 fun b8 xe hS=>?_|refine aJ 4 hS sizeOf54 fun _ hS=>?_|refine bA 4 hS isAgg54 sizeOf54 ?_)
 refine (aSU z _ _ S1 (hz.at hS aG) (aP.at hS aG)).mono ?_;rintro e w' ⟨rfl,aR⟩;rw [aQ9];replace hS:=hS.aj aG av bB aR;obtain⟨F2,aQ,-,bR,bP,hS⟩:=hS;simp only [];go_wp2;refine bodyPost_ret (results_tmp2 rfl _ _ _) rfl ?_;exact⟨rfl,(bR.step hS bP aQ).back⟩
structure Gp where
 x:Int
 y:Int
 deriving DecidableEq
def Gp.pt (g:Gp):Pt:=⟨(g.x:Rat),(g.y:Rat)⟩
def gc (p:Gp):List Value:=[.int .i64 p.x,.int .i64 p.y]
def g0:Gp:=⟨0,0⟩
theorem nB {α:Type} {f:α→List Value} {k:Nat} (hk:∀ x,(f x).length=k) (l:List α):(l.flatMap f).length=l.length*k:=by
 induction l with
 | nil=>simp
 | cons x l ih=>simp only [List.flatMap_cons,List.length_append,hk,ih,List.length_cons,Nat.add_mul,Nat.one_mul];omega
theorem eS {α:Type} {f:α→List Value} {k:Nat} (hk:∀ x,(f x).length=k) (d:α):∀ {l:List α} {i:Nat},i<l.length→((l.flatMap f).drop (i*k)).take k=f (nth d l i)
 | [],i,h=>by simp at h
 | x::l,0,_=>by
  rw [Nat.zero_mul,List.drop_zero,List.flatMap_cons,List.take_append_of_le_length (by rw [hk];exact Nat.le_refl _),List.take_of_length_le (by rw [hk];exact Nat.le_refl _)];rfl
 | x::l,i+1,h=>by
  have:=eS hk d (l:=l) (i:=i) (by simpa using h);have e:(f x++l.flatMap f).drop k=l.flatMap f:=by rw [← hk x];exact List.drop_left
  rw [Nat.add_mul,Nat.one_mul,List.flatMap_cons,Nat.add_comm,← List.drop_drop,e];exact this
theorem yT (p:Gp):(gc p).length=2:=rfl
def fS (x:Int):Prop:=-1073741824≤x∧x≤1073741824
def Gp.ok (p:Gp):Prop:=fS p.x∧fS p.y
theorem aPd (a b c d e f:Value):Instr.fill (fun i=>some (i*2,2)) ((Array.range (3*2)).map ((Value.agg #[.int .i64 0,.int .i64 0]).cells[· % (Value.agg #[.int .i64 0,.int .i64 0]).cells.size]!)) [(0,.agg #[a,b]),(1,.agg #[c,d]),(2,.agg #[e,f])]=some #[a,b,c,d,e,f]:=by
 have h:((Array.range (3*2)).map ((Value.agg #[.int .i64 0,.int .i64 0]).cells[· % (Value.agg #[.int .i64 0,.int .i64 0]).cells.size]!))=#[.int .i64 0,.int .i64 0,.int .i64 0,.int .i64 0,.int .i64 0,.int .i64 0]:=by
  apply Array.ext';simp [Array.range,List.ofFn_succ,Value.cells]
 rw [h];simp [Instr.fill,Value.cells]
theorem aQA (a b c d:Value):Instr.fill (fun i=>some (i*2,2)) ((Array.range (2*2)).map ((Value.agg #[.int .i64 0,.int .i64 0]).cells[· % (Value.agg #[.int .i64 0,.int .i64 0]).cells.size]!)) [(0,.agg #[a,b]),(1,.agg #[c,d])]=some #[a,b,c,d]:=by
 have h:((Array.range (2*2)).map ((Value.agg #[.int .i64 0,.int .i64 0]).cells[· % (Value.agg #[.int .i64 0,.int .i64 0]).cells.size]!))=#[.int .i64 0,.int .i64 0,.int .i64 0,.int .i64 0]:=by
  apply Array.ext';simp [Array.range,List.ofFn_succ,Value.cells]
 rw [h];simp [Instr.fill,Value.cells]
theorem aMf {a b:Int} (ha:a.natAbs<2 ^ 40) (hb:b.natAbs<2 ^ 40):(a*b).natAbs<kR:=by
 rw [Int.natAbs_mul];exact rX (k:=80) (by decide) (sL ha hb)
def dQ (a b c:Gp):Int:=(b.x - a.x)*(c.y - a.y) - (b.y - a.y)*(c.x - a.x)
theorem yV (a b c:Gp):bT a.pt b.pt c.pt=(dQ a b c:Rat):=by
 unfold bT dQ Gp.pt;simp only
 push_cast
 rfl
def gQ (z:Int):Int:=if z<0 then -1 else if 0<z then 1 else 0
theorem aPu (a b:Int):cR a b=gQ (a - b):=by unfold cR gQ;split <;> split <;> (try split) <;> (try split) <;> omega
theorem aGp (a b c:Gp) (w:World) (S:Nat→Prop) (hL:aP w S) (h1:-8589934592≤b.x - a.x∧b.x - a.x≤8589934592) (h2:-8589934592≤b.y - a.y∧b.y - a.y≤8589934592) (h3:-8589934592≤c.x - a.x∧c.x - a.x≤8589934592) (h4:-8589934592≤c.y - a.y∧c.y - a.y≤8589934592) :
 Calls prog 147 #[.agg #[.int .i64 a.x,.int .i64 a.y],.agg #[.int .i64 b.x,.int .i64 b.y],.agg #[.int .i64 c.x,.int .i64 c.y]] w fun e w'=>e=.returned (.int .i64 (gQ (dQ a b c)))∧Pure w S w' S:=by
 have w1:IntKind.i64.wrap (b.x - a.x)=b.x - a.x:=w6;have w2:IntKind.i64.wrap (b.y - a.y)=b.y - a.y:=w6;have w3:IntKind.i64.wrap (c.x - a.x)=c.x - a.x:=w6;have w4:IntKind.i64.wrap (c.y - a.y)=c.y - a.y:=w6;have fT:cR ((b.x - a.x)*(c.y - a.y)) ((b.y - a.y)*(c.x - a.x))=gQ (dQ a b c):=by rw [aPu];rfl
 have f1:=aMf (a:=b.x - a.x) (b:=c.y - a.y) (by omega) (by omega);have f2:=aMf (a:=b.y - a.y) (b:=c.x - a.x) (by omega) (by omega);have i1:bQ (b.x - a.x):=by unfold bQ;omega
 have i2:bQ (b.y - a.y):=by unfold bQ;omega
 have i3:bQ (c.x - a.x):=by unfold bQ;omega
 have i4:bQ (c.y - a.y):=by unfold bQ;omega
 clear h1 h2 h3 h4;replace f1:=Hd f1;replace f2:=Hd f2;replace fT:=Hd fT;obtain⟨hS,aC,bC,bD⟩:=eR hL
 go_enter func147,ntmps147
 go_wp2_with (with_reducible refine cI (T:=29) (v:=.agg _) hS fun bx cu hS=>?_)
 refine kQ 1 [.p 0,.r 1,.p 2,.r 3,.p 4,.p 6,.r 7,.p 8,.r 9,.p 10,.e 5,.e 11] [.e 14,.e 15] [] [eU 12 7 52 (.agg #[.bool false,.slice none 0 0]),eU 13 8 52 (.agg #[.bool false,.slice none 0 0])] w _ (by kernel_rfl) (by kernel_rfl) (a0n rfl zeroValue52 rfl zeroValue52 (by decide) (by decide)) hS.drew ?_;obtain⟨aI,aT⟩:=hS.jw
 repeat (with_reducible first|refine vq 2 isAgg3 ?_|refine vq 1 isAgg3 ?_|refine lF ?_)
 refine eI rfl (fun B wB hS=>?_);simp only [aK] at hS
 go_wp2_with (fail)
 refine (x6 (b.x - a.x) _ S i1).mono ?_;rintro e w' ⟨x,S1,rfl,az,iz⟩;simp only [];go_step
 try (have iz:=(iz.at hS aC).grow az)
 try (have iJ:=(iJ.at hS aC).grow az)
 have aT:=aA.fC hS az.below aI aT;replace hS:=hS.aj aC bC bD az;obtain⟨F1,aG,gp,bB,av,hS⟩:=hS;have aI:=dZ.trans aI gp;refine eH (H:=_) hS aI aT ?_;refine dz ?_;refine eI rfl (fun B wB hS=>?_);simp only [aK] at hS
 go_wp2_with (fail)
 refine (x6 (b.y - a.y) _ S1 i2).mono ?_;rintro e w' ⟨y,S2,rfl,aR,iJ⟩;simp only [];go_step;have iz:=(iz.at hS aG).grow aR
 try (have iz:=(iz.at hS aG).grow aR)
 try (have iJ:=(iJ.at hS aG).grow aR)
 have aT:=aA.fC hS aR.below aI aT;replace hS:=hS.aj aG av bB aR;obtain⟨F2,aQ,jV,bR,bP,hS⟩:=hS;have aI:=dZ.trans aI jV;refine eH (H:=_) hS aI aT ?_;refine dz ?_;refine a0H (fun b7 b8 wB hS=>?_);simp only [aK] at hS;simp only [aD];refine aZ ?_
 (with_reducible refine aJ (u:=.agg #[.bool _,.slice _ _ _]) 4 hS sizeOf52 fun _ hS=>?_)
 refine aX (aA.gA hS.sb aI aT) ?_;refine aM ?_;refine aZ ?_
 (with_reducible refine aJ (u:=.agg #[.bool _,.slice _ _ _]) 5 hS sizeOf52 fun _ hS=>?_)
 refine aX (aA.gA hS.sb aI aT) ?_;refine aM ?_;refine bE ?_;clear aI aT;go_wp2;refine kQ 1 [.p 0,.r 1,.p 2,.r 3,.p 4,.p 6,.r 7,.p 8,.r 9,.p 10,.e 5,.e 11] [.e 14,.e 15] [] [eU 12 9 52 (.agg #[.bool false,.slice none 0 0]),eU 13 10 52 (.agg #[.bool false,.slice none 0 0])] w _ (by kernel_rfl) (by kernel_rfl) (a0n rfl zeroValue52 rfl zeroValue52 (by decide) (by decide)) hS.drew ?_;obtain⟨aI,aT⟩:=hS.jw
 repeat (with_reducible first|refine vq 3 isAgg3 ?_|refine vq 1 isAgg3 ?_|refine lF ?_)
 refine eI rfl (fun B wB hS=>?_);simp only [aK] at hS
 go_wp2_with (fail)
 refine (x6 (c.x - a.x) _ S2 i3).mono ?_;rintro e w' ⟨u,S3,rfl,az,hu⟩;simp only [];go_step
 try (have iz:=(iz.at hS aQ).grow az)
 try (have iJ:=(iJ.at hS aQ).grow az)
 have aT:=aA.fC hS az.below aI aT;replace hS:=hS.aj aQ bP bR az;obtain⟨F3,bM,nQ,dP,dE,hS⟩:=hS;have aI:=dZ.trans aI nQ;refine eH (H:=_) hS aI aT ?_;refine dz ?_;refine eI rfl (fun B wB hS=>?_);simp only [aK] at hS
 go_wp2_with (fail)
 refine (x6 (c.y - a.y) _ S3 i4).mono ?_;rintro e w' ⟨v,S4,rfl,aR,hv⟩;simp only [];go_step;have hu:=(hu.at hS bM).grow aR
 try (have iz:=(iz.at hS bM).grow aR)
 try (have iJ:=(iJ.at hS bM).grow aR)
 have aT:=aA.fC hS aR.below aI aT;replace hS:=hS.aj bM dE dP aR;obtain⟨F4,bZ,tl,gN,gG,hS⟩:=hS;have aI:=dZ.trans aI tl;refine eH (H:=_) hS aI aT ?_;refine dz ?_;refine a0H (fun b9 fo wB hS=>?_);simp only [aK] at hS;simp only [aD];refine aZ ?_
 (with_reducible refine aJ (u:=.agg #[.bool _,.slice _ _ _]) 6 hS sizeOf52 fun _ hS=>?_)
 refine aX (aA.gA hS.sb aI aT) ?_;refine aM ?_;refine aZ ?_
 (with_reducible refine aJ (u:=.agg #[.bool _,.slice _ _ _]) 7 hS sizeOf52 fun _ hS=>?_)
 refine aX (aA.gA hS.sb aI aT) ?_;refine aM ?_;refine bE ?_;clear aI aT
 go_wp2_with (with_reducible first|refine bA 4 hS isAgg52 sizeOf52 ?_|refine bA 7 hS isAgg52 sizeOf52 ?_)
 refine (aCi x v _ _ _ S4 (iz.at hS bZ) (hv.at hS bZ) (aP.at hS bZ) f1.out).mono ?_;rintro e w' ⟨p,S5,rfl,gh,hp⟩;have iJ:=(iJ.at hS bZ).grow gh;have hu:=(hu.at hS bZ).grow gh;replace hS:=hS.aj bZ gG gN gh;obtain⟨F5,cG,-,gR,ff,hS⟩:=hS;simp only [sJ]
 go_wp2_with (with_reducible first|refine bH hS zeroValue52 fun b11 a3b hS=>?_|refine aJ (u:=.agg #[.bool _,.slice _ _ _]) 8 hS sizeOf52 fun _ hS=>?_|refine bA 5 hS isAgg52 sizeOf52 ?_|refine bA 6 hS isAgg52 sizeOf52 ?_)
 refine (aCi y u _ _ _ S5 (iJ.at hS cG) (hu.at hS cG) (aP.at hS cG) f2.out).mono ?_;rintro e w' ⟨q,S6,rfl,lT,hq⟩;have hp:=(hp.at hS cG).grow lT;replace hS:=hS.aj cG ff gR lT;obtain⟨F6,eO,-,kY,j4,hS⟩:=hS;simp only [sJ]
 go_wp2_with (with_reducible first|refine bH hS zeroValue52 fun xY a62 hS=>?_|refine aJ (u:=.agg #[.bool _,.slice _ _ _]) 9 hS sizeOf52 fun _ hS=>?_|refine bA 8 hS isAgg52 sizeOf52 ?_|refine bA 9 hS isAgg52 sizeOf52 ?_)
 refine (a8M p q _ _ _ S6 (hp.at hS eO) (hq.at hS eO)).mono ?_;rintro e w' ⟨rfl,hq7⟩;replace hS:=hS.aj eO j4 kY hq7;obtain⟨F7,iR,-,mT,qN,hS⟩:=hS;simp only [];go_wp2;go_ret;exact⟨jH fT.out,(mT.step hS qN iR).back⟩
theorem aS8 (ad:Option Addr) (n c:Nat) (l:List Gp) (w:World) (S:Nat→Prop) (hv:bN w S 2 (.slice ad n c) l.length (l.flatMap gc)) (bG:∀ p ∈ l,p.ok) :
 Calls prog 232 #[.slice ad n c] w fun e w'=>e=.returned (.int .i64 0)∧Pure w (fun _=>False) w' (fun _=>False):=by
 have hn:n=l.length:=by obtain⟨h1,a,cap,h2,_⟩:=hv;cases h2;rfl
 subst hn;have hle:=hv.le;have hS:=aA.start w;have dS:=hv.bj;clear hv
 go_enter func232,ntmps232
 go_wp2
 go_loopw [8] (fun v wr=>∃ k:Nat,k≤l.length∧v=.int .i64 (k:Int)∧aA w wr [.aH (Old w) w]) (fun v _=>l.length - (intOf v).toNat)
 case atStart=>exact⟨0,by omega,rfl,hS⟩
 case round =>
  clear hS;obtain⟨k,hk,rfl,hS⟩:=hrel
  by_cases cW:k<l.length
  ·obtain⟨p,hp⟩:∃ p,nth g0 l k=p:=⟨_,rfl⟩
   have hc:=eS yT g0 cW;rw [hp] at hc;obtain⟨o1,o2⟩:=bG p (by rw [← hp];exact cQ g0 l k cW);unfold fS at o1 o2;have vW:=a0L p.x p.y
   go_wp2_with (first|(with_reducible first|refine iH underlying25 sizeOf29 dS hc fun bq oq bO=>?_|refine j9 hS isAgg29 sizeOf29 ?_|refine bH hS zeroValue29 fun bp wbp hS=>?_|refine aJ (u:=.agg #[_,_]) 1 hS sizeOf29 fun _ hS=>?_|refine bA 1 hS isAgg29 sizeOf29 ?_)|(go_at_call 39;refine (vW _ o1 o2).mono ?_;rintro e w' ⟨rfl,hq⟩;have hS:=hS.below hq.below hq.drawn))
   go_roundw
   case rel=>exact⟨k+1,by omega,rfl,hS.sb⟩
   case measure=>simp [intOf];omega
  ·obtain rfl:k=l.length:=by omega
   go_wp2;go_ret;exact⟨rfl,hS.pure _⟩
theorem aSY (a b c:Gp) (w:World) (S:Nat→Prop) (hL:aP w S) (ha:a.ok) (hb:b.ok) (hc:c.ok) :
 Calls prog 175 #[.agg #[.int .i64 a.x,.int .i64 a.y],.agg #[.int .i64 b.x,.int .i64 b.y],.agg #[.int .i64 c.x,.int .i64 c.y]] w fun e w'=>e=.returned (.tuple #[.int .i64 (gQ (dQ a b c)),.int .i64 0])∧Pure w S w' S:=by
 have hsd:=fun w' S' eM=>aGp a b c w' S' eM (by have:=ha.1;have:=hb.1;unfold fS at *;omega) (by have:=ha.2;have:=hb.2;unfold fS at *;omega) (by have:=ha.1;have:=hc.1;unfold fS at *;omega) (by have:=ha.2;have:=hc.2;unfold fS at *;omega)
 obtain⟨hS,aC,bC,bD⟩:=eR hL
 go_enter func175,ntmps175
 go_wp2_with (first|(with_reducible first|refine cI (T:=29) (v:=.agg _) hS fun bx cu hS=>?_|refine bA 1 hS isAgg29 sizeOf29 ?_|refine bA 2 hS isAgg29 sizeOf29 ?_|refine bA 3 hS isAgg29 sizeOf29 ?_)|((with_reducible refine dV (T:=25) ?_);refine nc (k:=2) (z:=.agg #[.int .i64 0,.int .i64 0]) (len:=3) hS underlying25 sizeOf29 zeroValue29 (by decide) (by decide) (aPd _ _ _ _ _ _) (fun bl fX hS=>?_);simp only [aD];simp only [aK] at hS))
 refine (aS8 _ 3 3 [a,b,c] _ _ (bN.ve (k:=2) (n:=3) hS (bW (i:=4) rfl) rfl (by decide)) (by simp [ha,hb,hc])).mono ?_;rintro e w' ⟨rfl,az⟩;have hS:=hS.below az.below az.drawn;simp only []
 go_wp2_with (with_reducible first|refine bA 1 hS isAgg29 sizeOf29 ?_|refine bA 2 hS isAgg29 sizeOf29 ?_|refine bA 3 hS isAgg29 sizeOf29 ?_)
 refine (hsd _ S (aP.at hS aC)).mono ?_;rintro e w' ⟨rfl,aR⟩;replace hS:=hS.aj aC bC bD aR;obtain⟨F1,aG,gp,bB,av,hS⟩:=hS;simp only [];go_wp2;refine bodyPost_ret (results_tmp2 rfl _ _ _) rfl ?_;exact⟨rfl,bB.step hS av aG⟩
def kA (d:Gp):Int:=if d.y<0∨(d.y=0∧d.x<0) then 1 else 0
def Gp.dir (d:Gp):Prop:=(-2147483648≤d.x∧d.x≤2147483648)∧(-2147483648≤d.y∧d.y≤2147483648)∧¬ (d.x=0∧d.y=0)
def jW (a b:Gp):Int:=if kA a=kA b then -gQ (a.x*b.y - a.y*b.x) else if kA a<kA b then -1 else 1
theorem aF5 (d:Gp) (w:World):Calls prog 146 #[.agg #[.int .i64 d.x,.int .i64 d.y]] w fun e w'=>e=.returned (.int .i64 (kA d))∧Pure w (fun _=>False) w' (fun _=>False):=by
 obtain⟨x,y⟩:=d;obtain⟨h,hh⟩:∃ h,kA ⟨x,y⟩=h:=⟨_,rfl⟩;rw [hh];unfold kA at hh;simp only at hh;have hS:=aA.start w
 by_cases hy:y<0
 ·rw [if_pos (.inl hy)] at hh
  subst hh
  go_enter func146,ntmps146
  go_wp2_with (with_reducible first|refine cI (T:=29) (v:=.agg _) hS fun bx cu hS=>?_|refine aU 1 hS isAgg3 ?_)
  go_ret;exact⟨rfl,hS.pure _⟩
 ·by_cases iJ:y=0
  ·subst iJ
   by_cases hx:x<0
   ·rw [if_pos (.inr ⟨rfl,hx⟩)] at hh
    subst hh;clear hy
    go_enter func146,ntmps146
    go_wp2_with (with_reducible first|refine cI (T:=29) (v:=.agg _) hS fun bx cu hS=>?_|refine aU 1 hS isAgg3 ?_)
    go_ret;exact⟨rfl,hS.pure _⟩
   ·rw [if_neg (by omega)] at hh
    subst hh;clear hy
    go_enter func146,ntmps146
    go_wp2_with (with_reducible first|refine cI (T:=29) (v:=.agg _) hS fun bx cu hS=>?_|refine aU 1 hS isAgg3 ?_)
    go_ret;exact⟨rfl,hS.pure _⟩
  ·rw [if_neg (by omega)] at hh
   subst hh;have hyf:(y == 0)=false:=by simpa using iJ
   clear iJ
   go_enter func146,ntmps146
   go_wp2_with (with_reducible first|refine cI (T:=29) (v:=.agg _) hS fun bx cu hS=>?_|refine aU 1 hS isAgg3 ?_)
   go_ret;exact⟨rfl,hS.pure _⟩
theorem aQL (a b:Int) (w:World):Calls prog 145 #[.int .i64 a,.int .i64 b] w fun e w'=>e=.returned (.int .i64 (cR a b))∧w=w':=by
 unfold cR
 by_cases h1:a<b
 ·rw [if_pos h1]
  go_enter func145,ntmps145
  go_wp2;go_ret;exact⟨rfl,rfl⟩
 ·rw [if_neg h1]
  by_cases h2:b<a
  ·rw [if_pos h2]
   go_enter func145,ntmps145
   go_wp2;go_ret;exact⟨rfl,rfl⟩
  ·rw [if_neg h2]
   go_enter func145,ntmps145
   go_wp2;go_ret;exact⟨rfl,rfl⟩
theorem aRY (a b:Gp) (w:World) (S:Nat→Prop) (hL:aP w S) (ha:a.dir) (hb:b.dir):Calls prog 100 #[.agg #[.int .i64 a.x,.int .i64 a.y],.agg #[.int .i64 b.x,.int .i64 b.y]] w fun e w'=>e=.returned (.int .i64 (jW a b))∧Pure w S w' S:=by
 obtain⟨h1,h2,_⟩:=ha;obtain⟨h3,h4,_⟩:=hb;obtain⟨t,ht⟩:∃ t,jW a b=t:=⟨_,rfl⟩;rw [ht];unfold jW at ht;have hsd:=fun w' S' eM=>aGp ⟨0,0⟩ a b w' S' eM (by simp only;omega) (by simp only;omega) (by simp only;omega) (by simp only;omega)
 have har:dQ ⟨0,0⟩ a b=a.x*b.y - a.y*b.x:=by unfold dQ;simp
 rw [har] at hsd;clear h1 h2 h3 h4 har;obtain⟨p,hp⟩:∃ p,kA a=p:=⟨_,rfl⟩;obtain⟨q,hq⟩:∃ q,kA b=q:=⟨_,rfl⟩;have hha:=aF5 a;have hhb:=aF5 b;rw [hp] at hha ht;rw [hq] at hhb ht;clear hp hq;obtain⟨hS,aC,bC,bD⟩:=eR hL
 go_enter func100,ntmps100
 go_wp2_with (with_reducible refine cI (T:=29) (v:=.agg _) hS fun bx cu hS=>?_)
 refine dB [.r 0,.r 2,.e 1,.e 3,.e 4,.p 5] [] hS fun w1 hS=>?_
 repeat (with_reducible first|refine cz 1 isAgg29 sizeOf29 ?_|refine cz 2 isAgg29 sizeOf29 ?_)
 refine aZ ?_
 go_wp2_with (fail)
 refine (hha _).mono ?_;rintro e w' ⟨rfl,az⟩;simp only [];go_step;have hS:=hS.below az.below az.drawn;refine aX hS ?_;refine aM ?_;refine aZ ?_
 go_wp2_with (fail)
 refine (hhb _).mono ?_;rintro e w' ⟨rfl,aR⟩;simp only [];go_step;have hS:=hS.below aR.below aR.drawn;refine aX hS ?_;refine aM ?_;refine aZ ?_
 go_wp2_with (fail)
 refine (aQL _ _ _).mono ?_;rintro e w' ⟨rfl,rfl⟩;simp only [];go_step;refine aX hS ?_;refine aM ?_;refine bE ?_
 by_cases gH:p=q
 ·rw [if_pos gH] at ht
  subst gH;rw [a2T]
  have jA:IntKind.i64.wrap (-gQ (a.x*b.y - a.y*b.x)) = -gQ (a.x*b.y - a.y*b.x):=by
   have:-1≤gQ (a.x*b.y - a.y*b.x)∧gQ (a.x*b.y - a.y*b.x)≤1:=by unfold gQ;split <;> (try split) <;> omega
   exact w6
  generalize gQ (a.x*b.y - a.y*b.x)=sg at *;replace ht:=Hd ht
  go_wp2_with (with_reducible first|refine bA 1 hS isAgg29 sizeOf29 ?_|refine bA 2 hS isAgg29 sizeOf29 ?_)
  refine (hsd _ S (aP.at hS aC)).mono ?_;rintro e w' ⟨rfl,bI⟩;replace hS:=hS.aj aC bC bD bI;obtain⟨F1,aG,-,bB,av,hS⟩:=hS;simp only [];go_wp2;go_ret;exact⟨jH ht.out,bB.step hS av aG⟩
 ·rw [if_neg gH] at ht
  have bJ:cR p q≠0:=fun h=>gH (a4E.1 h)
  have hct:cR p q=t:=by
   rw [← ht];unfold cR
   by_cases h:p<q
   ·rw [if_pos h,if_pos h]
   ·rw [if_neg h,if_neg h,if_pos (by omega)]
  rw [hct] at bJ ⊢;have htf:(t == 0)=false:=by simpa using bJ
  clear ht hct bJ;go_wp2;go_ret;exact⟨rfl,hS.pure _⟩
theorem aPL (ad:Option Addr) (n c:Nat) (l:List Gp) (w:World) (S:Nat→Prop) (hv:bN w S 2 (.slice ad n c) l.length (l.flatMap gc)) (bG:∀ p ∈ l,p.dir) :
 Calls prog 99 #[.slice ad n c] w fun e w'=>e=.returned (.int .i64 0)∧Pure w (fun _=>False) w' (fun _=>False):=by
 have hn:n=l.length:=by obtain⟨h1,a,cap,h2,_⟩:=hv;cases h2;rfl
 subst hn;have hle:=hv.le;have hS:=aA.start w;have dS:=hv.bj;clear hv
 go_enter func99,ntmps99
 go_wp2
 go_loopw [7] (fun v wr=>∃ k:Nat,k≤l.length∧v=.int .i64 (k:Int)∧aA w wr [.aH (Old w) w]) (fun v _=>l.length - (intOf v).toNat)
 case atStart=>exact⟨0,by omega,rfl,hS⟩
 case round =>
  clear hS;obtain⟨k,hk,rfl,hS⟩:=hrel
  by_cases cW:k<l.length
  ·obtain⟨⟨x,y⟩,hp⟩:∃ p,nth g0 l k=p:=⟨_,rfl⟩
   have hc:=eS yT g0 cW;rw [hp] at hc;obtain⟨o1,o2,o3⟩:=bG ⟨x,y⟩ (by rw [← hp];exact cQ g0 l k cW);simp only at o1 o2 o3;have wx:IntKind.i64.wrap (-x) = -x:=w6;have wy:IntKind.i64.wrap (-y) = -y:=w6;have t1:decide (2147483648<max x (-x))=false:=by simp;omega
   have t2:decide (2147483648<max y (-y))=false:=by simp;omega
   have t3:decide (min x y < -2147483648)=false:=by simp;omega
   clear o1 o2
   go_wp2_with (with_reducible first|refine iH underlying25 sizeOf29 dS hc fun bq oq bO=>?_|refine j9 hS isAgg29 sizeOf29 ?_|refine bH hS zeroValue29 fun bp wbp hS=>?_|refine aJ (u:=.agg #[_,_]) 1 hS sizeOf29 fun _ hS=>?_|refine bA 1 hS isAgg29 sizeOf29 ?_|refine aU 1 hS isAgg3 ?_)
   all_goals exact⟨⟨k+1,by omega,rfl,hS.sb⟩,by simp [intOf];omega⟩
  ·obtain rfl:k=l.length:=by omega
   go_wp2;go_ret;exact⟨rfl,hS.pure _⟩
theorem aLJ (a b:Gp) (w:World) (S:Nat→Prop) (hL:aP w S) (ha:a.dir) (hb:b.dir):Calls prog 47 #[.agg #[.int .i64 a.x,.int .i64 a.y],.agg #[.int .i64 b.x,.int .i64 b.y]] w fun e w'=>e=.returned (.tuple #[.int .i64 (jW a b),.int .i64 0])∧Pure w S w' S:=by
 obtain⟨hS,aC,bC,bD⟩:=eR hL
 go_enter func47,ntmps47
 go_wp2_with (first|(with_reducible first|refine cI (T:=29) (v:=.agg _) hS fun bx cu hS=>?_|refine bA 1 hS isAgg29 sizeOf29 ?_|refine bA 2 hS isAgg29 sizeOf29 ?_)|((with_reducible refine dV (T:=25) ?_);refine nc (k:=2) (z:=.agg #[.int .i64 0,.int .i64 0]) (len:=2) hS underlying25 sizeOf29 zeroValue29 (by decide) (by decide) (aQA _ _ _ _) (fun bl fX hS=>?_);simp only [aD];simp only [aK] at hS))
 refine (aPL _ 2 2 [a,b] _ _ (bN.ve (k:=2) (n:=2) hS (bW (i:=3) rfl) rfl (by decide)) (by simp [ha,hb])).mono ?_;rintro e w' ⟨rfl,az⟩;have hS:=hS.below az.below az.drawn;simp only []
 go_wp2_with (with_reducible first|refine bA 1 hS isAgg29 sizeOf29 ?_|refine bA 2 hS isAgg29 sizeOf29 ?_)
 refine (aRY a b _ S (aP.at hS aC) ha hb).mono ?_;rintro e w' ⟨rfl,aR⟩;replace hS:=hS.aj aC bC bD aR;obtain⟨F1,aG,-,bB,av,hS⟩:=hS;simp only [];go_wp2;refine bodyPost_ret (results_tmp2 rfl _ _ _) rfl ?_;exact⟨rfl,bB.step hS av aG⟩
structure Sz where
 a:Gp
 b:Gp
 deriving DecidableEq
def Sz.sg (s:Sz):Sg:=⟨s.a.pt,s.b.pt⟩
def sc (s:Sz):List Value:=[.int .i64 s.a.x,.int .i64 s.a.y,.int .i64 s.b.x,.int .i64 s.b.y]
theorem tc (s:Sz):(sc s).length=4:=rfl
def s0:Sz:=⟨g0,g0⟩
def Sz.ok (s:Sz):Prop:=s.a.ok∧s.b.ok∧s.a≠s.b
def Gp.lt (a b:Gp):Prop:=a.x<b.x∨(a.x=b.x∧a.y<b.y)
instance (a b:Gp):Decidable (a.lt b):=by unfold Gp.lt;infer_instance
theorem Gp.a3G {a b:Gp}:a.pt.lt b.pt↔a.lt b:=by
 unfold Pt.lt Gp.lt Gp.pt;simp only [Rat.intCast_lt_intCast,Rat.intCast_inj]
theorem Gp.aBa {a b:Gp}:a.pt=b.pt↔a=b:=by
 obtain⟨x,y⟩:=a;obtain⟨u,v⟩:=b;simp [Gp.pt,Rat.intCast_inj]
def Sz.lQ (s:Sz):Sz:=if s.b.lt s.a then ⟨s.b,s.a⟩ else s
theorem Sz.aIy (s:Sz):s.lQ.a.pt=s.sg.lo∧s.lQ.b.pt=s.sg.hi:=by
 unfold Sz.lQ Sg.lo Sg.hi Sz.sg
 by_cases h:s.b.lt s.a
 ·rw [if_pos h,if_pos (Gp.a3G.2 h),if_pos (Gp.a3G.2 h)];exact⟨rfl,rfl⟩
 ·rw [if_neg h,if_neg (fun e=>h (Gp.a3G.1 e)),if_neg (fun e=>h (Gp.a3G.1 e))];exact⟨rfl,rfl⟩
def Sz.bx (s:Sz):Go.Hp.aEL:=⟨min s.a.x s.b.x,min s.a.y s.b.y,max s.a.x s.b.x,max s.a.y s.b.y⟩
theorem yR (a b:Gp) (w:World):Calls prog 229 #[.agg #[.int .i64 a.x,.int .i64 a.y],.agg #[.int .i64 b.x,.int .i64 b.y]] w fun e w'=>e=.returned (.bool (decide (a.lt b)))∧Pure w (fun _=>False) w' (fun _=>False):=by
 obtain⟨x,y⟩:=a;obtain⟨u,v⟩:=b;obtain⟨r,hr⟩:∃ r,decide ((⟨x,y⟩:Gp).lt ⟨u,v⟩)=r:=⟨_,rfl⟩;rw [hr];unfold Gp.lt at hr;simp only at hr;have hS:=aA.start w
 by_cases h1:x<u
 ·have cT:r=true:=by rw [← hr];simp [h1]
  subst cT;clear hr
  go_enter func229,ntmps229
  go_wp2_with (with_reducible first|refine cI (T:=29) (v:=.agg _) hS fun bx cu hS=>?_|refine aU 1 hS isAgg3 ?_|refine aU 2 hS isAgg3 ?_)
  go_ret;exact⟨rfl,hS.pure _⟩
 ·by_cases h2:x=u
  ·subst h2
   have cT:r=decide (y<v):=by rw [← hr];simp
   subst cT;clear hr h1
   go_enter func229,ntmps229
   go_wp2_with (with_reducible first|refine cI (T:=29) (v:=.agg _) hS fun bx cu hS=>?_|refine aU 1 hS isAgg3 ?_|refine aU 2 hS isAgg3 ?_)
   go_ret;exact⟨rfl,hS.pure _⟩
  ·have cT:r=false:=by rw [← hr];simp [h1,h2]
   subst cT;have h2f:(x == u)=false:=by simpa using h2
   clear hr h2
   go_enter func229,ntmps229
   go_wp2_with (with_reducible first|refine cI (T:=29) (v:=.agg _) hS fun bx cu hS=>?_|refine aU 1 hS isAgg3 ?_|refine aU 2 hS isAgg3 ?_)
   go_ret;exact⟨rfl,hS.pure _⟩
theorem aHF (s:Sz) (w:World):Calls prog 172 #[.agg #[.int .i64 s.a.x,.int .i64 s.a.y,.int .i64 s.b.x,.int .i64 s.b.y]] w fun e w'=>e=.returned (.agg #[.int .i64 s.lQ.a.x,.int .i64 s.lQ.a.y,.int .i64 s.lQ.b.x,.int .i64 s.lQ.b.y])∧Pure w (fun _=>False) w' (fun _=>False):=by
 obtain⟨t,ht⟩:∃ t,s.lQ=t:=⟨_,rfl⟩;rw [ht];unfold Sz.lQ at ht;have hS:=aA.start w
 by_cases h:s.b.lt s.a
 ·rw [if_pos h] at ht
  subst ht;have hd:decide (s.b.lt s.a)=true:=by simpa using h
  have hb:=yR s.b s.a;rw [hd] at hb
  go_enter func172,ntmps172
  go_wp2_with (with_reducible first|refine cI (T:=95) (v:=.agg _) hS fun bx cu hS=>?_|refine bH hS zeroValue95 fun br fu hS=>?_|refine eW 1 hS isAgg29 sizeOf29 ?_)
  refine (hb _).mono ?_;rintro e w' ⟨rfl,hq⟩;have hS:=hS.below hq.below hq.drawn;simp only []
  go_wp2_with (with_reducible first|refine eW 1 hS isAgg29 sizeOf29 ?_|refine aJ (u:=.agg #[_,_]) 1 hS sizeOf29 fun _ hS=>?_|refine bA 1 hS isAgg95 sizeOf95 ?_|refine aJ (u:=.agg #[_,_,_,_]) 2 hS sizeOf95 fun _ hS=>?_)
  exact fE 2 hS rfl rfl rfl isAgg95 sizeOf95 rfl rfl ⟨rfl,hS.pure _⟩
 ·rw [if_neg h] at ht
  subst ht;have hd:decide (s.b.lt s.a)=false:=by simpa using h
  have hb:=yR s.b s.a;rw [hd] at hb
  go_enter func172,ntmps172
  go_wp2_with (with_reducible first|refine cI (T:=95) (v:=.agg _) hS fun bx cu hS=>?_|refine bH hS zeroValue95 fun br fu hS=>?_|refine eW 1 hS isAgg29 sizeOf29 ?_)
  refine (hb _).mono ?_;rintro e w' ⟨rfl,hq⟩;have hS:=hS.below hq.below hq.drawn;simp only []
  go_wp2_with (with_reducible first|refine bA 1 hS isAgg95 sizeOf95 ?_|refine aJ (u:=.agg #[_,_,_,_]) 2 hS sizeOf95 fun _ hS=>?_)
  exact fE 2 hS rfl rfl rfl isAgg95 sizeOf95 rfl rfl ⟨rfl,hS.pure _⟩
theorem aEq (s:Sz) (w:World):Calls prog 121 #[.agg #[.int .i64 s.a.x,.int .i64 s.a.y,.int .i64 s.b.x,.int .i64 s.b.y]] w fun e w'=>e=.returned (.agg #[.int .i64 s.bx.x0,.int .i64 s.bx.y0,.int .i64 s.bx.x1,.int .i64 s.bx.y1])∧Pure w (fun _=>False) w' (fun _=>False):=by
 have hS:=aA.start w
 go_enter func121,ntmps121
 go_wp2_with (with_reducible first|refine cI (T:=95) (v:=.agg _) hS fun bx cu hS=>?_|refine bH hS zeroValue203 fun br fu hS=>?_|refine aU 1 hS isAgg3 ?_|refine aJ (u:=.agg #[_,_,_,_]) 2 hS sizeOf203 fun _ hS=>?_)
 exact fE 2 hS rfl rfl rfl isAgg203 sizeOf203 rfl rfl ⟨rfl,hS.pure _⟩
theorem a2w (n:Int) (w:World) (S:Nat→Prop) (hn:bQ n) (hL:aP w S) :
 Calls prog 249 #[.int .i64 n] w (a8a w S (n:Rat)):=by
 obtain⟨hS,aC,bC,bD⟩:=eR hL
 go_enter func249,ntmps249
 go_wp2_with (with_reducible refine bH hS zeroValue54 fun br fu hS=>?_)
 refine (aBs n 1 _ S hn (by unfold bQ;omega) (aP.at hS aC) (by omega)).mono ?_;rintro e w' ⟨z,S2,rfl,hq,hz⟩;replace hS:=hS.aj aC bC bD hq;obtain⟨F1,aG,-,bB,av,hS⟩:=hS;simp only [iW]
 go_wp2_with (with_reducible first|refine bH hS zeroValue54 fun bx cu hS=>?_|refine aJ (u:=.agg #[.bool _,.slice _ _ _,.bool _,.slice _ _ _]) 2 hS sizeOf54 fun _ hS=>?_|refine aJ (u:=.agg #[.bool _,.slice _ _ _,.bool _,.slice _ _ _]) 1 hS sizeOf54 fun _ hS=>?_|refine bA 2 hS isAgg54 sizeOf54 ?_)
 exact fE 1 hS rfl rfl rfl isAgg54 sizeOf54 rfl rfl ⟨z,S2,rfl,bB.step hS av aG,(hz.at hS aG).cast (by simp [Rat.divInt,Rat.mkRat_one])⟩
theorem a4t (s:Sz) (p:Gp) (w:World) (S:Nat→Prop) (hL:aP w S) (ha:s.a.ok) (hb:s.b.ok) (hc:p.ok) :
 Calls prog 122 #[.agg #[.int .i64 s.a.x,.int .i64 s.a.y,.int .i64 s.b.x,.int .i64 s.b.y],.agg #[.int .i64 p.x,.int .i64 p.y]] w fun e w'=>e=.returned (.int .i64 (gQ (dQ s.a s.b p)))∧Pure w S w' S:=by
 obtain⟨hS,aC,bC,bD⟩:=eR hL
 go_enter func122,ntmps122
 go_wp2_with (with_reducible first|refine cI (T:=95) (v:=.agg _) hS fun bx cu hS=>?_|refine cI (T:=29) (v:=.agg _) hS fun bp wbp hS=>?_|refine eW 1 hS isAgg29 sizeOf29 ?_|refine bA 2 hS isAgg29 sizeOf29 ?_)
 refine (aSY s.a s.b p _ S (aP.at hS aC) ha hb hc).mono ?_;rintro e w' ⟨rfl,hq⟩;replace hS:=hS.aj aC bC bD hq;obtain⟨F1,aG,-,bB,av,hS⟩:=hS;simp only [];go_wp2;go_ret;exact⟨rfl,bB.step hS av aG⟩
theorem aOT (s:Sz) (w:World) (h:s.ok):Calls prog 167 #[.agg #[.int .i64 s.a.x,.int .i64 s.a.y,.int .i64 s.b.x,.int .i64 s.b.y]] w fun e w'=>e=.returned (.int .i64 0)∧Pure w (fun _=>False) w' (fun _=>False):=by
 obtain⟨⟨x,y⟩,⟨u,v⟩⟩:=s;obtain⟨ha,hb,bJ⟩:=h;have v1:=fun w=>a0L x y w ha.1 ha.2
 have v2:=fun w=>a0L u v w hb.1 hb.2
 have bJ:¬ (x=u∧y=v):=fun h=>bJ (by simp [h.1,h.2])
 clear ha hb;have hS:=aA.start w
 go_enter func167,ntmps167
 go_wp2_with (with_reducible first|refine cI (T:=95) (v:=.agg _) hS fun bx cu hS=>?_|refine eW 1 hS isAgg29 sizeOf29 ?_)
 refine (v1 _).mono ?_;rintro e w' ⟨rfl,hq⟩;have hS:=hS.below hq.below hq.drawn;simp only []
 go_wp2_with (with_reducible refine eW 1 hS isAgg29 sizeOf29 ?_)
 refine (v2 _).mono ?_;rintro e w' ⟨rfl,hq⟩;have hS:=hS.below hq.below hq.drawn;simp only []
 go_wp2_with (with_reducible refine eW 1 hS isAgg29 sizeOf29 ?_)
 all_goals (go_ret;exact⟨rfl,hS.pure _⟩)
theorem aUc (ad:Option Addr) (n c:Nat) (l:List Sz) (w:World) (S:Nat→Prop) (hv:bN w S 4 (.slice ad n c) l.length (l.flatMap sc)) (bG:∀ p ∈ l,p.ok) :
 Calls prog 115 #[.slice ad n c] w fun e w'=>e=.returned (.int .i64 0)∧Pure w (fun _=>False) w' (fun _=>False):=by
 have hn:n=l.length:=by obtain⟨h1,a,cap,h2,_⟩:=hv;cases h2;rfl
 subst hn;have hle:=hv.le;have hS:=aA.start w;have dS:=hv.bj;clear hv
 go_enter func115,ntmps115
 go_wp2
 go_loopw [8] (fun v wr=>∃ k:Nat,k≤l.length∧v=.int .i64 (k:Int)∧aA w wr [.aH (Old w) w]) (fun v _=>l.length - (intOf v).toNat)
 case atStart=>exact⟨0,by omega,rfl,hS⟩
 case round =>
  clear hS;obtain⟨k,hk,rfl,hS⟩:=hrel
  by_cases cW:k<l.length
  ·obtain⟨p,hp⟩:∃ p,nth s0 l k=p:=⟨_,rfl⟩
   have hc:=eS tc s0 cW;rw [hp] at hc;have ho:=bG p (by rw [← hp];exact cQ s0 l k cW);have vW:=fun w=>aOT p w ho
   clear ho hp
   go_wp2_with (first|(with_reducible first|refine iH underlying23 sizeOf95 dS hc fun bq oq bO=>?_|refine j9 hS isAgg95 sizeOf95 ?_|refine bH hS zeroValue95 fun bp wbp hS=>?_|refine aJ (u:=.agg #[_,_,_,_]) 1 hS sizeOf95 fun _ hS=>?_|refine bA 1 hS isAgg95 sizeOf95 ?_)|(go_at_call 167;refine (vW _).mono ?_;rintro e w' ⟨rfl,hq⟩;have hS:=hS.below hq.below hq.drawn))
   go_roundw
   case rel=>exact⟨k+1,by omega,rfl,hS.sb⟩
   case measure=>simp [intOf];omega
  ·obtain rfl:k=l.length:=by omega
   go_wp2;go_ret;exact⟨rfl,hS.pure _⟩
theorem aAP {a b p:Gp} (ha:a.ok) (hb:b.ok) (hp:p.ok):(dQ a b p).natAbs<2 ^ 67:=by
 unfold Gp.ok fS at *;unfold dQ;have h1:=sL (a:=(b.x - a.x).natAbs) (b:=(p.y - a.y).natAbs) (j:=33) (k:=33) (by omega) (by omega);have h2:=sL (a:=(b.y - a.y).natAbs) (b:=(p.x - a.x).natAbs) (j:=33) (k:=33) (by omega) (by omega);rw [← Int.natAbs_mul] at h1 h2;generalize (b.x - a.x)*(p.y - a.y)=u at *;generalize (b.y - a.y)*(p.x - a.x)=v at *;have:(2:Nat) ^ 67=2 ^ 66+2 ^ 66:=by decide
 omega
theorem Bq.div {j k:Nat} {a b:Rat} (ha:Bq j a) (hb:Bq k b) (h0:b≠0):Bq (j+k) (a / b):=by
 rw [Rat.div_def];exact ha.mul (hb.inv h0)
theorem aJG (s:Sz) (p:Gp) (w:World) (S:Nat→Prop) (hL:aP w S) (ha:s.a.ok) (hb:s.b.ok) (hc:p.ok) :
 Calls prog 230 #[.agg #[.int .i64 s.a.x,.int .i64 s.a.y,.int .i64 s.b.x,.int .i64 s.b.y],.agg #[.int .i64 p.x,.int .i64 p.y]] w (a8a w S (dQ s.a s.b p:Rat)):=by
 unfold Gp.ok fS at ha hb hc;have w1:IntKind.i64.wrap (s.b.x - s.a.x)=s.b.x - s.a.x:=w6;have w2:IntKind.i64.wrap (p.y - s.a.y)=p.y - s.a.y:=w6;have w3:IntKind.i64.wrap (s.b.y - s.a.y)=s.b.y - s.a.y:=w6;have w4:IntKind.i64.wrap (p.x - s.a.x)=p.x - s.a.x:=w6;have i1:bQ (s.b.x - s.a.x):=by unfold bQ;omega
 have i2:bQ (p.y - s.a.y):=by unfold bQ;omega
 have i3:bQ (s.b.y - s.a.y):=by unfold bQ;omega
 have i4:bQ (p.x - s.a.x):=by unfold bQ;omega
 have b1:Bq 33 ((s.b.x - s.a.x:Int):Rat):=Bq.int (by omega) (by omega);have b2:Bq 33 ((p.y - s.a.y:Int):Rat):=Bq.int (by omega) (by omega);have b3:Bq 33 ((s.b.y - s.a.y:Int):Rat):=Bq.int (by omega) (by omega);have b4:Bq 33 ((p.x - s.a.x:Int):Rat):=Bq.int (by omega) (by omega);clear ha hb hc
 have har:(dQ s.a s.b p:Rat)=((s.b.x - s.a.x:Int):Rat)*((p.y - s.a.y:Int):Rat) - ((s.b.y - s.a.y:Int):Rat)*((p.x - s.a.x:Int):Rat):=by
  unfold dQ;simp [Rat.intCast_sub,Rat.intCast_mul]
 rw [har];clear har;obtain⟨hS,aC,bC,bD⟩:=eR hL
 go_enter func230,ntmps230
 go_wp2_with (with_reducible first|refine cI hS fun bx cu hS=>?_|refine bH hS zeroValue54 fun br fu hS=>?_)
 refine kQ 1 [.p 0,.p 1,.r 2,.p 3,.p 4,.r 5,.p 6,.p 8,.r 9,.p 10,.p 11,.r 12,.p 13,.e 7,.e 14,.e 15,.p 16,.p 17,.p 18] [.e 20,.p 21] [] [eU 19 5 54 (.agg #[.bool false,.slice none 0 0,.bool false,.slice none 0 0])] w _ (by kernel_rfl) (by kernel_rfl) (o8 rfl zeroValue54) hS.drew ?_;obtain⟨aI,aT⟩:=hS.jw
 repeat (with_reducible first|refine vq 1 isAgg3 ?_|refine vq 2 isAgg3 ?_|refine lF ?_)
 refine eI rfl (fun B wB hS=>?_);simp only [aK] at hS
 go_wp2_with (fail)
 refine (a2w (s.b.x - s.a.x) _ S i1 (aP.at hS aC)).mono ?_;rintro e w' ⟨u,S1,rfl,az,hu⟩;simp only [];go_step
 try (have fG:=(fG.at hS aC).grow az)
 have aT:=aA.fC hS az.below aI aT;replace hS:=hS.aj aC bC bD az;obtain⟨F1,aG,gp,bB,av,hS⟩:=hS;have aI:=dZ.trans aI gp;refine eH (H:=_) hS aI aT ?_;refine dz ?_;refine eI rfl (fun B wB hS=>?_);simp only [aK] at hS
 go_wp2_with (fail)
 refine (a2w (p.y - s.a.y) _ S1 i2 (aP.at hS aG)).mono ?_;rintro e w' ⟨v,S2,rfl,aR,hv⟩;simp only [];go_step;have hu:=(hu.at hS aG).grow aR
 try (have fG:=(fG.at hS aG).grow aR)
 have aT:=aA.fC hS aR.below aI aT;replace hS:=hS.aj aG av bB aR;obtain⟨F2,aQ,jV,bR,bP,hS⟩:=hS;have aI:=dZ.trans aI jV;refine eH (H:=_) hS aI aT ?_;refine dz ?_;refine eI rfl (fun B wB hS=>?_);simp only [aK] at hS
 go_wp2_with (fail)
 refine (a1A u v _ _ 33 33 _ S2 (hu.at hS aQ) (hv.at hS aQ) (aP.at hS aQ) b1 b2 (by omega)).mono ?_;rintro e w' ⟨z1,S3,rfl,bI,fG⟩;simp only [iW];go_step
 try (have fG:=(fG.at hS aQ).grow bI)
 have aT:=aA.fC hS bI.below aI aT;replace hS:=hS.aj aQ bP bR bI;obtain⟨F3,bM,nQ,dP,dE,hS⟩:=hS;have aI:=dZ.trans aI nQ;refine eH (H:=_) hS aI aT ?_;refine dz ?_;refine mq (fun bq wB hS=>?_);simp only [aK] at hS;simp only [aD];refine aZ ?_
 (with_reducible refine aJ 4 hS sizeOf54 fun _ hS=>?_)
 refine aX (aA.gA hS.sb aI aT) ?_;refine aM ?_;refine bE ?_;clear aI aT;go_wp2;refine kQ 1 [.p 0,.p 1,.r 2,.p 3,.p 4,.r 5,.p 6,.p 8,.r 9,.p 10,.p 11,.r 12,.p 13,.e 7,.e 14,.e 15,.p 16,.p 17,.p 18] [.e 20,.p 21] [] [eU 19 7 54 (.agg #[.bool false,.slice none 0 0,.bool false,.slice none 0 0])] w _ (by kernel_rfl) (by kernel_rfl) (o8 rfl zeroValue54) hS.drew ?_;obtain⟨aI,aT⟩:=hS.jw
 repeat (with_reducible first|refine vq 1 isAgg3 ?_|refine vq 2 isAgg3 ?_|refine lF ?_)
 refine eI rfl (fun B wB hS=>?_);simp only [aK] at hS
 go_wp2_with (fail)
 refine (a2w (s.b.y - s.a.y) _ S3 i3 (aP.at hS bM)).mono ?_;rintro e w' ⟨u,S4,rfl,az,hu⟩;simp only [];go_step
 try (have fG:=(fG.at hS bM).grow az)
 have aT:=aA.fC hS az.below aI aT;replace hS:=hS.aj bM dE dP az;obtain⟨F4,bZ,tl,gN,gG,hS⟩:=hS;have aI:=dZ.trans aI tl;refine eH (H:=_) hS aI aT ?_;refine dz ?_;refine eI rfl (fun B wB hS=>?_);simp only [aK] at hS
 go_wp2_with (fail)
 refine (a2w (p.x - s.a.x) _ S4 i4 (aP.at hS bZ)).mono ?_;rintro e w' ⟨v,S5,rfl,aR,hv⟩;simp only [];go_step;have hu:=(hu.at hS bZ).grow aR
 try (have fG:=(fG.at hS bZ).grow aR)
 have aT:=aA.fC hS aR.below aI aT;replace hS:=hS.aj bZ gG gN aR;obtain⟨F5,cG,a4W,gR,ff,hS⟩:=hS;have aI:=dZ.trans aI a4W;refine eH (H:=_) hS aI aT ?_;refine dz ?_;refine eI rfl (fun B wB hS=>?_);simp only [aK] at hS
 go_wp2_with (fail)
 refine (a1A u v _ _ 33 33 _ S5 (hu.at hS cG) (hv.at hS cG) (aP.at hS cG) b3 b4 (by omega)).mono ?_;rintro e w' ⟨z2,S6,rfl,bI,gS⟩;simp only [iW];go_step
 try (have fG:=(fG.at hS cG).grow bI)
 have aT:=aA.fC hS bI.below aI aT;replace hS:=hS.aj cG ff gR bI;obtain⟨F6,eO,aEh,kY,j4,hS⟩:=hS;have aI:=dZ.trans aI aEh;refine eH (H:=_) hS aI aT ?_;refine dz ?_;refine mq (fun bq wB hS=>?_);simp only [aK] at hS;simp only [aD];refine aZ ?_
 (with_reducible refine aJ 5 hS sizeOf54 fun _ hS=>?_)
 refine aX (aA.gA hS.sb aI aT) ?_;refine aM ?_;refine bE ?_;clear aI aT
 go_wp2_with (with_reducible first|refine bA 4 hS isAgg54 sizeOf54 ?_|refine bA 5 hS isAgg54 sizeOf54 ?_)
 refine (zi z1 z2 _ _ (33+33) (33+33) _ S6 (fG.at hS eO) (gS.at hS eO) (aP.at hS eO) (b1.mul b2) (b3.mul b4) (by omega)).mono ?_;rintro e w' ⟨z,S7,rfl,hq7,hz⟩;replace hS:=hS.aj eO j4 kY hq7;obtain⟨F7,iR,-,mT,qN,hS⟩:=hS;simp only [iW]
 go_wp2_with (with_reducible first|refine bH hS zeroValue54 fun b20 aCI hS=>?_|refine aJ 6 hS sizeOf54 fun _ hS=>?_|refine aJ 3 hS sizeOf54 fun _ hS=>?_|refine bA 6 hS isAgg54 sizeOf54 ?_)
 exact fE 3 hS rfl rfl rfl isAgg54 sizeOf54 rfl rfl ⟨z,S7,rfl,mT.step hS qN iR,hz.at hS iR⟩
theorem aGK (f t:Int) (x:FR) (q:Rat) (k:Nat) (w:World) (S:Nat→Prop) (hx:eN w S x q) (hL:aP w S) (hf:fS f) (ht:fS t) (hk:Bq k q) (iE:k≤1000) :
 Calls prog 231 #[.int .i64 f,.int .i64 t,.agg #[.bool x.num.neg,.slice x.num.ad x.num.n x.num.cap,.bool x.less.neg,.slice x.less.ad x.less.n x.less.cap]] w (a8a w S ((f:Rat)+((t - f:Int):Rat)*q)):=by
 unfold fS at hf ht;have w1:IntKind.i64.wrap (t - f)=t - f:=w6;have i1:bQ (t - f):=by unfold bQ;omega
 have i2:bQ f:=by unfold bQ;omega
 have b1:Bq 33 ((t - f:Int):Rat):=Bq.int (by omega) (by omega);have b2:Bq 33 ((f:Int):Rat):=Bq.int (by omega) (by omega);clear hf ht;obtain⟨hS,aC,bC,bD⟩:=eR hL
 go_enter func231,ntmps231
 go_wp2_with (with_reducible first|refine cI hS fun bx cu hS=>?_|refine bH hS zeroValue54 fun br fu hS=>?_)
 refine kQ 1 [.p 0,.p 1,.p 2,.r 4,.e 3,.e 5,.p 6,.p 7,.p 8] [.e 10,.p 11] [] [eU 9 7 54 (.agg #[.bool false,.slice none 0 0,.bool false,.slice none 0 0])] w _ (by kernel_rfl) (by kernel_rfl) (o8 rfl zeroValue54) hS.drew ?_;obtain⟨aI,aT⟩:=hS.jw
 repeat (with_reducible first|refine kq 1 isAgg54 sizeOf54 ?_|refine lF ?_)
 refine eI rfl (fun B wB hS=>?_);simp only [aK] at hS
 go_wp2_with (fail)
 refine (a2w (t - f) _ S i1 (aP.at hS aC)).mono ?_;rintro e w' ⟨u,S1,rfl,az,hu⟩;simp only [];go_step;have hx:=(hx.at hS aC).grow az;have aT:=aA.fC hS az.below aI aT;replace hS:=hS.aj aC bC bD az;obtain⟨F1,aG,gp,bB,av,hS⟩:=hS;have aI:=dZ.trans aI gp;refine eH (H:=_) hS aI aT ?_;refine dz ?_;refine eI rfl (fun B wB hS=>?_);simp only [aK] at hS
 go_wp2_with (fail)
 refine (a1A u x _ _ 33 k _ S1 (hu.at hS aG) (hx.at hS aG) (aP.at hS aG) b1 hk (by omega)).mono ?_;rintro e w' ⟨z,S2,rfl,aR,hz⟩;simp only [iW];go_step;have aT:=aA.fC hS aR.below aI aT;replace hS:=hS.aj aG av bB aR;obtain⟨F2,aQ,jV,bR,bP,hS⟩:=hS;have aI:=dZ.trans aI jV;refine eH (H:=_) hS aI aT ?_;refine dz ?_;refine mq (fun bq wB hS=>?_);simp only [aK] at hS;simp only [aD];refine aZ ?_
 (with_reducible refine aJ 3 hS sizeOf54 fun _ hS=>?_)
 refine aX (aA.gA hS.sb aI aT) ?_;refine aM ?_;refine bE ?_;clear aI aT;go_wp2;refine kQ 1 [.p 0,.r 2,.e 1,.e 3,.p 4,.p 5,.p 6] [.e 8,.p 9] [] [eU 7 9 54 (.agg #[.bool false,.slice none 0 0,.bool false,.slice none 0 0])] w _ (by kernel_rfl) (by kernel_rfl) (o8 rfl zeroValue54) hS.drew ?_;obtain⟨aI,aT⟩:=hS.jw
 repeat (with_reducible first|refine kq 3 isAgg54 sizeOf54 ?_|refine lF ?_)
 refine eI rfl (fun B wB hS=>?_);simp only [aK] at hS
 go_wp2_with (fail)
 refine (a2w f _ S2 i2 (aP.at hS aQ)).mono ?_;rintro e w' ⟨v,S3,rfl,bI,hv⟩;simp only [];go_step;have hz:=(hz.at hS aQ).grow bI;have aT:=aA.fC hS bI.below aI aT;replace hS:=hS.aj aQ bP bR bI;obtain⟨F3,bM,nQ,dP,dE,hS⟩:=hS;have aI:=dZ.trans aI nQ;refine eH (H:=_) hS aI aT ?_;refine dz ?_;refine eI rfl (fun B wB hS=>?_);simp only [aK] at hS
 go_wp2_with (fail)
 refine (aAw v z _ _ 33 (33+k) _ S3 (hv.at hS bM) (hz.at hS bM) (aP.at hS bM) b2 (b1.mul hk) (by omega)).mono ?_;rintro e w' ⟨y,S4,rfl,cY,hy⟩;simp only [iW];go_step;have aT:=aA.fC hS cY.below aI aT;replace hS:=hS.aj bM dE dP cY;obtain⟨F4,bZ,tl,gN,gG,hS⟩:=hS;have aI:=dZ.trans aI tl;refine eH (H:=_) hS aI aT ?_;refine dz ?_;refine mq (fun bq2 wB hS=>?_);simp only [aK] at hS;simp only [aD];refine aZ ?_
 (with_reducible refine aJ 4 hS sizeOf54 fun _ hS=>?_)
 refine aX (aA.gA hS.sb aI aT) ?_;refine aM ?_;refine bE ?_;clear aI aT
 go_wp2_with (with_reducible first|refine bA 4 hS isAgg54 sizeOf54 ?_|refine aJ 2 hS sizeOf54 fun _ hS=>?_)
 exact fE 2 hS rfl rfl rfl isAgg54 sizeOf54 rfl rfl ⟨y,S4,rfl,gN.step hS gG bZ,hy.at hS bZ⟩
theorem aHJ (s t:Sz):lz s.sg t.sg=⟨(s.a.x:Rat)+((s.b.x - s.a.x:Int):Rat)*((dQ t.a t.b s.a:Rat) / ((dQ t.a t.b s.a:Rat) - (dQ t.a t.b s.b:Rat))),(s.a.y:Rat)+((s.b.y - s.a.y:Int):Rat)*((dQ t.a t.b s.a:Rat) / ((dQ t.a t.b s.a:Rat) - (dQ t.a t.b s.b:Rat)))⟩:=by
 unfold lz;rw [← yV,← yV,Rat.intCast_sub,Rat.intCast_sub,Rat.mul_comm ((s.b.x:Rat) - (s.a.x:Rat)),Rat.mul_comm ((s.b.y:Rat) - (s.a.y:Rat))]
 rfl
theorem aL1 {s t:Sz} (hs:s.a.ok∧s.b.ok) (ht:t.a.ok∧t.b.ok) (hd:dQ t.a t.b s.a≠dQ t.a t.b s.b):Bq 300 (lz s.sg t.sg).x∧Bq 300 (lz s.sg t.sg).y∧Bq 202 ((dQ t.a t.b s.a:Rat) / ((dQ t.a t.b s.a:Rat) - (dQ t.a t.b s.b:Rat))):=by
 have hA:=Bq.int (k:=67) (by omega) (aAP ht.1 ht.2 hs.1);have hB:=Bq.int (k:=67) (by omega) (aAP ht.1 ht.2 hs.2)
 have h0:(dQ t.a t.b s.a:Rat) - (dQ t.a t.b s.b:Rat)≠0:=by
  rw [← Rat.intCast_sub,Ne,Rat.intCast_eq_zero_iff];omega
 have hq:=hA.div (hA.sub hB) h0;rw [aHJ];obtain⟨⟨a1,a2⟩,⟨a3,a4⟩⟩:=hs;unfold fS at *;have k1:Bq 33 (s.a.x:Rat):=Bq.int (by omega) (by omega);have k2:Bq 33 (s.a.y:Rat):=Bq.int (by omega) (by omega);have k3:Bq 33 ((s.b.x - s.a.x:Int):Rat):=Bq.int (by omega) (by omega);have k4:Bq 33 ((s.b.y - s.a.y:Int):Rat):=Bq.int (by omega) (by omega);exact⟨(k1.add (k3.mul hq)).mono (by omega),(k2.add (k4.mul hq)).mono (by omega),hq⟩
def p0:PR:=⟨⟨⟨false,none,0,0⟩,⟨false,none,0,0⟩⟩,⟨⟨false,none,0,0⟩,⟨false,none,0,0⟩⟩⟩
def aHw (w:World) (S:Nat→Prop) (l:List Pt) (e:Ending) (w':World):Prop :=
 (l=[]∧e=.returned (.agg #[.int .i64 0,.bool p0.x.num.neg,.slice p0.x.num.ad p0.x.num.n p0.x.num.cap,.bool p0.x.less.neg,.slice p0.x.less.ad p0.x.less.n p0.x.less.cap,.bool p0.y.num.neg,.slice p0.y.num.ad p0.y.num.n p0.y.num.cap,.bool p0.y.less.neg,.slice p0.y.less.ad p0.y.less.n p0.y.less.cap,.bool p0.x.num.neg,.slice p0.x.num.ad p0.x.num.n p0.x.num.cap,.bool p0.x.less.neg,.slice p0.x.less.ad p0.x.less.n p0.x.less.cap,.bool p0.y.num.neg,.slice p0.y.num.ad p0.y.num.n p0.y.num.cap,.bool p0.y.less.neg,.slice p0.y.less.ad p0.y.less.n p0.y.less.cap])∧Pure w S w' S) ∨
 (∃ p z S',l=[p]∧e=.returned (.agg #[.int .i64 1,.bool z.x.num.neg,.slice z.x.num.ad z.x.num.n z.x.num.cap,.bool z.x.less.neg,.slice z.x.less.ad z.x.less.n z.x.less.cap,.bool z.y.num.neg,.slice z.y.num.ad z.y.num.n z.y.num.cap,.bool z.y.less.neg,.slice z.y.less.ad z.y.less.n z.y.less.cap,.bool p0.x.num.neg,.slice p0.x.num.ad p0.x.num.n p0.x.num.cap,.bool p0.x.less.neg,.slice p0.x.less.ad p0.x.less.n p0.x.less.cap,.bool p0.y.num.neg,.slice p0.y.num.ad p0.y.num.n p0.y.num.cap,.bool p0.y.less.neg,.slice p0.y.less.ad p0.y.less.n p0.y.less.cap])∧Pure w S w' S'∧dh w' S' z p) ∨
 (∃ p q z y S',l=[p,q]∧e=.returned (.agg #[.int .i64 2,.bool z.x.num.neg,.slice z.x.num.ad z.x.num.n z.x.num.cap,.bool z.x.less.neg,.slice z.x.less.ad z.x.less.n z.x.less.cap,.bool z.y.num.neg,.slice z.y.num.ad z.y.num.n z.y.num.cap,.bool z.y.less.neg,.slice z.y.less.ad z.y.less.n z.y.less.cap,.bool y.x.num.neg,.slice y.x.num.ad y.x.num.n y.x.num.cap,.bool y.x.less.neg,.slice y.x.less.ad y.x.less.n y.x.less.cap,.bool y.y.num.neg,.slice y.y.num.ad y.y.num.n y.y.num.cap,.bool y.y.less.neg,.slice y.y.less.ad y.y.less.n y.y.less.cap])∧Pure w S w' S'∧dh w' S' z p∧dh w' S' y q)
def a18 (s t:Sz):List Pt :=
 let f:=if s.a.lt t.a then t.a else s.a
 let g:=if t.b.lt s.b then t.b else s.b
 if f=g then [f.pt] else if g.lt f then [] else [f.pt,g.pt]
theorem aQc (s t:Sz):a18 s.lQ t.lQ=a4S s.sg t.sg:=by
 obtain⟨e1,e2⟩:=s.aIy;obtain⟨e3,e4⟩:=t.aIy;unfold a18 a4S;rw [← e1,← e2,← e3,← e4];simp only [Gp.a3G];generalize s.lQ.a=a;generalize s.lQ.b=b;generalize t.lQ.a=c;generalize t.lQ.b=d;have h1:(if a.lt c then c.pt else a.pt)=(if a.lt c then c else a).pt:=by split <;> rfl
 have h2:(if d.lt b then d.pt else b.pt)=(if d.lt b then d else b).pt:=by split <;> rfl
 rw [h1,h2];simp only [Gp.aBa,Gp.a3G]
theorem aDq (a b:Int):min (a:Rat) (b:Rat)=((min a b:Int):Rat):=by
 rcases Int.le_total a b with h|h
 ·have:(a:Rat)≤(b:Rat):=Rat.intCast_le_intCast.2 h
  rw [Int.min_eq_left h];grind
 ·have:(b:Rat)≤(a:Rat):=Rat.intCast_le_intCast.2 h
  rw [Int.min_eq_right h];grind
theorem aFn (a b:Int):max (a:Rat) (b:Rat)=((max a b:Int):Rat):=by
 rcases Int.le_total a b with h|h
 ·have:(a:Rat)≤(b:Rat):=Rat.intCast_le_intCast.2 h
  rw [Int.max_eq_right h];grind
 ·have:(b:Rat)≤(a:Rat):=Rat.intCast_le_intCast.2 h
  rw [Int.max_eq_left h];grind
theorem aNA (s t:Sz):yc s.sg t.sg↔(max s.bx.x0 t.bx.x0≤min s.bx.x1 t.bx.x1∧max s.bx.y0 t.bx.y0≤min s.bx.y1 t.bx.y1):=by
 unfold yc Sz.sg Gp.pt Sz.bx;simp only [aDq,aFn,Rat.intCast_le_intCast]
theorem aHz (a b:Int):0<gQ a*gQ b↔0<a*b:=by
 unfold gQ
 rcases Int.lt_trichotomy a 0 with h|h|h
 ·rw [if_pos h]
  rcases Int.lt_trichotomy b 0 with g|g|g
  ·rw [if_pos g];have:=Int.mul_pos_of_neg_of_neg h g;simp [this]
  ·subst g;simp
  ·rw [if_neg (by omega),if_pos g];have:=Int.mul_neg_of_neg_of_pos h g;omega
 ·subst h;simp
 ·rw [if_neg (by omega),if_pos h]
  rcases Int.lt_trichotomy b 0 with g|g|g
  ·rw [if_pos g];have:=Int.mul_neg_of_pos_of_neg h g;omega
  ·subst g;simp
  ·rw [if_neg (by omega),if_pos g];have:=Int.mul_pos h g;simp [this]
theorem aAz {a:Int}:gQ a=0↔a=0:=by unfold gQ;split <;> (try split) <;> omega
theorem aAG (a:Int):-1≤gQ a∧gQ a≤1:=by unfold gQ;split <;> (try split) <;> omega
theorem aT0 (s t:Sz):rT s.sg t.sg=if ¬ (max s.bx.x0 t.bx.x0≤min s.bx.x1 t.bx.x1∧max s.bx.y0 t.bx.y0≤min s.bx.y1 t.bx.y1) then [] else
 if gQ (dQ t.a t.b s.a)=0∧gQ (dQ t.a t.b s.b)=0 then a18 s.lQ t.lQ else
 if 0<gQ (dQ t.a t.b s.a)*gQ (dQ t.a t.b s.b)∨0<gQ (dQ s.a s.b t.a)*gQ (dQ s.a s.b t.b) then [] else [lz s.sg t.sg]:=by
 unfold rT;simp only [aNA,aQc,aHz,aAz];have e1:bT t.sg.a t.sg.b s.sg.a=(dQ t.a t.b s.a:Rat):=yV ..;have e2:bT t.sg.a t.sg.b s.sg.b=(dQ t.a t.b s.b:Rat):=yV ..;have e3:bT s.sg.a s.sg.b t.sg.a=(dQ s.a s.b t.a:Rat):=yV ..;have e4:bT s.sg.a s.sg.b t.sg.b=(dQ s.a s.b t.b:Rat):=yV ..;rw [e1,e2,e3,e4]
 have h0:∀ z:Int,0<(z:Rat)↔0<z:=fun z=>by
  have:=@Rat.intCast_lt_intCast 0 z
  simpa using this
 simp only [Rat.intCast_eq_zero_iff,← Rat.intCast_mul,h0]
theorem aWh (s t:Sz) (w:World) (S:Nat→Prop) (hL:aP w S) (hs:s.a.ok∧s.b.ok) (ht:t.a.ok∧t.b.ok) (hd:dQ t.a t.b s.a≠dQ t.a t.b s.b) :
 Calls prog 173 #[.agg #[.int .i64 s.a.x,.int .i64 s.a.y,.int .i64 s.b.x,.int .i64 s.b.y],.agg #[.int .i64 t.a.x,.int .i64 t.a.y,.int .i64 t.b.x,.int .i64 t.b.y]] w (aIr w S (lz s.sg t.sg)):=by
 obtain⟨_,_,yS⟩:=aL1 hs ht hd;have hA:=Bq.int (k:=67) (by omega) (aAP ht.1 ht.2 hs.1);have hB:=Bq.int (k:=67) (by omega) (aAP ht.1 ht.2 hs.2)
 have h0:(dQ t.a t.b s.a:Rat) - (dQ t.a t.b s.b:Rat)≠0:=by
  rw [← Rat.intCast_sub,Ne,Rat.intCast_eq_zero_iff];omega
 rw [aHJ];have ar1:=fun w S hL=>aJG t s.a w S hL ht.1 ht.2 hs.1
 have ar2:=fun w S hL=>aJG t s.b w S hL ht.1 ht.2 hs.2
 clear hd;have e1:∃ q,q=(dQ t.a t.b s.a:Rat):=⟨_,rfl⟩;obtain⟨qa,eA⟩:=e1;have e2:∃ q,q=(dQ t.a t.b s.b:Rat):=⟨_,rfl⟩;obtain⟨qb,eB⟩:=e2;simp only [← eA,← eB] at ar1 ar2 yS hA hB h0 ⊢;clear eA eB;obtain⟨hS,aC,bC,bD⟩:=eR hL
 go_enter func173,ntmps173
 go_wp2_with (with_reducible first|refine cI hS fun bx cu hS=>?_|refine bH hS zeroValue56 fun br fu hS=>?_)
 refine kQ 1 [.r 0,.p 1,.r 2,.r 4,.p 5,.r 6,.e 3,.e 7] [.e 10,.e 11] [] [eU 8 5 54 (.agg #[.bool false,.slice none 0 0,.bool false,.slice none 0 0]),eU 9 6 54 (.agg #[.bool false,.slice none 0 0,.bool false,.slice none 0 0])] w _ (by kernel_rfl) (by kernel_rfl) (a0n rfl zeroValue54 rfl zeroValue54 (by decide) (by decide)) hS.drew ?_;obtain⟨aI,aT⟩:=hS.jw
 repeat (with_reducible first|refine kq 2 isAgg95 sizeOf95 ?_|refine py 1 isAgg29 sizeOf29 ?_|refine lF ?_)
 refine eI rfl (fun B wB hS=>?_);simp only [aK] at hS
 go_wp2_with (fail)
 refine (ar1 _ S (aP.at hS aC)).mono ?_;rintro e w' ⟨u,S1,rfl,az,hu⟩;simp only [];go_step;have aT:=aA.fC hS az.below aI aT;replace hS:=hS.aj aC bC bD az;obtain⟨F1,aG,gp,bB,av,hS⟩:=hS;have aI:=dZ.trans aI gp;refine eH (H:=_) hS aI aT ?_;refine dz ?_;refine eI rfl (fun B wB hS=>?_);simp only [aK] at hS
 go_wp2_with (fail)
 refine (ar2 _ S1 (aP.at hS aG)).mono ?_;rintro e w' ⟨v,S2,rfl,aR,hv⟩;simp only [];go_step;have hu:=(hu.at hS aG).grow aR;have aT:=aA.fC hS aR.below aI aT;replace hS:=hS.aj aG av bB aR;obtain⟨F2,aQ,jV,bR,bP,hS⟩:=hS;have aI:=dZ.trans aI jV;refine eH (H:=_) hS aI aT ?_;refine dz ?_;refine a0H (fun b5 b6 wB hS=>?_);simp only [aK] at hS;simp only [aD];refine aZ ?_
 (with_reducible refine aJ 4 hS sizeOf54 fun _ hS=>?_)
 refine aX (aA.gA hS.sb aI aT) ?_;refine aM ?_;refine aZ ?_
 (with_reducible refine aJ 5 hS sizeOf54 fun _ hS=>?_)
 refine aX (aA.gA hS.sb aI aT) ?_;refine aM ?_;refine bE ?_;clear aI aT
 go_wp2_with (with_reducible first|refine bA 4 hS isAgg54 sizeOf54 ?_|refine bA 5 hS isAgg54 sizeOf54 ?_)
 refine (zi u v qa qb 67 67 _ S2 (hu.at hS aQ) (hv.at hS aQ) (aP.at hS aQ) hA hB (by omega)).mono ?_;rintro e w' ⟨wh,S3,rfl,bI,hwh⟩;have hu:=(hu.at hS aQ).grow bI;replace hS:=hS.aj aQ bP bR bI;obtain⟨F3,bM,-,dP,dE,hS⟩:=hS;simp only [iW]
 go_wp2_with (with_reducible first|refine bH hS zeroValue54 fun b7 wb7 hS=>?_|refine aJ 6 hS sizeOf54 fun _ hS=>?_|refine bA 4 hS isAgg54 sizeOf54 ?_|refine bA 6 hS isAgg54 sizeOf54 ?_)
 refine (aG4 u wh qa (qa - qb) 67 (67+67+1) _ S3 (hu.at hS bM) (hwh.at hS bM) (aP.at hS bM) hA (hA.sub hB) (by omega) h0).mono ?_;rintro e w' ⟨q,S4,rfl,cY,hq⟩;replace hS:=hS.aj bM dE dP cY;obtain⟨F4,bZ,-,gN,gG,hS⟩:=hS;simp only [iW]
 go_wp2_with (with_reducible first|refine bH hS zeroValue54 fun b9 xX hS=>?_|refine aJ 7 hS sizeOf54 fun _ hS=>?_)
 refine gI [.p 0,.p 1,.r 2,.p 3,.p 4,.r 5,.r 6,.p 8,.p 9,.r 10,.p 11,.p 12,.r 13,.r 14,.e 7,.e 15,.p 16,.m 17] [17] (fun w'=>aA w w' _) (by kernel_rfl) (by as_aux_lemma=>kernel_rfl) hS.drew (fun w1 hS=>?_);have hC:=hS
 repeat (with_reducible first|refine cZ 1 isAgg3 ?_|refine cz 7 isAgg54 sizeOf54 ?_|refine bU ?_)
 refine aZ ?_
 go_wp2_with (fail)
 refine (aGK s.a.x s.b.x q _ 202 _ S4 (hq.at hS bZ) (aP.at hS bZ) hs.1.1 hs.2.1 yS (by omega)).mono ?_;rintro e w' ⟨x,S5,rfl,gh,hx⟩;simp only [];go_step;have hq:=(hq.at hS bZ).grow gh;have hC:=hC.below gh.below gh.drawn;replace hS:=hS.aj bZ gG gN gh;obtain⟨F5,cG,-,gR,ff,hS⟩:=hS;refine aX hC ?_;refine aM ?_;refine aZ ?_
 go_wp2_with (fail)
 refine (aGK s.a.y s.b.y q _ 202 _ S5 (hq.at hS cG) (aP.at hS cG) hs.1.2 hs.2.2 yS (by omega)).mono ?_;rintro e w' ⟨y,S6,rfl,lT,hy⟩;simp only [];go_step;have hx:=(hx.at hS cG).grow lT;have hC:=hC.below lT.below lT.drawn;replace hS:=hS.aj cG ff gR lT;obtain⟨F6,eO,-,kY,j4,hS⟩:=hS;refine aX hC ?_;refine aM ?_;refine dC ?_
 (with_reducible refine aJ 3 hS sizeOf56 fun _ hS=>?_)
 refine dD ?_;refine aM ?_;refine bE ?_;go_wp2;exact fE 3 hS rfl rfl rfl isAgg56 sizeOf56 rfl rfl ⟨⟨x,y⟩,S6,rfl,kY.step hS j4 eO,hx.at hS eO,hy.at hS eO⟩
theorem pv (a b:Gp) (w:World):(Op.equalIn 10000 29 (.agg #[.int .i64 a.x,.int .i64 a.y]) (.agg #[.int .i64 b.x,.int .i64 b.y])).run prog w=.ok (decide (a=b)) w:=by
 obtain⟨x,y⟩:=a;obtain⟨u,v⟩:=b;have he:((⟨x,y⟩:Gp)=⟨u,v⟩)↔(x=u∧y=v):=by simp
 simp only [he]
 by_cases h1:x=u
 ·by_cases h2:y=v
  ·subst h1 h2
   go_simp
  ·go_simp
 ·go_simp
theorem aUs (s t:Sz) (w:World) (S:Nat→Prop) (hL:aP w S) (hs:s.a.ok∧s.b.ok) (ht:t.a.ok∧t.b.ok) :
 Calls prog 171 #[.agg #[.int .i64 s.a.x,.int .i64 s.a.y,.int .i64 s.b.x,.int .i64 s.b.y],.agg #[.int .i64 t.a.x,.int .i64 t.a.y,.int .i64 t.b.x,.int .i64 t.b.y]] w (aHw w S (a18 s t)):=by
 obtain⟨L,eL⟩:∃ L,L=a18 s t:=⟨_,rfl⟩;rw [← eL];unfold a18 at eL;replace eL:=Hd eL;obtain⟨hS,aC,bC,bD⟩:=eR hL
 go_enter func171,ntmps171
 go_wp2_with (with_reducible first|refine cI hS fun bx cu hS=>?_|refine bH hS zeroValue199 fun br fu hS=>?_)
 refine kQ 1 [.p 0,.r 1,.p 2,.r 3] [.e 6,.e 7] [] [eU 4 5 29 (.agg #[.int .i64 0,.int .i64 0]),eU 5 6 29 (.agg #[.int .i64 0,.int .i64 0])] w _ (by kernel_rfl) (by kernel_rfl) (a0n rfl zeroValue29 rfl zeroValue29 (by decide) (by decide)) hS.drew ?_;obtain⟨aI,aT⟩:=hS.jw
 repeat (with_reducible first|refine py 1 isAgg29 sizeOf29 ?_|refine lF ?_)
 refine a0H (fun b5 b6 wB hS=>?_);simp only [aK] at hS;simp only [aD];refine aZ ?_
 (with_reducible refine aJ 4 hS sizeOf29 fun _ hS=>?_)
 refine aX (aA.gA hS.sb aI aT) ?_;refine aM ?_;refine aZ ?_
 (with_reducible refine aJ 5 hS sizeOf29 fun _ hS=>?_)
 refine aX (aA.gA hS.sb aI aT) ?_;refine aM ?_;refine bE ?_;clear aI aT
 go_wp2_with (with_reducible first|refine eW 2 hS isAgg29 sizeOf29 ?_|refine bA 4 hS isAgg29 sizeOf29 ?_)
 refine (yR s.a t.a _).mono ?_;rintro e w' ⟨rfl,hq⟩;have hS:=hS.below hq.below hq.drawn;simp only []
 by_cases h1:s.a.lt t.a
 ·have eo:decide (s.a.lt t.a)=true:=by simpa using h1
  rw [eo];replace h1:=Hd h1;clear eo
  go_wp2_with (with_reducible first|refine eW 2 hS isAgg29 sizeOf29 ?_|refine bA 5 hS isAgg29 sizeOf29 ?_|refine aJ 4 hS sizeOf29 fun _ hS=>?_)
  refine (yR t.b s.b _).mono ?_;rintro e w' ⟨rfl,hq⟩;have hS:=hS.below hq.below hq.drawn;simp only []
  by_cases h2:t.b.lt s.b
  ·have fH:decide (t.b.lt s.b)=true:=by simpa using h2
   rw [fH];replace h2:=Hd h2;clear fH;have fj:L=if t.a=t.b then [(t.a).pt] else if (t.b).lt t.a then [] else [(t.a).pt,(t.b).pt]:=by have e:=eL.out;simp only [if_pos h1.out,if_pos h2.out] at e;exact e
   replace fj:=Hd fj;clear eL
   by_cases gJ:t.a=t.b
   ·have HE:∀ w,(Op.equalIn 10000 29 (.agg #[.int .i64 t.a.x,.int .i64 t.a.y]) (.agg #[.int .i64 t.b.x,.int .i64 t.b.y])).run prog w=.ok true w:=fun w=>by rw [pv];simp [gJ]
    replace gJ:=Hd gJ
    go_wp2_with (with_reducible first|refine eW 2 hS isAgg29 sizeOf29 ?_|refine aJ 5 hS sizeOf29 fun _ hS=>?_|refine bA 4 hS isAgg29 sizeOf29 ?_|refine bA 5 hS isAgg29 sizeOf29 ?_)
    refine (o6 _ _ _ S (by unfold bQ;have:=(ht.1).1;unfold fS at this;omega) (by unfold bQ;have:=(ht.1).2;unfold fS at this;omega) (aP.at hS aC)).mono ?_;rintro e w' ⟨z,S1,rfl,hq,hz⟩;replace hS:=hS.aj aC bC bD hq;obtain⟨F1,aG,-,bB,av,hS⟩:=hS;simp only []
    go_wp2_with (with_reducible refine aJ 3 hS sizeOf199 fun _ hS=>?_)
    exact fE 3 hS rfl rfl rfl isAgg199 sizeOf199 rfl rfl (.inr (.inl ⟨_,z,S1,by rw [fj.out,if_pos gJ.out];rfl,rfl,bB.step hS av aG,hz.at hS aG⟩))
   ·have HE:∀ w,(Op.equalIn 10000 29 (.agg #[.int .i64 t.a.x,.int .i64 t.a.y]) (.agg #[.int .i64 t.b.x,.int .i64 t.b.y])).run prog w=.ok false w:=fun w=>by rw [pv];simp [gJ]
    replace gJ:=Hd gJ
    go_wp2_with (with_reducible first|refine eW 2 hS isAgg29 sizeOf29 ?_|refine aJ 5 hS sizeOf29 fun _ hS=>?_|refine bA 4 hS isAgg29 sizeOf29 ?_|refine bA 5 hS isAgg29 sizeOf29 ?_)
    refine (yR t.b t.a _).mono ?_;rintro e w' ⟨rfl,hq⟩;have hS:=hS.below hq.below hq.drawn;simp only [];clear HE
    by_cases aW:(t.b).lt t.a
    ·have jI:decide ((t.b).lt t.a)=true:=by simpa using aW
     rw [jI];replace aW:=Hd aW;clear jI
     go_wp2_with (with_reducible refine aJ 3 hS sizeOf199 fun _ hS=>?_)
     exact fE 3 hS rfl rfl rfl isAgg199 sizeOf199 rfl rfl (.inl ⟨by rw [fj.out,if_neg gJ.out,if_pos aW.out],rfl,hS.pure S⟩)
    ·have jI:decide ((t.b).lt t.a)=false:=by simpa using aW
     rw [jI];replace aW:=Hd aW;clear jI;go_wp2;refine dB [.r 0,.r 2,.e 1,.e 3,.p 4,.m 5] [5] hS fun w1 hS=>?_
     have hC:=hS
     repeat (with_reducible first|refine cz 4 isAgg29 sizeOf29 ?_|refine cz 5 isAgg29 sizeOf29 ?_)
     refine aZ ?_
     go_wp2_with (fail)
     refine (o6 _ _ _ S (by unfold bQ;have:=(ht.1).1;unfold fS at this;omega) (by unfold bQ;have:=(ht.1).2;unfold fS at this;omega) (aP.at hS aC)).mono ?_;rintro e w' ⟨z,S1,rfl,hq,hz⟩;simp only [];go_step;have hC:=hC.below hq.below hq.drawn;replace hS:=hS.aj aC bC bD hq;obtain⟨F1,aG,-,bB,av,hS⟩:=hS;refine aX hC ?_;refine aM ?_;refine aZ ?_
     go_wp2_with (fail)
     refine (o6 _ _ _ S1 (by unfold bQ;have:=(ht.2).1;unfold fS at this;omega) (by unfold bQ;have:=(ht.2).2;unfold fS at this;omega) (aP.at hS aG)).mono ?_;rintro e w' ⟨y,S2,rfl,aR,hy⟩;simp only [];go_step;have hz:=(hz.at hS aG).grow aR;have hC:=hC.below aR.below aR.drawn;replace hS:=hS.aj aG av bB aR;obtain⟨F2,aQ,-,bR,bP,hS⟩:=hS;refine aX hC ?_;refine aM ?_;refine dC ?_
     (with_reducible refine aJ 3 hS sizeOf199 fun _ hS=>?_)
     refine dD ?_;refine aM ?_;refine bE ?_;go_wp2;exact fE 3 hS rfl rfl rfl isAgg199 sizeOf199 rfl rfl (.inr (.inr ⟨_,_,z,y,S2,by rw [fj.out,if_neg gJ.out,if_neg aW.out];rfl,rfl,bR.step hS bP aQ,hz.at hS aQ,hy.at hS aQ⟩))
  ·have fH:decide (t.b.lt s.b)=false:=by simpa using h2
   rw [fH];replace h2:=Hd h2;clear fH;have fj:L=if t.a=s.b then [(t.a).pt] else if (s.b).lt t.a then [] else [(t.a).pt,(s.b).pt]:=by have e:=eL.out;simp only [if_pos h1.out,if_neg h2.out] at e;exact e
   replace fj:=Hd fj;clear eL
   by_cases gJ:t.a=s.b
   ·have HE:∀ w,(Op.equalIn 10000 29 (.agg #[.int .i64 t.a.x,.int .i64 t.a.y]) (.agg #[.int .i64 s.b.x,.int .i64 s.b.y])).run prog w=.ok true w:=fun w=>by rw [pv];simp [gJ]
    replace gJ:=Hd gJ
    go_wp2_with (first|(with_reducible refine eW 2 hS isAgg29 sizeOf29 ?_)|fail|(with_reducible first|refine bA 4 hS isAgg29 sizeOf29 ?_|refine bA 5 hS isAgg29 sizeOf29 ?_))
    refine (o6 _ _ _ S (by unfold bQ;have:=(ht.1).1;unfold fS at this;omega) (by unfold bQ;have:=(ht.1).2;unfold fS at this;omega) (aP.at hS aC)).mono ?_;rintro e w' ⟨z,S1,rfl,hq,hz⟩;replace hS:=hS.aj aC bC bD hq;obtain⟨F1,aG,-,bB,av,hS⟩:=hS;simp only []
    go_wp2_with (with_reducible refine aJ 3 hS sizeOf199 fun _ hS=>?_)
    exact fE 3 hS rfl rfl rfl isAgg199 sizeOf199 rfl rfl (.inr (.inl ⟨_,z,S1,by rw [fj.out,if_pos gJ.out];rfl,rfl,bB.step hS av aG,hz.at hS aG⟩))
   ·have HE:∀ w,(Op.equalIn 10000 29 (.agg #[.int .i64 t.a.x,.int .i64 t.a.y]) (.agg #[.int .i64 s.b.x,.int .i64 s.b.y])).run prog w=.ok false w:=fun w=>by rw [pv];simp [gJ]
    replace gJ:=Hd gJ
    go_wp2_with (first|(with_reducible refine eW 2 hS isAgg29 sizeOf29 ?_)|fail|(with_reducible first|refine bA 4 hS isAgg29 sizeOf29 ?_|refine bA 5 hS isAgg29 sizeOf29 ?_))
    refine (yR s.b t.a _).mono ?_;rintro e w' ⟨rfl,hq⟩;have hS:=hS.below hq.below hq.drawn;simp only [];clear HE
    by_cases aW:(s.b).lt t.a
    ·have jI:decide ((s.b).lt t.a)=true:=by simpa using aW
     rw [jI];replace aW:=Hd aW;clear jI
     go_wp2_with (with_reducible refine aJ 3 hS sizeOf199 fun _ hS=>?_)
     exact fE 3 hS rfl rfl rfl isAgg199 sizeOf199 rfl rfl (.inl ⟨by rw [fj.out,if_neg gJ.out,if_pos aW.out],rfl,hS.pure S⟩)
    ·have jI:decide ((s.b).lt t.a)=false:=by simpa using aW
     rw [jI];replace aW:=Hd aW;clear jI;go_wp2;refine dB [.r 0,.r 2,.e 1,.e 3,.p 4,.m 5] [5] hS fun w1 hS=>?_
     have hC:=hS
     repeat (with_reducible first|refine cz 4 isAgg29 sizeOf29 ?_|refine cz 5 isAgg29 sizeOf29 ?_)
     refine aZ ?_
     go_wp2_with (fail)
     refine (o6 _ _ _ S (by unfold bQ;have:=(ht.1).1;unfold fS at this;omega) (by unfold bQ;have:=(ht.1).2;unfold fS at this;omega) (aP.at hS aC)).mono ?_;rintro e w' ⟨z,S1,rfl,hq,hz⟩;simp only [];go_step;have hC:=hC.below hq.below hq.drawn;replace hS:=hS.aj aC bC bD hq;obtain⟨F1,aG,-,bB,av,hS⟩:=hS;refine aX hC ?_;refine aM ?_;refine aZ ?_
     go_wp2_with (fail)
     refine (o6 _ _ _ S1 (by unfold bQ;have:=(hs.2).1;unfold fS at this;omega) (by unfold bQ;have:=(hs.2).2;unfold fS at this;omega) (aP.at hS aG)).mono ?_;rintro e w' ⟨y,S2,rfl,aR,hy⟩;simp only [];go_step;have hz:=(hz.at hS aG).grow aR;have hC:=hC.below aR.below aR.drawn;replace hS:=hS.aj aG av bB aR;obtain⟨F2,aQ,-,bR,bP,hS⟩:=hS;refine aX hC ?_;refine aM ?_;refine dC ?_
     (with_reducible refine aJ 3 hS sizeOf199 fun _ hS=>?_)
     refine dD ?_;refine aM ?_;refine bE ?_;go_wp2;exact fE 3 hS rfl rfl rfl isAgg199 sizeOf199 rfl rfl (.inr (.inr ⟨_,_,z,y,S2,by rw [fj.out,if_neg gJ.out,if_neg aW.out];rfl,rfl,bR.step hS bP aQ,hz.at hS aQ,hy.at hS aQ⟩))
 ·have eo:decide (s.a.lt t.a)=false:=by simpa using h1
  rw [eo];replace h1:=Hd h1;clear eo
  go_wp2_with (with_reducible first|refine eW 2 hS isAgg29 sizeOf29 ?_|refine bA 5 hS isAgg29 sizeOf29 ?_)
  refine (yR t.b s.b _).mono ?_;rintro e w' ⟨rfl,hq⟩;have hS:=hS.below hq.below hq.drawn;simp only []
  by_cases h2:t.b.lt s.b
  ·have fH:decide (t.b.lt s.b)=true:=by simpa using h2
   rw [fH];replace h2:=Hd h2;clear fH;have fj:L=if s.a=t.b then [(s.a).pt] else if (t.b).lt s.a then [] else [(s.a).pt,(t.b).pt]:=by have e:=eL.out;simp only [if_neg h1.out,if_pos h2.out] at e;exact e
   replace fj:=Hd fj;clear eL
   by_cases gJ:s.a=t.b
   ·have HE:∀ w,(Op.equalIn 10000 29 (.agg #[.int .i64 s.a.x,.int .i64 s.a.y]) (.agg #[.int .i64 t.b.x,.int .i64 t.b.y])).run prog w=.ok true w:=fun w=>by rw [pv];simp [gJ]
    replace gJ:=Hd gJ
    go_wp2_with (with_reducible first|refine eW 2 hS isAgg29 sizeOf29 ?_|refine aJ 5 hS sizeOf29 fun _ hS=>?_|refine bA 4 hS isAgg29 sizeOf29 ?_|refine bA 5 hS isAgg29 sizeOf29 ?_)
    refine (o6 _ _ _ S (by unfold bQ;have:=(hs.1).1;unfold fS at this;omega) (by unfold bQ;have:=(hs.1).2;unfold fS at this;omega) (aP.at hS aC)).mono ?_;rintro e w' ⟨z,S1,rfl,hq,hz⟩;replace hS:=hS.aj aC bC bD hq;obtain⟨F1,aG,-,bB,av,hS⟩:=hS;simp only []
    go_wp2_with (with_reducible refine aJ 3 hS sizeOf199 fun _ hS=>?_)
    exact fE 3 hS rfl rfl rfl isAgg199 sizeOf199 rfl rfl (.inr (.inl ⟨_,z,S1,by rw [fj.out,if_pos gJ.out];rfl,rfl,bB.step hS av aG,hz.at hS aG⟩))
   ·have HE:∀ w,(Op.equalIn 10000 29 (.agg #[.int .i64 s.a.x,.int .i64 s.a.y]) (.agg #[.int .i64 t.b.x,.int .i64 t.b.y])).run prog w=.ok false w:=fun w=>by rw [pv];simp [gJ]
    replace gJ:=Hd gJ
    go_wp2_with (with_reducible first|refine eW 2 hS isAgg29 sizeOf29 ?_|refine aJ 5 hS sizeOf29 fun _ hS=>?_|refine bA 4 hS isAgg29 sizeOf29 ?_|refine bA 5 hS isAgg29 sizeOf29 ?_)
    refine (yR t.b s.a _).mono ?_;rintro e w' ⟨rfl,hq⟩;have hS:=hS.below hq.below hq.drawn;simp only [];clear HE
    by_cases aW:(t.b).lt s.a
    ·have jI:decide ((t.b).lt s.a)=true:=by simpa using aW
     rw [jI];replace aW:=Hd aW;clear jI
     go_wp2_with (with_reducible refine aJ 3 hS sizeOf199 fun _ hS=>?_)
     exact fE 3 hS rfl rfl rfl isAgg199 sizeOf199 rfl rfl (.inl ⟨by rw [fj.out,if_neg gJ.out,if_pos aW.out],rfl,hS.pure S⟩)
    ·have jI:decide ((t.b).lt s.a)=false:=by simpa using aW
     rw [jI];replace aW:=Hd aW;clear jI;go_wp2;refine dB [.r 0,.r 2,.e 1,.e 3,.p 4,.m 5] [5] hS fun w1 hS=>?_
     have hC:=hS
     repeat (with_reducible first|refine cz 4 isAgg29 sizeOf29 ?_|refine cz 5 isAgg29 sizeOf29 ?_)
     refine aZ ?_
     go_wp2_with (fail)
     refine (o6 _ _ _ S (by unfold bQ;have:=(hs.1).1;unfold fS at this;omega) (by unfold bQ;have:=(hs.1).2;unfold fS at this;omega) (aP.at hS aC)).mono ?_;rintro e w' ⟨z,S1,rfl,hq,hz⟩;simp only [];go_step;have hC:=hC.below hq.below hq.drawn;replace hS:=hS.aj aC bC bD hq;obtain⟨F1,aG,-,bB,av,hS⟩:=hS;refine aX hC ?_;refine aM ?_;refine aZ ?_
     go_wp2_with (fail)
     refine (o6 _ _ _ S1 (by unfold bQ;have:=(ht.2).1;unfold fS at this;omega) (by unfold bQ;have:=(ht.2).2;unfold fS at this;omega) (aP.at hS aG)).mono ?_;rintro e w' ⟨y,S2,rfl,aR,hy⟩;simp only [];go_step;have hz:=(hz.at hS aG).grow aR;have hC:=hC.below aR.below aR.drawn;replace hS:=hS.aj aG av bB aR;obtain⟨F2,aQ,-,bR,bP,hS⟩:=hS;refine aX hC ?_;refine aM ?_;refine dC ?_
     (with_reducible refine aJ 3 hS sizeOf199 fun _ hS=>?_)
     refine dD ?_;refine aM ?_;refine bE ?_;go_wp2;exact fE 3 hS rfl rfl rfl isAgg199 sizeOf199 rfl rfl (.inr (.inr ⟨_,_,z,y,S2,by rw [fj.out,if_neg gJ.out,if_neg aW.out];rfl,rfl,bR.step hS bP aQ,hz.at hS aQ,hy.at hS aQ⟩))
  ·have fH:decide (t.b.lt s.b)=false:=by simpa using h2
   rw [fH];replace h2:=Hd h2;clear fH;have fj:L=if s.a=s.b then [(s.a).pt] else if (s.b).lt s.a then [] else [(s.a).pt,(s.b).pt]:=by have e:=eL.out;simp only [if_neg h1.out,if_neg h2.out] at e;exact e
   replace fj:=Hd fj;clear eL
   by_cases gJ:s.a=s.b
   ·have HE:∀ w,(Op.equalIn 10000 29 (.agg #[.int .i64 s.a.x,.int .i64 s.a.y]) (.agg #[.int .i64 s.b.x,.int .i64 s.b.y])).run prog w=.ok true w:=fun w=>by rw [pv];simp [gJ]
    replace gJ:=Hd gJ
    go_wp2_with (first|(with_reducible refine eW 2 hS isAgg29 sizeOf29 ?_)|fail|(with_reducible first|refine bA 4 hS isAgg29 sizeOf29 ?_|refine bA 5 hS isAgg29 sizeOf29 ?_))
    refine (o6 _ _ _ S (by unfold bQ;have:=(hs.1).1;unfold fS at this;omega) (by unfold bQ;have:=(hs.1).2;unfold fS at this;omega) (aP.at hS aC)).mono ?_;rintro e w' ⟨z,S1,rfl,hq,hz⟩;replace hS:=hS.aj aC bC bD hq;obtain⟨F1,aG,-,bB,av,hS⟩:=hS;simp only []
    go_wp2_with (with_reducible refine aJ 3 hS sizeOf199 fun _ hS=>?_)
    exact fE 3 hS rfl rfl rfl isAgg199 sizeOf199 rfl rfl (.inr (.inl ⟨_,z,S1,by rw [fj.out,if_pos gJ.out];rfl,rfl,bB.step hS av aG,hz.at hS aG⟩))
   ·have HE:∀ w,(Op.equalIn 10000 29 (.agg #[.int .i64 s.a.x,.int .i64 s.a.y]) (.agg #[.int .i64 s.b.x,.int .i64 s.b.y])).run prog w=.ok false w:=fun w=>by rw [pv];simp [gJ]
    replace gJ:=Hd gJ
    go_wp2_with (first|(with_reducible refine eW 2 hS isAgg29 sizeOf29 ?_)|fail|(with_reducible first|refine bA 4 hS isAgg29 sizeOf29 ?_|refine bA 5 hS isAgg29 sizeOf29 ?_))
    refine (yR s.b s.a _).mono ?_;rintro e w' ⟨rfl,hq⟩;have hS:=hS.below hq.below hq.drawn;simp only [];clear HE
    by_cases aW:(s.b).lt s.a
    ·have jI:decide ((s.b).lt s.a)=true:=by simpa using aW
     rw [jI];replace aW:=Hd aW;clear jI
     go_wp2_with (with_reducible refine aJ 3 hS sizeOf199 fun _ hS=>?_)
     exact fE 3 hS rfl rfl rfl isAgg199 sizeOf199 rfl rfl (.inl ⟨by rw [fj.out,if_neg gJ.out,if_pos aW.out],rfl,hS.pure S⟩)
    ·have jI:decide ((s.b).lt s.a)=false:=by simpa using aW
     rw [jI];replace aW:=Hd aW;clear jI;go_wp2;refine dB [.r 0,.r 2,.e 1,.e 3,.p 4,.m 5] [5] hS fun w1 hS=>?_
     have hC:=hS
     repeat (with_reducible first|refine cz 4 isAgg29 sizeOf29 ?_|refine cz 5 isAgg29 sizeOf29 ?_)
     refine aZ ?_
     go_wp2_with (fail)
     refine (o6 _ _ _ S (by unfold bQ;have:=(hs.1).1;unfold fS at this;omega) (by unfold bQ;have:=(hs.1).2;unfold fS at this;omega) (aP.at hS aC)).mono ?_;rintro e w' ⟨z,S1,rfl,hq,hz⟩;simp only [];go_step;have hC:=hC.below hq.below hq.drawn;replace hS:=hS.aj aC bC bD hq;obtain⟨F1,aG,-,bB,av,hS⟩:=hS;refine aX hC ?_;refine aM ?_;refine aZ ?_
     go_wp2_with (fail)
     refine (o6 _ _ _ S1 (by unfold bQ;have:=(hs.2).1;unfold fS at this;omega) (by unfold bQ;have:=(hs.2).2;unfold fS at this;omega) (aP.at hS aG)).mono ?_;rintro e w' ⟨y,S2,rfl,aR,hy⟩;simp only [];go_step;have hz:=(hz.at hS aG).grow aR;have hC:=hC.below aR.below aR.drawn;replace hS:=hS.aj aG av bB aR;obtain⟨F2,aQ,-,bR,bP,hS⟩:=hS;refine aX hC ?_;refine aM ?_;refine dC ?_
     (with_reducible refine aJ 3 hS sizeOf199 fun _ hS=>?_)
     refine dD ?_;refine aM ?_;refine bE ?_;go_wp2;exact fE 3 hS rfl rfl rfl isAgg199 sizeOf199 rfl rfl (.inr (.inr ⟨_,_,z,y,S2,by rw [fj.out,if_neg gJ.out,if_neg aW.out];rfl,rfl,bR.step hS bP aQ,hz.at hS aQ,hy.at hS aQ⟩))
theorem _root_.Go.Hp.Sz.aJg {s:Sz} (h:s.a.ok∧s.b.ok):s.lQ.a.ok∧s.lQ.b.ok:=by
 unfold Sz.lQ;split
 ·exact⟨h.2,h.1⟩
 ·exact h
theorem aIA {a b:Int} (ha:-1≤a∧a≤1) (hb:-1≤b∧b≤1):-1≤a*b∧a*b≤1:=by
 have h1:a = -1∨a=0∨a=1:=by omega
 rcases h1 with rfl|rfl|rfl <;> omega
theorem aNg (s t:Sz) (w:World) (S:Nat→Prop) (hL:aP w S) (hs:s.a.ok∧s.b.ok) (ht:t.a.ok∧t.b.ok) :
 Calls prog 119 #[.agg #[.int .i64 s.a.x,.int .i64 s.a.y,.int .i64 s.b.x,.int .i64 s.b.y],.agg #[.int .i64 t.a.x,.int .i64 t.a.y,.int .i64 t.b.x,.int .i64 t.b.y]] w (aHw w S (rT s.sg t.sg)):=by
 obtain⟨L,eL⟩:∃ L,L=rT s.sg t.sg:=⟨_,rfl⟩;rw [← eL];rw [aT0] at eL;have sd1:=fun w' S' eM=>a4t t s.a w' S' eM ht.1 ht.2 hs.1
 have sd2:=fun w' S' eM=>a4t t s.b w' S' eM ht.1 ht.2 hs.2
 have sd3:=fun w' S' eM=>a4t s t.a w' S' eM hs.1 hs.2 ht.1
 have sd4:=fun w' S' eM=>a4t s t.b w' S' eM hs.1 hs.2 ht.2
 have ln:=fun w' S' eM=>aUs s.lQ t.lQ w' S' eM (Sz.aJg hs) (Sz.aJg ht)
 have cx:=fun w' S' eM=>aWh s t w' S' eM hs ht
 have bm:=fun w'=>aR2 s.bx t.bx w'
 have a6L:gQ (dQ t.a t.b s.a)*gQ (dQ t.a t.b s.b)≤0→¬ (gQ (dQ t.a t.b s.a)=0∧gQ (dQ t.a t.b s.b)=0)→dQ t.a t.b s.a≠dQ t.a t.b s.b:=by
  intro h1 h2 h3;rw [h3] at h1 h2;have h4:¬ 0<dQ t.a t.b s.b*dQ t.a t.b s.b:=fun h=>by have:=(aHz _ _).2 h;omega
  have h5:dQ t.a t.b s.b≠0:=fun h=>h2 ⟨aAz.2 h,aAz.2 h⟩
  apply h4
  rcases Int.lt_or_gt_of_ne h5 with h|h
  ·exact Int.mul_pos_of_neg_of_neg h h
  ·exact Int.mul_pos h h
 have g1:=aAG (dQ t.a t.b s.a);have g2:=aAG (dQ t.a t.b s.b);have g3:=aAG (dQ s.a s.b t.a);have g4:=aAG (dQ s.a s.b t.b);obtain⟨c1,e1⟩:∃ c1,c1=gQ (dQ t.a t.b s.a):=⟨_,rfl⟩;obtain⟨c2,e2⟩:∃ c2,c2=gQ (dQ t.a t.b s.b):=⟨_,rfl⟩;obtain⟨c3,e3⟩:∃ c3,c3=gQ (dQ s.a s.b t.a):=⟨_,rfl⟩;obtain⟨c4,e4⟩:∃ c4,c4=gQ (dQ s.a s.b t.b):=⟨_,rfl⟩;simp only [← e1,← e2,← e3,← e4] at eL sd1 sd2 sd3 sd4 a6L g1 g2 g3 g4;clear e1 e2 e3 e4;replace eL:=Hd eL;replace a6L:=Hd a6L;obtain⟨hS,aC,bC,bD⟩:=eR hL
 go_enter func119,ntmps119
 go_wp2_with (with_reducible first|refine cI hS fun bx cu hS=>?_|refine bH hS zeroValue199 fun br fu hS=>?_)
 refine dB [.r 0,.r 2,.e 1,.e 3,.e 4,.p 5] [] hS fun w1 hS=>?_
 repeat (with_reducible first|refine cz 1 isAgg95 sizeOf95 ?_|refine cz 2 isAgg95 sizeOf95 ?_)
 refine aZ ?_
 go_wp2_with (fail)
 refine (aEq s _).mono ?_;rintro e w' ⟨rfl,az⟩;simp only [];go_step;have hS:=hS.below az.below az.drawn;refine aX hS ?_;refine aM ?_;refine aZ ?_
 go_wp2_with (fail)
 refine (aEq t _).mono ?_;rintro e w' ⟨rfl,az⟩;simp only [];go_step;have hS:=hS.below az.below az.drawn;refine aX hS ?_;refine aM ?_;refine aZ ?_
 go_wp2_with (fail)
 refine (bm _).mono ?_;rintro e w' ⟨rfl,az⟩;simp only [];go_step;have hS:=hS.below az.below az.drawn;refine aX hS ?_
 by_cases hb:max s.bx.x0 t.bx.x0≤min s.bx.x1 t.bx.x1∧max s.bx.y0 t.bx.y0≤min s.bx.y1 t.bx.y1
 ·have hd:decide (max s.bx.x0 t.bx.x0≤min s.bx.x1 t.bx.x1∧max s.bx.y0 t.bx.y0≤min s.bx.y1 t.bx.y1)=true:=by simpa using hb
  rw [hd];clear hd;replace hb:=Hd hb;refine aM ?_;refine bE ?_;go_wp2;refine dB [.r 0,.p 1,.r 2,.r 4,.p 5,.r 6,.e 3,.e 7,.p 8,.p 9] [] hS fun w1 hS=>?_
  have hC:=hS
  repeat (with_reducible first|refine cz 2 isAgg95 sizeOf95 ?_|refine tf 1 isAgg29 sizeOf29 ?_|refine bU ?_)
  refine aZ ?_
  go_wp2_with (fail)
  refine (sd1 _ S (aP.at hS aC)).mono ?_;rintro e w' ⟨rfl,hq⟩;simp only [];go_step;have hC:=hC.below hq.below hq.drawn;replace hS:=hS.aj aC bC bD hq;obtain⟨F1,aG,-,bB,av,hS⟩:=hS;refine aX hC ?_;refine aM ?_;refine aZ ?_
  go_wp2_with (fail)
  refine (sd2 _ S (aP.at hS aG)).mono ?_;rintro e w' ⟨rfl,hq⟩;simp only [];go_step;have hC:=hC.below hq.below hq.drawn;replace hS:=hS.aj aG av bB hq;obtain⟨F2,aQ,-,bR,bP,hS⟩:=hS;refine aX hC ?_;refine aM ?_;refine bE ?_;clear hC
  by_cases hz:c1=0∧c2=0
  ·obtain⟨rfl,rfl⟩:=hz
   go_wp2;refine dB [.r 0,.r 2,.e 1,.e 3,.e 4,.m 5] [5] hS fun w1 hS=>?_
   have hC:=hS
   repeat (with_reducible first|refine cz 1 isAgg95 sizeOf95 ?_|refine cz 2 isAgg95 sizeOf95 ?_)
   refine aZ ?_
   go_wp2_with (fail)
   refine (aHF s _).mono ?_;rintro e w' ⟨rfl,az⟩;simp only [];go_step;have hS:=hS.below az.below az.drawn;have hC:=hC.below az.below az.drawn;refine aX hC ?_;refine aM ?_;refine aZ ?_
   go_wp2_with (fail)
   refine (aHF t _).mono ?_;rintro e w' ⟨rfl,az⟩;simp only [];go_step;have hS:=hS.below az.below az.drawn;have hC:=hC.below az.below az.drawn;refine aX hC ?_;refine aM ?_;refine aZ ?_
   go_wp2_with (fail)
   refine (ln _ S (aP.at hS aQ)).mono ?_;have fj:=eL.out;rw [if_neg (by simpa using hb.out),if_pos (by simp)] at fj;rintro e w' (⟨hl,rfl,hq⟩|⟨p,z,S1,hl,rfl,hq,hz⟩|⟨p,q,z,y,S1,hl,rfl,hq,hz,hy⟩)
   ·replace fj:=Hd (fj.trans hl)
    clear hl;simp only [];go_step;have hC:=hC.below hq.below hq.drawn;replace hS:=hS.aj aQ bP bR hq;obtain⟨F3,bM,-,dP,dE,hS⟩:=hS;refine aX hC ?_;refine aM ?_;refine dC ?_
    (with_reducible refine aJ 3 hS sizeOf199 fun _ hS=>?_)
    refine dD ?_;refine aM ?_;refine bE ?_;go_wp2;exact fE 3 hS rfl rfl rfl isAgg199 sizeOf199 rfl rfl (.inl ⟨fj.out,rfl,dP.step hS dE bM⟩)
   ·replace fj:=Hd (fj.trans hl)
    clear hl;simp only [];go_step;have hC:=hC.below hq.below hq.drawn;replace hS:=hS.aj aQ bP bR hq;obtain⟨F3,bM,-,dP,dE,hS⟩:=hS;refine aX hC ?_;refine aM ?_;refine dC ?_
    (with_reducible refine aJ 3 hS sizeOf199 fun _ hS=>?_)
    refine dD ?_;refine aM ?_;refine bE ?_;go_wp2;exact fE 3 hS rfl rfl rfl isAgg199 sizeOf199 rfl rfl (.inr (.inl ⟨_,z,S1,fj.out,rfl,dP.step hS dE bM,hz.at hS bM⟩))
   ·replace fj:=Hd (fj.trans hl)
    clear hl;simp only [];go_step;have hC:=hC.below hq.below hq.drawn;replace hS:=hS.aj aQ bP bR hq;obtain⟨F3,bM,-,dP,dE,hS⟩:=hS;refine aX hC ?_;refine aM ?_;refine dC ?_
    (with_reducible refine aJ 3 hS sizeOf199 fun _ hS=>?_)
    refine dD ?_;refine aM ?_;refine bE ?_;go_wp2;exact fE 3 hS rfl rfl rfl isAgg199 sizeOf199 rfl rfl (.inr (.inr ⟨_,_,z,y,S1,fj.out,rfl,dP.step hS dE bM,hz.at hS bM,hy.at hS bM⟩))
  ·have fj:=eL.out
   rw [if_neg (by simpa using hb.out),if_neg hz] at fj;replace fj:=Hd fj;clear eL;have t12:=aIA g1 g2;have t34:=aIA g3 g4;have w12:IntKind.i64.wrap (c1*c2)=c1*c2:=w6;have w34:IntKind.i64.wrap (c3*c4)=c3*c4:=w6;clear t12 t34
   by_cases ef:c1=0
   ·have aYY:(c1 == 0)=true:=by simp [ef]
    have aXo:(c2 == 0)=false:=by simpa using fun h=>hz ⟨ef,h⟩
    replace hz:=Hd hz;clear ef;go_wp2;refine dB [.p 0,.p 1,.p 2,.p 3,.p 4,.r 5,.p 6,.r 7,.r 9,.p 10,.r 11,.e 8,.e 12,.p 13,.p 14,.p 15] [] hS fun w1 hS=>?_
    have hC:=hS
    by_cases lC:0<c1*c2
    ·have eo:decide (0<c1*c2)=true:=by simpa using lC
     replace lC:=Hd lC
     repeat (with_reducible first|refine gm ?_|refine bU ?_)
     refine aZ ?_;refine sf rfl ?_;refine aX hC ?_;refine aM ?_;refine aZ ?_;refine sf rfl ?_;refine aX hC ?_;refine aM ?_;refine bE ?_;clear hC
     go_wp2_with (with_reducible refine aJ 3 hS sizeOf199 fun _ hS=>?_)
     exact fE 3 hS rfl rfl rfl isAgg199 sizeOf199 rfl rfl (.inl ⟨by rw [fj.out,if_pos (.inl lC.out)],rfl,bR.step hS bP aQ⟩)
    ·have eo:decide (0<c1*c2)=false:=by simpa using lC
     replace lC:=Hd lC
     repeat (with_reducible first|refine cz 1 isAgg95 sizeOf95 ?_|refine tf 2 isAgg29 sizeOf29 ?_|refine bU ?_)
     refine aZ ?_
     go_wp2_with (fail)
     refine (sd3 _ S (aP.at hS aQ)).mono ?_;rintro e w' ⟨rfl,hq⟩;simp only [];go_step;have hC:=hC.below hq.below hq.drawn;replace hS:=hS.aj aQ bP bR hq;obtain⟨F3,bM,-,dP,dE,hS⟩:=hS;refine aX hC ?_;refine aM ?_;refine aZ ?_
     go_wp2_with (fail)
     refine (sd4 _ S (aP.at hS bM)).mono ?_;rintro e w' ⟨rfl,hq⟩;simp only [];go_step;have hC:=hC.below hq.below hq.drawn;replace hS:=hS.aj bM dE dP hq;obtain⟨F4,bZ,-,gN,gG,hS⟩:=hS;refine aX hC ?_
     by_cases oy:0<c3*c4
     ·have fH:decide (0<c3*c4)=true:=by simpa using oy
      replace oy:=Hd oy;refine aM ?_;refine bE ?_;clear hC
      go_wp2_with (with_reducible refine aJ 3 hS sizeOf199 fun _ hS=>?_)
      exact fE 3 hS rfl rfl rfl isAgg199 sizeOf199 rfl rfl (.inl ⟨by rw [fj.out,if_pos (.inr oy.out)],rfl,gN.step hS gG bZ⟩)
     ·have fH:decide (0<c3*c4)=false:=by simpa using oy
      replace oy:=Hd oy;refine aM ?_;refine bE ?_;clear hC
      go_wp2_with (with_reducible first|refine bA 1 hS isAgg95 sizeOf95 ?_|refine bA 2 hS isAgg95 sizeOf95 ?_)
      refine (cx _ S (aP.at hS bZ) (a6L.out (by have:=lC.out;omega) hz.out)).mono ?_;rintro e w' ⟨z,S1,rfl,hq,fG⟩;replace hS:=hS.aj bZ gG gN hq;obtain⟨F5,cG,-,gR,ff,hS⟩:=hS;simp only []
      go_wp2_with (with_reducible refine aJ 3 hS sizeOf199 fun _ hS=>?_)
      exact fE 3 hS rfl rfl rfl isAgg199 sizeOf199 rfl rfl (.inr (.inl ⟨_,z,S1,by rw [fj.out,if_neg (by have h1:=lC.out;have h2:=oy.out;omega)],rfl,gR.step hS ff cG,fG.at hS cG⟩))
   ·have aX9:(c1 == 0)=false:=by simpa using ef
    replace hz:=Hd hz;clear ef;go_wp2;refine dB [.p 0,.p 1,.p 2,.p 3,.p 4,.r 5,.p 6,.r 7,.r 9,.p 10,.r 11,.e 8,.e 12,.p 13,.p 14,.p 15] [] hS fun w1 hS=>?_
    have hC:=hS
    by_cases lC:0<c1*c2
    ·have eo:decide (0<c1*c2)=true:=by simpa using lC
     replace lC:=Hd lC
     repeat (with_reducible first|refine gm ?_|refine bU ?_)
     refine aZ ?_;refine sf rfl ?_;refine aX hC ?_;refine aM ?_;refine aZ ?_;refine sf rfl ?_;refine aX hC ?_;refine aM ?_;refine bE ?_;clear hC
     go_wp2_with (with_reducible refine aJ 3 hS sizeOf199 fun _ hS=>?_)
     exact fE 3 hS rfl rfl rfl isAgg199 sizeOf199 rfl rfl (.inl ⟨by rw [fj.out,if_pos (.inl lC.out)],rfl,bR.step hS bP aQ⟩)
    ·have eo:decide (0<c1*c2)=false:=by simpa using lC
     replace lC:=Hd lC
     repeat (with_reducible first|refine cz 1 isAgg95 sizeOf95 ?_|refine tf 2 isAgg29 sizeOf29 ?_|refine bU ?_)
     refine aZ ?_
     go_wp2_with (fail)
     refine (sd3 _ S (aP.at hS aQ)).mono ?_;rintro e w' ⟨rfl,hq⟩;simp only [];go_step;have hC:=hC.below hq.below hq.drawn;replace hS:=hS.aj aQ bP bR hq;obtain⟨F3,bM,-,dP,dE,hS⟩:=hS;refine aX hC ?_;refine aM ?_;refine aZ ?_
     go_wp2_with (fail)
     refine (sd4 _ S (aP.at hS bM)).mono ?_;rintro e w' ⟨rfl,hq⟩;simp only [];go_step;have hC:=hC.below hq.below hq.drawn;replace hS:=hS.aj bM dE dP hq;obtain⟨F4,bZ,-,gN,gG,hS⟩:=hS;refine aX hC ?_
     by_cases oy:0<c3*c4
     ·have fH:decide (0<c3*c4)=true:=by simpa using oy
      replace oy:=Hd oy;refine aM ?_;refine bE ?_;clear hC
      go_wp2_with (with_reducible refine aJ 3 hS sizeOf199 fun _ hS=>?_)
      exact fE 3 hS rfl rfl rfl isAgg199 sizeOf199 rfl rfl (.inl ⟨by rw [fj.out,if_pos (.inr oy.out)],rfl,gN.step hS gG bZ⟩)
     ·have fH:decide (0<c3*c4)=false:=by simpa using oy
      replace oy:=Hd oy;refine aM ?_;refine bE ?_;clear hC
      go_wp2_with (with_reducible first|refine bA 1 hS isAgg95 sizeOf95 ?_|refine bA 2 hS isAgg95 sizeOf95 ?_)
      refine (cx _ S (aP.at hS bZ) (a6L.out (by have:=lC.out;omega) hz.out)).mono ?_;rintro e w' ⟨z,S1,rfl,hq,fG⟩;replace hS:=hS.aj bZ gG gN hq;obtain⟨F5,cG,-,gR,ff,hS⟩:=hS;simp only []
      go_wp2_with (with_reducible refine aJ 3 hS sizeOf199 fun _ hS=>?_)
      exact fE 3 hS rfl rfl rfl isAgg199 sizeOf199 rfl rfl (.inr (.inl ⟨_,z,S1,by rw [fj.out,if_neg (by have h1:=lC.out;have h2:=oy.out;omega)],rfl,gR.step hS ff cG,fG.at hS cG⟩))
 ·have hd:decide (max s.bx.x0 t.bx.x0≤min s.bx.x1 t.bx.x1∧max s.bx.y0 t.bx.y0≤min s.bx.y1 t.bx.y1)=false:=by simpa using hb
  rw [hd];clear hd;replace hb:=Hd hb;refine aM ?_;refine bE ?_
  go_wp2_with (with_reducible refine aJ 3 hS sizeOf199 fun _ hS=>?_)
  exact fE 3 hS rfl rfl rfl isAgg199 sizeOf199 rfl rfl (.inl ⟨by rw [eL.out,if_pos (by simpa using hb.out)],rfl,hS.pure S⟩)
end Go.Hp
