/- Texts for the walk of the law: K23 D0 GA. -/
import Derived.Test.YtihpoboahbpaiaaGreatQ14
set_option maxRecDepth 100000
set_option maxHeartbeats 16000000
set_option linter.unusedVariables false
set_option linter.unusedSimpArgs false
namespace Go.Hp
open Go.Proofs.Tryz
open Go Go.RowKit
section
variable {P:Program} {ops:Array Oper}
theorem boxesOk4 {i1 i2 i3 i4:Nat} {t1 t2 t3 t4:Tmp} {T ty1 ty2 ty3 ty4:TypeId} {z:Value} {p1 p2 p3 p4:String} {a1 a2 a3 a4:Array Edge} (h1:ops[i1]? = some ⟨some t1,.alloc T,ty1,p1,a1,none⟩) (h2:ops[i2]? = some ⟨some t2,.alloc T,ty2,p2,a2,none⟩) (h3:ops[i3]? = some ⟨some t3,.alloc T,ty3,p3,a3,none⟩) (h4:ops[i4]? = some ⟨some t4,.alloc T,ty4,p4,a4,none⟩)
 (hz:∀ w,(zeroValue T).run P w=.ok z w) (hi:[i1,i2,i3,i4].Nodup) (ht:[t1,t2,t3,t4].Nodup):BoxesOk P ops [bxz i1 t1 T z,bxz i2 t2 T z,bxz i3 t3 T z,bxz i4 t4 T z] :=
 ⟨fun p hp=>by
  simp only [List.mem_cons,List.not_mem_nil,or_false] at hp
  rcases hp with rfl|rfl|rfl|rfl
  ·exact bxz_ok h1 hz
  ·exact bxz_ok h2 hz
  ·exact bxz_ok h3 hz
  ·exact bxz_ok h4 hz,by simpa [bxz] using hi,by simpa [bxz] using ht⟩
end
theorem Pure.back {w w':World} {S S':Nat→Prop} (h:Pure w S w' S'):Pure w S w' S:=⟨h.below,h.drawn,fun _ h=>h,fun _ h=>.inl h⟩
noncomputable def boxAt (w:World) (b:Nat):Nat:=match w.heap[b]? with
 | some (.cells cs _ _)=>magAt w (cs.getD 1 undef)
 | _=>0
theorem boxAt_eq {w w0:World} {H:List Chunk} {b:Nat} {x:WI} {z:Int} {T:TypeId} {S:Nat→Prop} (hS:Heap w0 w H) (hm:Chunk.blk b (.cells #[.bool x.neg,.slice x.ad x.n x.cap] T (0,0)) ∈ H) (hx:IsI w S x z):boxAt w b=z.natAbs:=by
 unfold boxAt;rw [hS.blk hm];obtain⟨l,h1,h2,h3,h4,h5⟩:=hx;show magAt w (.slice x.ad x.n x.cap)=_;rw [magAt_eq h1,h5]
end Go.Hp
namespace Go.Proofs
open Go.Proofs.Tryz
open Go.RowKit Go.Hp
theorem cmpZ_bd (a b:Int):-1≤cmpZ a b∧cmpZ a b≤1:=by unfold cmpZ;split <;> (try split) <;> omega
theorem cmpZ_swap (a b:Int):cmpZ b a = -cmpZ a b:=by unfold cmpZ;split <;> split <;> (try split) <;> (try split) <;> omega
theorem cmpZ_shift {a b c d:Int} (h:a - b=c - d):cmpZ a b=cmpZ c d:=by unfold cmpZ;split <;> split <;> (try split) <;> (try split) <;> omega
def cmpF (p q r s:Int):Int:=cmpZ (p*s) (r*q)
theorem cmpF_whole {p q r s:Int} (hq:0<q) (hs:0<s) (hne:p / q≠r / s):cmpF p q r s=cmpZ (p / q) (r / s):=by
 have h1:=Int.mul_ediv_add_emod p q;have h2:=Int.mul_ediv_add_emod r s;have h3:=Int.emod_lt_of_pos p hq;have h4:=Int.emod_lt_of_pos r hs;have h5:=Int.emod_nonneg p (show q≠0 by omega);have h6:=Int.emod_nonneg r (show s≠0 by omega);generalize p / q=x at *;generalize r / s=y at *;generalize p % q=m at *;generalize r % s=n at *
 have key:∀ {p q r s x y m n:Int},0<q→0<s→q*x+m=p→s*y+n=r→0≤m→m<q→0≤n→x<y→p*s<r*q:=by
  intro p q r s x y m n hq hs h1 h2 h5 h3 h6 hlt;have e1:p+1≤q*(x+1):=by rw [Int.mul_add,Int.mul_one];omega
  have e2:q*(x+1)≤q*y:=Int.mul_le_mul_of_nonneg_left (by omega) (by omega);have e3:(p+1)*s≤(q*y)*s:=Int.mul_le_mul_of_nonneg_right (by omega) (by omega);have e4:(s*y)*q≤r*q:=Int.mul_le_mul_of_nonneg_right (by omega) (by omega);have e5:(q*y)*s=(s*y)*q:=by grind
  rw [Int.add_mul,Int.one_mul] at e3;omega
 unfold cmpF
 rcases Int.lt_or_gt_of_ne hne with hlt|hgt
 ·have:=key hq hs h1 h2 h5 h3 h6 hlt
  simp [cmpZ,this,hlt]
 ·have:=key hs hq h2 h1 h6 h4 h5 hgt
  have h7:¬ p*s<r*q:=by omega
  have h8:¬ x<y:=by omega
  simp [cmpZ,this,hgt,h7,h8]
theorem cmpF_rest {p q r s:Int} (he:p / q=r / s):cmpF p q r s=cmpZ ((p % q)*s) ((r % s)*q):=by
 have h1:=Int.mul_ediv_add_emod p q;have h2:=Int.mul_ediv_add_emod r s;unfold cmpF;apply cmpZ_shift;rw [he] at h1;generalize r / s=y at *;generalize p % q=m at *;generalize r % s=n at *;subst h1 h2
 grind
theorem cmpF_end {q s m n:Int} (hq:0<q) (hs:0<s) (hm:0≤m) (hn:0≤n) (h0:m=0∨n=0):cmpZ (m*s) (n*q)=cmpZ m 0 - cmpZ n 0:=by
 rcases h0 with rfl|rfl
 ·rw [Int.zero_mul]
  rcases Int.lt_or_eq_of_le hn with h|h
  ·have:=Int.mul_pos h hq
   simp only [cmpZ];rw [if_pos this,if_neg (by omega),if_neg (by omega),if_neg (by omega),if_pos h];rfl
  ·subst h;simp [cmpZ]
 ·rw [Int.zero_mul]
  rcases Int.lt_or_eq_of_le hm with h|h
  ·have:=Int.mul_pos h hs
   simp only [cmpZ];rw [if_neg (by omega),if_pos this,if_neg (by omega),if_pos h];simp
  ·subst h;simp [cmpZ]
theorem cmpF_turn (q s m n:Int):cmpZ (m*s) (n*q) = -cmpF q m s n:=by
 unfold cmpF;rw [← cmpZ_swap,Int.mul_comm q n,Int.mul_comm s m]
theorem compareF_any (x y:FR) (a b:Rat) (w:World) (S:Nat→Prop) (hx:IsF w S x a) (hy:IsF w S y b) (hL:Liv w S) :
 Calls Tryz.prog 46 #[.agg #[.bool x.num.neg,.slice x.num.ad x.num.n x.num.cap,.bool x.less.neg,.slice x.less.ad x.less.n x.less.cap],.agg #[.bool y.num.neg,.slice y.num.ad y.num.n y.num.cap,.bool y.less.neg,.slice y.less.ad y.less.n y.less.cap]] w fun e w'=>e=.returned (.int .i64 (cmpF a.num a.den b.num b.den))∧Pure w S w' S:=by
 have hdp:=a.den_pos;have hdq:=b.den_pos;obtain⟨G,hG⟩:∃ G,cmpF a.num a.den b.num b.den=G:=⟨_,rfl⟩;replace hG:=Hd hG;obtain⟨hS,hF0,hO0,hp0⟩:=st0 hL;rw [hG.out]
 go_enter func46,ntmps46
 go_wp2_with (with_reducible refine bxA hS fun bx wbx hS=>?_)
 refine wp_region_box 1000 [.p 0,.r 1,.r 2,.p 4,.r 5,.r 6,.e 3,.e 7] [.e 12,.e 13,.e 14,.e 15] [] [bxz 8 5 52 (.agg #[.bool false,.slice none 0 0]),bxz 9 6 52 (.agg #[.bool false,.slice none 0 0]),bxz 10 7 52 (.agg #[.bool false,.slice none 0 0]),bxz 11 8 52 (.agg #[.bool false,.slice none 0 0])] w _ (by kernel_rfl) (by as_aux_lemma=>kernel_rfl) (boxesOk4 rfl rfl rfl rfl zeroValue52 (by decide) (by decide)) hS.drew ?_;obtain⟨hsC,hkC⟩:=hS.cstart
 repeat (with_reducible first|refine pldK 1 isAgg52 sizeOf52 ?_|refine pldA 1 isAgg54 sizeOf54 ?_|refine pldK 2 isAgg52 sizeOf52 ?_|refine pldA 2 isAgg54 sizeOf54 ?_|refine ppL ?_)
 refine pre_ext rfl (fun B wB hS=>?_);simp only [NRH] at hS
 go_wp2_with (fail)
 refine (den_any x a _ S (hx.at hS hF0) (Liv.at hS hF0)).mono ?_;rintro e w' ⟨d1,S1,rfl,hq,hd1⟩;simp only [];go_step;have hx:=(hx.at hS hF0).grow hq;have hy:=(hy.at hS hF0).grow hq;have hkC:=Heap.keepC hS hq.below hsC hkC;replace hS:=hS.pcl hF0 hO0 hp0 hq;obtain⟨F1,hF1,hOO1,hp1,hO1,hS⟩:=hS;have hsC:=SubC.trans hsC hOO1;refine pre_end (H:=[_,_]) hS hsC hkC ?_;refine mvp ?_;refine pre_ext rfl (fun B wB hS=>?_);simp only [NRH] at hS
 go_wp2_with (fail)
 refine (den_any y b _ S1 (hy.at hS hF1) (Liv.at hS hF1)).mono ?_;rintro e w' ⟨d2,S2,rfl,hq2,hd2⟩;simp only [];go_step;have hx:=(hx.at hS hF1).grow hq2;have hy:=(hy.at hS hF1).grow hq2;have hd1:=(hd1.at hS hF1).grow hq2;have hkC:=Heap.keepC hS hq2.below hsC hkC;replace hS:=hS.pcl hF1 hO1 hp1 hq2;obtain⟨F2,hF2,hOO2,hp2,hO2,hS⟩:=hS;have hsC:=SubC.trans hsC hOO2;refine pre_end (H:=[_,_]) hS hsC hkC ?_;refine mvp ?_;refine pre_nil4 (fun b5 b6 b7 b8 wB hS=>?_);simp only [NRH] at hS;simp only [NRM];refine exL ?_
 (with_reducible refine stA 3 hS sizeOf52 fun _ hS=>?_)
 refine ext_end (Heap.toC hS.sb hsC hkC) ?_;refine mvs ?_;refine exL ?_
 (with_reducible refine stA 4 hS sizeOf52 fun _ hS=>?_)
 refine ext_end (Heap.toC hS.sb hsC hkC) ?_;refine mvs ?_;refine exL ?_
 (with_reducible refine stA 5 hS sizeOf52 fun _ hS=>?_)
 refine ext_end (Heap.toC hS.sb hsC hkC) ?_;refine mvs ?_;refine exL ?_
 (with_reducible refine stA 6 hS sizeOf52 fun _ hS=>?_)
 refine ext_end (Heap.toC hS.sb hsC hkC) ?_;refine mvs ?_;refine snL ?_;clear hsC hkC;have hpn:=hx.num;have hrn:=hy.num;have hS:=hS.pick [0,3,4,5,6] rfl;simp only [NRF] at hS
 go_wp2_with (fail)
 go_loopw [9] (fun v9 wr=>∃ (sg p q r s:Int) (zp zq zr zs:WI) (S1 F:Nat→Prop) (wq:World),(sg=1∨sg = -1)∧v9=.int .i64 sg∧0<q∧0<s∧sg*cmpF p q r s=G∧Heap w wr [.frz F wq,.blk b5 (.cells #[.bool zp.neg,.slice zp.ad zp.n zp.cap] 52 (0,0)),.blk b6 (.cells #[.bool zq.neg,.slice zq.ad zq.n zq.cap] 52 (0,0)),.blk b7 (.cells #[.bool zr.neg,.slice zr.ad zr.n zr.cap] 52 (0,0)),.blk b8 (.cells #[.bool zs.neg,.slice zs.ad zs.n zs.cap] 52 (0,0))]∧(∀ k,S1 k→F k)∧(∀ k,Old w k→F k)∧Pure w S wq S1∧IsI wq S1 zp p∧IsI wq S1 zq q∧IsI wq S1 zr r∧IsI wq S1 zs s) (fun _ w=>boxAt w b6)
 case atStart=>exact⟨1,a.num,a.den,b.num,b.den,_,_,_,_,S2,F2,_,.inl rfl,rfl,by omega,by omega,by rw [Int.one_mul];exact hG.out,hS,hF2,hO2,hp2,hpn,hd1,hrn,hd2⟩
 case round =>
  clear hS;clear hF0 hO0 hp0 hF1 hO1 hp1 hF2 hO2 hp2 hx hy hd1 hd2 hpn hrn;obtain⟨sg,p,q,r,s,zp,zq,zr,zs,S1,F1,wq,hsg,rfl,hq0,hs0,hG2,hS,hF1,hO1,hp1,hzp,hzq,hzr,hzs⟩:=hrel;have hM0:=boxAt_eq hS (List.mem_of_getElem? (i:=2) rfl) (hzq.at hS hF1);replace hM0:=Hd hM0;replace hG2:=Hd hG2;replace hsg:=Hd hsg
  go_wp2_with (with_reducible first|refine ldA 1 hS isAgg52 sizeOf52 ?_|refine ldA 2 hS isAgg52 sizeOf52 ?_)
  refine (divI_any zp zq p q _ S1 (hzp.at hS hF1) (hzq.at hS hF1) (Liv.at hS hF1) (by omega)).mono ?_;rintro e w' ⟨x,rest,S2,rfl,hqa,hx,hrest⟩;have hzq:=(hzq.at hS hF1).grow hqa;have hzr:=(hzr.at hS hF1).grow hqa;have hzs:=(hzs.at hS hF1).grow hqa;replace hS:=hS.pcl hF1 hO1 hp1 hqa;obtain⟨F2,hF2,hOO2,hp2,hO2,hS⟩:=hS;simp only []
  go_wp2_with (with_reducible first|refine alA hS zeroValue52 fun bz wbz hS=>?_|refine stA 5 hS sizeOf52 fun _ hS=>?_|refine stA 6 hS sizeOf52 fun _ hS=>?_|refine ldA 3 hS isAgg52 sizeOf52 ?_|refine ldA 4 hS isAgg52 sizeOf52 ?_)
  refine (divI_any zr zs r s _ S2 (hzr.at hS hF2) (hzs.at hS hF2) (Liv.at hS hF2) (by omega)).mono ?_;rintro e w' ⟨y,other,S3,rfl,hqb,hy,hother⟩;have hzq:=(hzq.at hS hF2).grow hqb;have hzs:=(hzs.at hS hF2).grow hqb;have hx:=(hx.at hS hF2).grow hqb;have hrest:=(hrest.at hS hF2).grow hqb;replace hS:=hS.pcl hF2 hO2 hp2 hqb;obtain⟨F3,hF3,-,hp3,hO3,hS⟩:=hS;simp only []
  go_wp2_with (with_reducible first|refine alA hS zeroValue52 fun bz wbz hS=>?_|refine stA 7 hS sizeOf52 fun _ hS=>?_|refine stA 8 hS sizeOf52 fun _ hS=>?_|refine ldA 5 hS isAgg52 sizeOf52 ?_|refine ldA 7 hS isAgg52 sizeOf52 ?_)
  refine (compareI_any x y (p / q) (r / s) _ S3 (hx.at hS hF3) (hy.at hS hF3)).mono ?_;rintro e w' ⟨rfl,hqc⟩;have hzq:=(hzq.at hS hF3).grow hqc;have hzs:=(hzs.at hS hF3).grow hqc;have hx:=(hx.at hS hF3).grow hqc;have hrest:=(hrest.at hS hF3).grow hqc;have hy:=(hy.at hS hF3).grow hqc;have hother:=(hother.at hS hF3).grow hqc;replace hS:=hS.pcl hF3 hO3 hp3 hqc;obtain⟨F4,hF4,-,hp4,hO4,hS⟩:=hS;simp only [];obtain⟨c,hc⟩:∃ c,cmpZ (p / q) (r / s)=c:=⟨_,rfl⟩;have hcb:=cmpZ_bd (p / q) (r / s);rw [hc] at hcb;rw [hc]
  by_cases hc0:c=0
  ·subst hc0
   have heq:p / q=r / s:=cmpZ_eq0.1 hc;have hm0:=Int.emod_nonneg p (show q≠0 by omega);have hn0:=Int.emod_nonneg r (show s≠0 by omega);have hmq:=Int.emod_lt_of_pos p hq0;have hns:=Int.emod_lt_of_pos r hs0;have hrest2:=cmpF_rest (q:=q) (s:=s) heq;replace heq:=Hd heq;replace hc:=Hd hc;replace hrest2:=Hd hrest2;obtain⟨m,hm⟩:∃ m,p % q=m:=⟨_,rfl⟩;obtain⟨n,hn⟩:∃ n,r % s=n:=⟨_,rfl⟩;rw [hm] at hm0 hmq hrest hrest2;rw [hn] at hn0 hns hother hrest2
   by_cases hz:m=0∨n=0
   ·have hend:=cmpF_end hq0 hs0 hm0 hn0 hz
    obtain⟨ca,hca⟩:∃ ca,cmpZ m 0=ca:=⟨_,rfl⟩;obtain⟨cb,hcb2⟩:∃ cb,cmpZ n 0=cb:=⟨_,rfl⟩
    have hab:ca=0∨cb=0:=by
     rcases hz with h|h
     ·left;rw [← hca,h];rfl
     ·right;rw [← hcb2,h];rfl
    have hba:=cmpZ_bd m 0;have hbb:=cmpZ_bd n 0;rw [hca] at hba hend;rw [hcb2] at hbb hend;have hfin:=Hd (show sg*(ca - cb)=G by rw [← hend,← hrest2.out];exact hG2.out);have hw1:IntKind.i64.wrap (ca - cb)=ca - cb:=w6
    have hw2:IntKind.i64.wrap (sg*(ca - cb))=sg*(ca - cb):=by
     rcases hsg.out with rfl|rfl
     ·exact w6
     ·exact w6
    clear hend
    by_cases hca0:ca=0
    ·have hcat:(ca == 0)=true:=by simp [hca0]
     clear hab hba hbb;replace hca0:=Hd hca0
     go_wp2_with (with_reducible refine ldA 6 hS isAgg52 sizeOf52 ?_)
     refine (signI_any rest m _ S3 (hrest.at hS hF4)).mono ?_;rintro e w' ⟨rfl,hqd⟩;have hzq:=(hzq.at hS hF4).grow hqd;have hzs:=(hzs.at hS hF4).grow hqd;have hrest:=(hrest.at hS hF4).grow hqd;have hother:=(hother.at hS hF4).grow hqd;replace hS:=hS.pcl hF4 hO4 hp4 hqd;obtain⟨F5,hF5,-,hp5,hO5,hS⟩:=hS;rw [hca];simp only [];go_wp2;refine rg0 [.p 0,.r 1,.r 3,.e 2,.e 4,.p 5,.p 6,.p 7] [] hS fun w1 hS=>?_
     have hC:=hS
     repeat (with_reducible first|refine sldA 6 isAgg52 sizeOf52 ?_|refine sldA 8 isAgg52 sizeOf52 ?_|refine spL ?_)
     refine exL ?_
     go_wp2_with (fail)
     refine (signI_any rest m _ S3 (hrest.at hS hF5)).mono ?_;rintro e w' ⟨rfl,hqe⟩;simp only [];go_step;have hother:=(hother.at hS hF5).grow hqe;have hC:=hC.below hqe.below hqe.drawn;replace hS:=hS.pcl hF5 hO5 hp5 hqe;obtain⟨F6,hF6,-,hp6,hO6,hS⟩:=hS;rw [hca];refine ext_end hC ?_;refine mvs ?_;refine exL ?_
     go_wp2_with (fail)
     refine (signI_any other n _ S3 (hother.at hS hF6)).mono ?_;rintro e w' ⟨rfl,hqf⟩;simp only [];go_step;have hC:=hC.below hqf.below hqf.drawn;replace hS:=hS.pcl hF6 hO6 hp6 hqf;obtain⟨F7,hF7,-,hp7,hO7,hS⟩:=hS;rw [hcb2];refine ext_end hC ?_;refine mvs ?_;refine snL ?_;go_wp2;go_ret;exact⟨ret_int hfin.out,(hp7.step hS hO7 hF7).back⟩
    ·have hcaf:(ca == 0)=false:=by simpa using hca0
     have hcbt:(cb == 0)=true:=by
      rcases hab with h|h
      ·exact absurd h hca0
      ·simp [h]
     go_wp2_with (with_reducible refine ldA 6 hS isAgg52 sizeOf52 ?_)
     refine (signI_any rest m _ S3 (hrest.at hS hF4)).mono ?_;rintro e w' ⟨rfl,hqd⟩;have hzq:=(hzq.at hS hF4).grow hqd;have hzs:=(hzs.at hS hF4).grow hqd;have hrest:=(hrest.at hS hF4).grow hqd;have hother:=(hother.at hS hF4).grow hqd;replace hS:=hS.pcl hF4 hO4 hp4 hqd;obtain⟨F5,hF5,-,hp5,hO5,hS⟩:=hS;rw [hca];simp only []
     go_wp2_with (with_reducible refine ldA 8 hS isAgg52 sizeOf52 ?_)
     refine (signI_any other n _ S3 (hother.at hS hF5)).mono ?_;rintro e w' ⟨rfl,hqd⟩;have hzq:=(hzq.at hS hF5).grow hqd;have hzs:=(hzs.at hS hF5).grow hqd;have hrest:=(hrest.at hS hF5).grow hqd;have hother:=(hother.at hS hF5).grow hqd;replace hS:=hS.pcl hF5 hO5 hp5 hqd;obtain⟨F6,hF6,-,hp6,hO6,hS⟩:=hS;rw [hcb2];simp only [];go_wp2;refine rg0 [.p 0,.r 1,.r 3,.e 2,.e 4,.p 5,.p 6,.p 7] [] hS fun w1 hS=>?_
     have hC:=hS
     repeat (with_reducible first|refine sldA 6 isAgg52 sizeOf52 ?_|refine sldA 8 isAgg52 sizeOf52 ?_|refine spL ?_)
     refine exL ?_
     go_wp2_with (fail)
     refine (signI_any rest m _ S3 (hrest.at hS hF6)).mono ?_;rintro e w' ⟨rfl,hqe⟩;simp only [];go_step;have hother:=(hother.at hS hF6).grow hqe;have hC:=hC.below hqe.below hqe.drawn;replace hS:=hS.pcl hF6 hO6 hp6 hqe;obtain⟨F7,hF7,-,hp7,hO7,hS⟩:=hS;rw [hca];refine ext_end hC ?_;refine mvs ?_;refine exL ?_
     go_wp2_with (fail)
     refine (signI_any other n _ S3 (hother.at hS hF7)).mono ?_;rintro e w' ⟨rfl,hqf⟩;simp only [];go_step;have hC:=hC.below hqf.below hqf.drawn;replace hS:=hS.pcl hF7 hO7 hp7 hqf;obtain⟨F8,hF8,-,hp8,hO8,hS⟩:=hS;rw [hcb2];refine ext_end hC ?_;refine mvs ?_;refine snL ?_;go_wp2;go_ret;exact⟨ret_int hfin.out,(hp8.step hS hO8 hF8).back⟩
   ·have hca:cmpZ m 0=1:=by have:¬ m=0:=fun h=>hz (.inl h);unfold cmpZ;rw [if_neg (by omega),if_pos (by omega)]
    have hcb2:cmpZ n 0=1:=by have:¬ n=0:=fun h=>hz (.inr h);unfold cmpZ;rw [if_neg (by omega),if_pos (by omega)]
    have hwn:IntKind.i64.wrap (-sg) = -sg:=by rcases hsg.out with rfl|rfl <;> rfl
    go_wp2_with (with_reducible refine ldA 6 hS isAgg52 sizeOf52 ?_)
    refine (signI_any rest m _ S3 (hrest.at hS hF4)).mono ?_;rintro e w' ⟨rfl,hqd⟩;have hzq:=(hzq.at hS hF4).grow hqd;have hzs:=(hzs.at hS hF4).grow hqd;have hrest:=(hrest.at hS hF4).grow hqd;have hother:=(hother.at hS hF4).grow hqd;replace hS:=hS.pcl hF4 hO4 hp4 hqd;obtain⟨F5,hF5,-,hp5,hO5,hS⟩:=hS;rw [hca];simp only []
    go_wp2_with (with_reducible refine ldA 8 hS isAgg52 sizeOf52 ?_)
    refine (signI_any other n _ S3 (hother.at hS hF5)).mono ?_;rintro e w' ⟨rfl,hqd⟩;have hzq:=(hzq.at hS hF5).grow hqd;have hzs:=(hzs.at hS hF5).grow hqd;have hrest:=(hrest.at hS hF5).grow hqd;have hother:=(hother.at hS hF5).grow hqd;replace hS:=hS.pcl hF5 hO5 hp5 hqd;obtain⟨F6,hF6,-,hp6,hO6,hS⟩:=hS;rw [hcb2];simp only [];go_wp2;have hP:=hS.drew.pick [0,4,6,8] rfl;simp only [List.filterMap_cons,List.getElem?_cons_zero,List.getElem?_cons_succ,List.filterMap_nil] at hP;refine wp_region_sched0 [.r 1,.r 2,.r 3,.e 0,.e 4,.e 5,.e 6,.m 7] [7] (fun w'=>Heap w w' _) (by kernel_rfl) (by kernel_rfl) hP ?_;have hS:=hS.drew;clear hP
    repeat (with_reducible first|refine sldA 1 isAgg52 sizeOf52 ?_|refine sldA 2 isAgg52 sizeOf52 ?_|refine sldA 3 isAgg52 sizeOf52 ?_)
    refine exL ?_
    (with_reducible refine ldA 2 hS isAgg52 sizeOf52 ?_)
    refine ext_end (hS.pick [0,4,6,8] rfl) ?_;refine mvs ?_;refine exL ?_
    (with_reducible refine stA 1 hS sizeOf52 fun _ hS=>?_)
    refine ext_end (hS.pick [0,4,6,8] rfl) ?_;refine mvs ?_;refine exL ?_
    (with_reducible refine stA 2 hS sizeOf52 fun _ hS=>?_)
    refine ext_end (hS.pick [0,4,6,8] rfl) ?_;refine mvs ?_;refine exL ?_
    (with_reducible refine stA 3 hS sizeOf52 fun _ hS=>?_)
    refine ext_end (hS.pick [0,4,6,8] rfl) ?_;refine mvs ?_;refine muL ?_
    (with_reducible refine stA 4 hS sizeOf52 fun _ hS=>?_)
    refine mut_end ?_;refine mvs ?_;refine snL ?_;go_wp2;go_roundw
    case rel =>
     have hG3:=hG2.out;rw [hrest2.out,cmpF_turn] at hG3;have e1:¬ m=0:=fun h=>hz (.inl h)
     have e2:¬ n=0:=fun h=>hz (.inr h)
     refine⟨-sg,q,m,s,n,zq,rest,zs,other,S3,F6,_,?_,rfl,by omega,by omega,by rw [Int.neg_mul,← Int.mul_neg];exact hG3,hS.pick [0,1,2,3,4] rfl,hF6,hO6,hp6,hzq,hrest,hzs,hother⟩
     rcases hsg.out with h|h <;> omega
    case measure =>
     rw [hM0.out,boxAt_eq hS (List.mem_of_getElem? (i:=2) rfl) (hrest.at hS hF6)];omega
  ·have hcf:(c == 0)=false:=by simpa using hc0
   have hw1:IntKind.i64.wrap (sg*c)=sg*c:=by
    rcases hsg.out with rfl|rfl
    ·exact w6
    ·exact w6
   have hfin:=Hd (show sg*c=G by
    rw [← hG2.out,cmpF_whole hq0 hs0 (fun h=>hc0 (by rw [← hc];exact cmpZ_eq0.2 h)),hc])
   go_wp2_with (with_reducible first|refine ldA 5 hS isAgg52 sizeOf52 ?_|refine ldA 7 hS isAgg52 sizeOf52 ?_)
   refine (compareI_any x y (p / q) (r / s) _ S3 (hx.at hS hF4) (hy.at hS hF4)).mono ?_;rintro e w' ⟨rfl,hqd⟩;replace hS:=hS.pcl hF4 hO4 hp4 hqd;obtain⟨F5,hF5,-,hp5,hO5,hS⟩:=hS;rw [hc];simp only [];go_wp2;go_ret;exact⟨ret_int hfin.out,(hp5.step hS hO5 hF5).back⟩
end Go.Proofs
namespace Go.Hp
open Go Go.RowKit
theorem wpList_unwanted {P:Program} {ops:Array Oper} {Q:Exit→Act→World→Prop} {rest:List Oper} {dst:Option Tmp} {op:Op} {ty:TypeId} {pos:String} {aft:Array Edge} {g:Option (Nat × Bool)} {a:Act} {w:World} (hg:Region.wanted ⟨dst,op,ty,pos,aft,g⟩ (yielded ops a.tmps)=false) (h:wpList P ops Q rest (a.put dst undef) w):wpList P ops Q (⟨dst,op,ty,pos,aft,g⟩::rest) a w :=
 wpList_step fun K hK=>by rw [if_neg (by simp [hg])];exact hK _ _ h
section
variable {P:Program} {ops:Array Oper} {Q:Exit→Act→World→Prop} {rest:List Oper} {a:Act} {w w0 wr:World} {H:List Chunk} {dst:Option Tmp} {ty T E:TypeId} {pos:String} {aft:Array Edge} {g:Option (Nat × Bool)} {x ix:Operand} {K:Act→Prop}
theorem g_ix (h:wpList P ops Q (⟨dst,.index T x ix,ty,pos,aft,g⟩::rest) a w):wpList P ops Q (⟨dst,.index T x ix,ty,pos,aft,g⟩::rest) a w:=h
theorem any_ix1 {n i:Nat} {iv:Int} {cs:Array Value} {u:Value} (hu:P.underlying T=some (.array n E)) (hz:∀ w,(sizeOf E).run P w=.ok 1 w) (hg:∀ w,(isAgg E).run P w=.ok false w) (hx:a.eval x=.agg cs) (hi:a.eval ix=.int .i64 iv) (hiv:iv=(i:Int)) (hin:i<n) (hc:cs[i]? = some u) (hk:K (a.put dst u)) :
 StpAny P ⟨dst,.index T x ix,ty,pos,aft,g⟩ a K:=by
 subst hiv;refine⟨⟨u,fun w'=>?_,hk⟩⟩;generalize a.eval=ρ at hx hi;simp [execOp,hx,hi,Instr.index,asIntOf,go_sem,run_underlying hu,hz,hin,part,hg,hc]
theorem any_ixk {n i k:Nat} {iv:Int} {cs:Array Value} {us:Array Value} (hu:P.underlying T=some (.array n E)) (hz:∀ w,(sizeOf E).run P w=.ok k w) (hg:∀ w,(isAgg E).run P w=.ok true w) (hx:a.eval x=.agg cs) (hi:a.eval ix=.int .i64 iv) (hiv:iv=(i:Int)) (hin:i<n) (hc:cs.extract (i*k) (i*k+k)=us) (hk:K (a.put dst (.agg us))) :
 StpAny P ⟨dst,.index T x ix,ty,pos,aft,g⟩ a K:=by
 subst hiv;subst hc;refine⟨⟨_,fun w'=>?_,hk⟩⟩;generalize a.eval=ρ at hx hi;simp [execOp,hx,hi,Instr.index,asIntOf,go_sem,run_underlying hu,hz,hin,part,hg]
end
end Go.Hp
namespace Go.Hp
structure Pt where
 x:Rat
 y:Rat
 deriving DecidableEq
theorem Pt.ext' {p q:Pt} (hx:p.x=q.x) (hy:p.y=q.y):p=q:=by cases p;cases q;simp_all
def Pt.lt (p q:Pt):Prop:=p.x<q.x∨(p.x=q.x∧p.y<q.y)
def Pt.le (p q:Pt):Prop:=p.x<q.x∨(p.x=q.x∧p.y≤q.y)
instance (p q:Pt):Decidable (p.lt q):=by unfold Pt.lt;infer_instance
instance (p q:Pt):Decidable (p.le q):=by unfold Pt.le;infer_instance
theorem Pt.le_refl (p:Pt):p.le p:=by unfold Pt.le;grind
theorem Pt.lt_irrefl (p:Pt):¬ p.lt p:=by unfold Pt.lt;grind
theorem Pt.lt_trans {p q r:Pt}:p.lt q→q.lt r→p.lt r:=by unfold Pt.lt;grind
theorem Pt.le_trans {p q r:Pt}:p.le q→q.le r→p.le r:=by unfold Pt.le;grind
theorem Pt.not_lt {p q:Pt}:¬ p.lt q↔q.le p:=by unfold Pt.lt Pt.le;grind
theorem Pt.le_iff {p q:Pt}:p.le q↔p.lt q∨p=q:=by
 constructor
 ·unfold Pt.lt Pt.le
  intro h
  by_cases e:p.x=q.x∧p.y=q.y
  ·exact .inr (Pt.ext' e.1 e.2)
  ·left;grind
 ·rintro (h|rfl)
  ·unfold Pt.lt at h;unfold Pt.le;grind
  ·exact Pt.le_refl _
theorem Pt.total (p q:Pt):p.lt q∨p=q∨q.lt p:=by
 by_cases h:p.lt q
 ·exact .inl h
 ·rcases Pt.le_iff.1 (Pt.not_lt.1 h) with h|h
  ·exact .inr (.inr h)
  ·exact .inr (.inl h.symm)
theorem Pt.lt_asymm {p q:Pt} (h:p.lt q):¬ q.lt p:=by unfold Pt.lt at *;grind
theorem Pt.le_antisymm {p q:Pt} (h:p.le q) (h':q.le p):p=q:=by
 rcases Pt.le_iff.1 h with h|h
 ·exact absurd h (Pt.not_lt.2 h')
 ·exact h
def area (a b c:Pt):Rat:=(b.x - a.x)*(c.y - a.y) - (b.y - a.y)*(c.x - a.x)
structure Sg where
 a:Pt
 b:Pt
 deriving DecidableEq
def inBox (s:Sg) (p:Pt):Prop:=min s.a.x s.b.x≤p.x∧p.x≤max s.a.x s.b.x∧min s.a.y s.b.y≤p.y∧p.y≤max s.a.y s.b.y
def onS (s:Sg) (p:Pt):Prop:=area s.a s.b p=0∧inBox s p
instance (s:Sg) (p:Pt):Decidable (inBox s p):=by unfold inBox;infer_instance
instance (s:Sg) (p:Pt):Decidable (onS s p):=by unfold onS;infer_instance
theorem rtot (a b:Rat):a≤b∨b≤a:=Rat.le_total
theorem rmul_pos {a b:Rat} (ha:0<a) (hb:0<b):0<a*b:=Rat.mul_pos ha hb
theorem rmul_nn {a b:Rat} (ha:0≤a) (hb:0≤b):0≤a*b:=Rat.mul_nonneg ha hb
theorem rpos_of {a b:Rat} (ha:0<a) (h:0<a*b):0<b:=by
 rcases rtot b 0 with hb|hb
 ·have:0≤a*(-b):=rmul_nn (by grind) (by grind)
  grind
 ·by_cases e:b=0
  ·subst e;simp at h
  ·grind
theorem rnn_of {a b:Rat} (ha:0<a) (h:0≤a*b):0≤b:=by
 rcases rtot 0 b with hb|hb
 ·exact hb
 ·by_cases e:b=0
  ·subst e;exact Rat.le_refl
  ·have:0<a*(-b):=rmul_pos ha (by grind)
   grind
theorem along_box {u a b p:Rat} (hu0:0≤u) (hu1:u≤1) (h:p=a+u*(b - a)):min a b≤p∧p≤max a b:=by
 subst h
 rcases rtot a b with hab|hab
 ·have h1:0≤u*(b - a):=rmul_nn hu0 (by grind)
  have h2:0≤(1 - u)*(b - a):=rmul_nn (by grind) (by grind)
  constructor <;> grind
 ·have h1:0≤u*(a - b):=rmul_nn hu0 (by grind)
  have h2:0≤(1 - u)*(a - b):=rmul_nn (by grind) (by grind)
  constructor <;> grind
theorem onS_of {s:Sg} {p:Pt} {u:Rat} (hu0:0≤u) (hu1:u≤1) (hx:p.x=s.a.x+u*(s.b.x - s.a.x)) (hy:p.y=s.a.y+u*(s.b.y - s.a.y)):onS s p:=by
 obtain⟨h1,h2⟩:=along_box hu0 hu1 hx;obtain⟨h3,h4⟩:=along_box hu0 hu1 hy;refine⟨?_,h1,h2,h3,h4⟩;unfold area;rw [hx,hy]
 grind
theorem along_of {a b p:Rat} (hne:a≠b) (h1:min a b≤p) (h2:p≤max a b):∃ u:Rat,0≤u∧u≤1∧p=a+u*(b - a):=by
 have hd:b - a≠0:=by grind
 refine⟨(p - a) / (b - a),?_,?_,?_⟩
 ·rcases rtot a b with hab|hab
  ·apply rnn_of (a:=b - a) (by grind)
   have:(b - a)*((p - a) / (b - a))=p - a:=by grind
   grind
  ·apply rnn_of (a:=a - b) (by grind)
   have:(a - b)*((p - a) / (b - a))=a - p:=by grind
   grind
 ·rcases rtot a b with hab|hab
  ·have h3:0≤1 - (p - a) / (b - a):=by
    apply rnn_of (a:=b - a) (by grind);have:(b - a)*(1 - (p - a) / (b - a))=b - p:=by grind
    grind
   grind
  ·have h3:0≤1 - (p - a) / (b - a):=by
    apply rnn_of (a:=a - b) (by grind);have:(a - b)*(1 - (p - a) / (b - a))=p - b:=by grind
    grind
   grind
 ·grind
theorem onS_ex {s:Sg} (hne:s.a≠s.b) {p:Pt} (h:onS s p):∃ u:Rat,0≤u∧u≤1∧p.x=s.a.x+u*(s.b.x - s.a.x)∧p.y=s.a.y+u*(s.b.y - s.a.y):=by
 obtain⟨h0,h1,h2,h3,h4⟩:=h;unfold area at h0
 by_cases hx:s.a.x=s.b.x
 ·have hy:s.a.y≠s.b.y:=fun e=>hne (Pt.ext' hx e)
  obtain⟨u,g1,g2,g3⟩:=along_of hy h3 h4;refine⟨u,g1,g2,?_,g3⟩;have:p.x=s.a.x:=by grind
  grind
 ·obtain⟨u,g1,g2,g3⟩:=along_of hx h1 h2
  refine⟨u,g1,g2,g3,?_⟩;rw [g3] at h0;have hd:s.b.x - s.a.x≠0:=by grind
  have:(s.b.x - s.a.x)*(p.y - s.a.y - u*(s.b.y - s.a.y))=0:=by grind
  rcases Rat.mul_eq_zero.1 this with h|h
  ·exact absurd h hd
  ·grind
def det (s t:Sg):Rat:=(s.b.x - s.a.x)*(t.b.y - t.a.y) - (s.b.y - s.a.y)*(t.b.x - t.a.x)
def crossing (s t:Sg):Pt:=⟨s.a.x+area t.a t.b s.a / (area t.a t.b s.a - area t.a t.b s.b)*(s.b.x - s.a.x),s.a.y+area t.a t.b s.a / (area t.a t.b s.a - area t.a t.b s.b)*(s.b.y - s.a.y)⟩
theorem area_det (s t:Sg):area t.a t.b s.a - area t.a t.b s.b=det s t:=by unfold area det;grind
def isCut (s t:Sg) (p:Pt):Prop:=onS s p∧onS t p∧(det s t≠0∨p=s.a∨p=s.b∨p=t.a∨p=t.b)
theorem isCut_symm {s t:Sg} {p:Pt} (h:isCut s t p):isCut t s p:=by
 obtain⟨h1,h2,h3⟩:=h;refine⟨h2,h1,?_⟩
 rcases h3 with h3|h3|h3|h3|h3
 ·left;unfold det at *;grind
 all_goals grind
theorem cross_unique {s t:Sg} {p:Pt} (hd:det s t≠0) (hs:onS s p) (ht:onS t p):p=crossing s t:=by
 have hne:s.a≠s.b:=by intro e;apply hd;unfold det;rw [e];grind
 obtain⟨u,h0,h1,hx,hy⟩:=onS_ex hne hs;have ha:=ht.1
 have e:area t.a t.b s.a=u*det s t:=by
  unfold area det at *;rw [hx,hy] at ha
  grind
 unfold crossing;rw [area_det,e];apply Pt.ext'
 ·simp only;rw [hx];grind
 ·simp only;rw [hy];grind
theorem signs_of {a b:Rat} (h:¬ 0<a*b) (hd:a - b≠0):0≤a / (a - b)∧a / (a - b)≤1:=by
 by_cases h0:0<a - b
 ·have e:(a - b)*(a / (a - b))=a:=by grind
  have ha:0≤a:=by
   rcases rtot 0 a with h1|h1
   ·exact h1
   ·by_cases e0:a=0
    ·subst e0;exact Rat.le_refl
    ·exact absurd (by have:=rmul_pos (a:=-a) (b:=-b) (by grind) (by grind);grind) h
  have hb:b≤0:=by
   rcases rtot b 0 with h1|h1
   ·exact h1
   ·by_cases e0:b=0
    ·subst e0;exact Rat.le_refl
    ·exact absurd (rmul_pos (a:=a) (b:=b) (by grind) (by grind)) h
  refine⟨rnn_of h0 (by grind),?_⟩;have:=rnn_of (b:=1 - a / (a - b)) h0 (by grind)
  grind
 ·have h0':0<b - a:=by grind
  have e:(b - a)*(a / (a - b)) = -a:=by grind
  have ha:a≤0:=by
   rcases rtot a 0 with h1|h1
   ·exact h1
   ·by_cases e0:a=0
    ·subst e0;exact Rat.le_refl
    ·exact absurd (rmul_pos (a:=a) (b:=b) (by grind) (by grind)) h
  have hb:0≤b:=by
   rcases rtot 0 b with h1|h1
   ·exact h1
   ·by_cases e0:b=0
    ·subst e0;exact Rat.le_refl
    ·exact absurd (by have:=rmul_pos (a:=-a) (b:=-b) (by grind) (by grind);grind) h
  refine⟨rnn_of h0' (by grind),?_⟩;have:=rnn_of (b:=1 - a / (a - b)) h0' (by grind)
  grind
theorem of_signs {a b u:Rat} (h0:0≤u) (h1:u≤1) (h:a=u*(a - b)):¬ 0<a*b:=by
 have e:b = -((1 - u)*(a - b)):=by grind
 intro hp
 have h2:0≤(u*(1 - u))*((a - b)*(a - b)):=rmul_nn (rmul_nn h0 (by grind)) (by
  rcases rtot 0 (a - b) with h3|h3
  ·exact rmul_nn h3 h3
  ·have:=rmul_nn (a:=-(a - b)) (b:=-(a - b)) (by grind) (by grind);grind)
 have h3:a*b = -((u*(1 - u))*((a - b)*(a - b))):=by
  generalize a - b=d at *;subst h e
  grind
 grind
theorem cross_iff {s t:Sg} (hs:s.a≠s.b) (ht:t.a≠t.b) (hd:det s t≠0):(¬ 0<area t.a t.b s.a*area t.a t.b s.b∧¬ 0<area s.a s.b t.a*area s.a s.b t.b)↔(onS s (crossing s t)∧onS t (crossing s t)):=by
 constructor
 ·rintro⟨h1,h2⟩
  have e:=area_det s t;obtain⟨g1,g2⟩:=signs_of h1 (by rw [e];exact hd);have e2:=area_det t s;have hd2:det t s = -det s t:=by unfold det;grind
  obtain⟨g3,g4⟩:=signs_of h2 (by rw [e2,hd2];grind);refine⟨onS_of g1 g2 rfl rfl,onS_of g3 g4 ?_ ?_⟩
  ·unfold crossing
   simp only;rw [e,e2,hd2];unfold area det at *
   grind
  ·unfold crossing
   simp only;rw [e,e2,hd2];unfold area det at *
   grind
 ·rintro⟨h1,h2⟩
  obtain⟨u,a0,a1,ax,ay⟩:=onS_ex hs h1;obtain⟨v,b0,b1,bx,bY⟩:=onS_ex ht h2;have k1:=h1.1;have k2:=h2.1;generalize crossing s t=p at *;refine⟨of_signs a0 a1 ?_,of_signs b0 b1 ?_⟩
  ·rw [area_det];unfold area det at *;rw [ax,ay] at k2;grind
  ·rw [area_det];unfold area det at *;rw [bx,bY] at k1;grind
end Go.Hp
