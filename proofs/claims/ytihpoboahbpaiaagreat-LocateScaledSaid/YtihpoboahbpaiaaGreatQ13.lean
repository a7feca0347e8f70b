/- Texts for the walk of the law: K19 K20. -/
import Derived.Test.YtihpoboahbpaiaaGreatQ12
set_option maxRecDepth 100000
set_option maxHeartbeats 16000000
set_option linter.unusedVariables false
set_option linter.unusedSimpArgs false
namespace Go.Hp
open Go.Proofs.Tryz
open Go
def WI.enc (x:WI):List Value:=[.bool x.neg,.slice x.ad x.n x.cap]
def wi0:WI × Int:=(⟨false,none,0,0⟩,0)
def encs (xs:List (WI × Int)):List Value:=xs.flatMap fun p=>p.1.enc
theorem encs_cell:∀ {xs:List (WI × Int)} {i:Nat},i<xs.length→((encs xs).drop (i*2)).take 2=(nth wi0 xs i).1.enc
 | [],i,h=>by simp at h
 | x::xs,0,_=>rfl
 | x::xs,i+1,h=>by
  have:=encs_cell (xs:=xs) (i:=i) (by simpa using h);rw [show (i+1)*2=i*2+1+1 by omega];exact this
def prodTo (xs:List (WI × Int)):Nat→Int
 | 0=>1
 | k+1=>prodTo xs k*(nth wi0 xs k).2
structure IsIs (w:World) (S:Nat→Prop) (v:Value) (xs:List (WI × Int)):Prop where
 sl:SlC w S 2 v xs.length (encs xs)
 el:∀ i,i<xs.length→IsI w S (nth wi0 xs i).1 (nth wi0 xs i).2
theorem IsIs.grow {w w':World} {S S':Nat→Prop} {v:Value} {xs:List (WI × Int)} (h:IsIs w S v xs) (hp:Pure w S w' S'):IsIs w' S' v xs:=⟨h.sl.grow hp,fun i hi=>(h.el i hi).grow hp⟩
theorem IsIs.at {w0 w wr:World} {H:List Chunk} {F S:Nat→Prop} {v:Value} {xs:List (WI × Int)} (h:IsIs wr S v xs) (hS:Heap w0 w (.frz F wr::H)) (hF:∀ k,S k→F k):IsIs w S v xs:=⟨h.sl.move (hS.keep hF),fun i hi=>(h.el i hi).at hS hF⟩
end Go.Hp
namespace Go.Proofs
open Go.Proofs.Tryz
open Go.RowKit Go.Hp
theorem timesF_any (ad:Option Addr) (n c:Nat) (xs:List (WI × Int)) (w:World) (S:Nat→Prop) (hx:IsIs w S (.slice ad n c) xs) (hL:Liv w S) (hfit:∀ k,k≤xs.length→(prodTo xs k).natAbs<Lim) (hle:xs.length≤100) :
 Calls Tryz.prog 153 #[.slice ad n c] w (IRes w S (prodTo xs xs.length)):=by
 have hn:n=xs.length:=by obtain⟨h1,a,cap,h2,_⟩:=hx.sl;cases h2;rfl
 subst hn;obtain⟨hS,hF0,hO0,hp0⟩:=st0 hL
 go_enter func153,ntmps153
 go_wp2_with (with_reducible refine alA hS zeroValue52 fun br wbr hS=>?_)
 refine (from_any 1 _ S (by unfold InI;omega)).mono ?_;rintro e w1 ⟨o,S1,rfl,hq1,ho⟩;have hx:=(hx.at hS hF0).grow hq1;replace hS:=hS.pcl hF0 hO0 hp0 hq1;obtain⟨F1,hF1,hOO1,hp1,hO1,hS⟩:=hS;simp only []
 go_wp2_with (with_reducible first|refine alA hS zeroValue52 fun bo wbo hS=>?_|refine stA (u:=.agg #[.bool _,.slice _ _ _]) 2 hS sizeOf52 fun _ hS=>?_)
 go_loopw [12] (fun v wr=>∃ (k:Nat) (S1 F:Nat→Prop) (wq:World) (z:WI),k≤xs.length∧v=.int .i64 (k:Int)∧Heap w wr [.frz F wq,.blk br (.cells #[.bool false,.slice none 0 0] 52 (0,0)),.blk bo (.cells #[.bool z.neg,.slice z.ad z.n z.cap] 52 (0,0))]∧(∀ k,S1 k→F k)∧(∀ k,Old w k→F k)∧Pure w S wq S1∧IsIs wq S1 (.slice ad xs.length c) xs∧IsI wq S1 z (prodTo xs k)) (fun v _=>xs.length - (intOf v).toNat)
 case atStart=>exact⟨0,S1,F1,w1,o,by omega,rfl,hS,hF1,hO1,hp1,hx,ho⟩
 case round =>
  clear hS hx ho hF0 hO0 hp0 hL hF1 hO1 hp1 hOO1 hq1;obtain⟨k,S1,F1,wq,z,hk,rfl,hS,hF1,hO1,hp1,hx,hz⟩:=hrel
  by_cases hk1:k<xs.length
  ·have hslF:=hx.sl.weaken hF1
   have he:=encs_cell hk1;have hel:=hx.el k hk1;have hpk:=hfit (k+1) (by omega);obtain⟨e,he0⟩:∃ e,(nth wi0 xs k).1=e:=⟨_,rfl⟩;obtain⟨y,hy0⟩:∃ y,(nth wi0 xs k).2=y:=⟨_,rfl⟩;rw [he0] at he;rw [he0,hy0] at hel;have hpe:prodTo xs (k+1)=prodTo xs k*y:=by simp only [prodTo,hy0]
   rw [hpe] at hpk;replace he:=Hd he;replace hpe:=Hd hpe;clear he0 hy0
   go_wp2_with (with_reducible first|refine ixE underlying293 sizeOf52 hslF he.out fun bq oq hcellq=>?_|refine ldG hS isAgg52 sizeOf52 ?_|refine alA hS zeroValue52 fun b6 wb6 hS=>?_|refine stA (u:=.agg #[.bool _,.slice _ _ _]) 3 hS sizeOf52 fun _ hS=>?_|refine ldA 2 hS isAgg52 sizeOf52 ?_|refine ldA 3 hS isAgg52 sizeOf52 ?_)
   refine (mulI_any z e (prodTo xs k) y _ S1 (hz.at hS hF1) (hel.at hS hF1) (Liv.at hS hF1) hpk).mono ?_;rintro e' w2 ⟨z2,S2,rfl,hq2,hz2⟩;have hx:=(hx.at hS hF1).grow hq2;replace hS:=hS.pcl hF1 hO1 hp1 hq2;obtain⟨F2,hF2,-,hp2,hO2,hS⟩:=hS;simp only [iRes]
   go_wp2_with (with_reducible first|refine alA hS zeroValue52 fun b7 wb7 hS=>?_|refine stA (u:=.agg #[.bool _,.slice _ _ _]) 4 hS sizeOf52 fun _ hS=>?_|refine stA (u:=.agg #[.bool _,.slice _ _ _]) 2 hS sizeOf52 fun _ hS=>?_|refine ldA 4 hS isAgg52 sizeOf52 ?_)
   go_roundw
   case rel=>exact⟨k+1,S2,F2,w2,z2,by omega,rfl,hS.sb,hF2,hO2,hp2,hx,hz2.cast hpe.out.symm⟩
   case measure=>simp [intOf];omega
  ·obtain rfl:k=xs.length:=by omega
   go_wp2_with (with_reducible first|refine ldA 2 hS isAgg52 sizeOf52 ?_|refine stA (u:=.agg #[.bool _,.slice _ _ _]) 1 hS sizeOf52 fun _ hS=>?_)
   exact ret_ct 1 hS rfl rfl rfl isAgg52 sizeOf52 rfl rfl ⟨z,S1,rfl,hp1.step hS hO1 hF1,hz.at hS hF1⟩
end Go.Proofs
namespace Go.Hp
open Go.Proofs.Tryz
open Go Go.RowKit
theorem fill2i (a b c d:Value):Instr.fill (fun i=>some (i*2,2)) ((Array.range (2*2)).map ((Value.agg #[.bool false,.slice none 0 0]).cells[· % (Value.agg #[.bool false,.slice none 0 0]).cells.size]!)) [(0,.agg #[a,b]),(1,.agg #[c,d])]=some #[a,b,c,d]:=by
 have h:((Array.range (2*2)).map ((Value.agg #[.bool false,.slice none 0 0]).cells[· % (Value.agg #[.bool false,.slice none 0 0]).cells.size]!))=#[.bool false,.slice none 0 0,.bool false,.slice none 0 0]:=by
  apply Array.ext';simp [Array.range,List.ofFn_succ,Value.cells]
 rw [h];simp [Instr.fill,Value.cells]
theorem isIs_two {w0 w:World} {H:List Chunk} {S:Nat→Prop} {b:Nat} {T:TypeId} {x y:WI} {a c:Int} (hS:Heap w0 w H) (hm:Chunk.blk b (.cells #[.bool x.neg,.slice x.ad x.n x.cap,.bool y.neg,.slice y.ad y.n y.cap] T (0,0)) ∈ H) (hx:IsI w S x a) (hy:IsI w S y c) :
 IsIs w (fun k=>S k∨k=b) (.slice (some ⟨b,0,none⟩) 2 2) [(x,a),(y,c)] :=
 ⟨(SlC.ofBlk (k:=2) (n:=2) hS hm rfl (by simp [maxLen])).weaken fun k h=>.inr h,fun i hi=>by
  match i,hi with
  | 0,_=>exact hx.weaken fun k h=>.inl h
  | 1,_=>exact hy.weaken fun k h=>.inl h⟩
def Bq (k:Nat) (q:Rat):Prop:=q.num.natAbs<2 ^ k∧q.den<2 ^ k
theorem Bq.mono {j k:Nat} {q:Rat} (h:Bq j q) (hjk:j≤k):Bq k q:=by
 have:2 ^ j≤2 ^ k:=Nat.pow_le_pow_right (by decide) hjk;exact⟨Nat.lt_of_lt_of_le h.1 this,Nat.lt_of_lt_of_le h.2 this⟩
theorem Lim_two {k:Nat} (hk:k≤16384) {n:Nat} (h:n<2 ^ k):n<Lim:=by
 obtain⟨e,he⟩:∃ e:Nat,e=512:=⟨_,rfl⟩;rw [Lim_eq,← he,WB_eq,show (4294967296:Nat)=2 ^ 32 by decide,← Nat.pow_mul];exact Nat.lt_of_lt_of_le h (Nat.pow_le_pow_right (by decide) (by omega))
theorem mul_lt_two {a b j k:Nat} (ha:a<2 ^ j) (hb:b<2 ^ k):a*b<2 ^ (j+k):=by
 rw [Nat.pow_add]
 rcases Nat.eq_zero_or_pos b with h|h
 ·subst h;simp;exact Nat.mul_pos (Nat.pow_pos (by decide)) (Nat.pow_pos (by decide))
 ·exact Nat.lt_of_lt_of_le (Nat.mul_lt_mul_of_pos_right ha h) (Nat.mul_le_mul_left _ (Nat.le_of_lt hb))
theorem add_parts (a b:Rat):Rat.divInt (a.num*((b.den:Int) / (Int.gcd a.den b.den:Nat))+b.num*((a.den:Int) / (Int.gcd a.den b.den:Nat))) (((a.den:Int) / (Int.gcd a.den b.den:Nat))*b.den)=a+b:=by
 have h1:((Int.gcd a.den b.den:Nat):Int) ∣ (a.den:Int):=Int.gcd_dvd_left ..;have h2:((Int.gcd a.den b.den:Nat):Int) ∣ (b.den:Int):=Int.gcd_dvd_right ..;have ha:=a.den_pos;have hg:((Int.gcd a.den b.den:Nat):Int)≠0:=fun h=>by rw [h] at h1;have:=Int.zero_dvd.1 h1;omega
 generalize ((Int.gcd a.den b.den:Nat):Int)=g at *;obtain⟨e1,he1⟩:=h1;obtain⟨e2,he2⟩:=h2;have d1:(a.den:Int) / g=e1:=by rw [he1,Int.mul_ediv_cancel_left _ hg]
 have d2:(b.den:Int) / g=e2:=by rw [he2,Int.mul_ediv_cancel_left _ hg]
 rw [d1,d2,Rat.add_def',← Rat.divInt_ofNat,Int.natCast_mul,← Rat.divInt_mul_right hg]
 congr 1
 ·rw [he1,he2];grind
 ·rw [he1];grind
theorem fit2 {x y:WI} {a b:Int} (h0:1<Lim) (h1:a.natAbs<Lim) (h2:(a*b).natAbs<Lim):∀ k,k≤[(x,a),(y,b)].length→(prodTo [(x,a),(y,b)] k).natAbs<Lim:=by
 intro k hk
 match k,hk with
 | 0,_=>simpa [prodTo] using h0
 | 1,_=>simpa [prodTo,nth] using h1
 | 2,_=>simpa [prodTo,nth] using h2
theorem prod2 (x y:WI) (a b:Int):prodTo [(x,a),(y,b)] [(x,a),(y,b)].length=a*b:=by simp [prodTo,nth]
theorem natAbs_ediv_le (a:Int) (g:Nat):(a / (g:Int)).natAbs≤a.natAbs:=Int.natAbs_ediv_le_natAbs a g
end Go.Hp
namespace Go.Proofs
open Go.Proofs.Tryz
open Go.RowKit Go.Hp
theorem addF_any (x y:FR) (a b:Rat) (j k:Nat) (w:World) (S:Nat→Prop) (hx:IsF w S x a) (hy:IsF w S y b) (hL:Liv w S) (ha:Bq j a) (hb:Bq k b) (hjk:j+k+1≤16384) :
 Calls Tryz.prog 106 #[.agg #[.bool x.num.neg,.slice x.num.ad x.num.n x.num.cap,.bool x.less.neg,.slice x.less.ad x.less.n x.less.cap],.agg #[.bool y.num.neg,.slice y.num.ad y.num.n y.num.cap,.bool y.less.neg,.slice y.less.ad y.less.n y.less.cap]] w (FRes w S (a+b)):=by
 have hdp:=a.den_pos;have hdq:=b.den_pos;obtain⟨g,hg0⟩:∃ g:Nat,g=Int.gcd a.den b.den:=⟨_,rfl⟩
 have hgz:(g:Int)≠0:=by
  have:Int.gcd (a.den:Int) (b.den:Int)≠0:=fun h=>by have:=(Int.gcd_eq_zero_iff.1 h).1;omega
  omega
 have hpar:=add_parts a b;rw [← hg0] at hpar;obtain⟨e1,he1⟩:∃ e1:Int,e1=(a.den:Int) / (g:Int):=⟨_,rfl⟩;obtain⟨e2,he2⟩:∃ e2:Int,e2=(b.den:Int) / (g:Int):=⟨_,rfl⟩;rw [← he1,← he2] at hpar;have hb1:e1.natAbs<2 ^ j:=Nat.lt_of_le_of_lt (by rw [he1];exact natAbs_ediv_le _ _) (by simpa using ha.2);have hb2:e2.natAbs<2 ^ k:=Nat.lt_of_le_of_lt (by rw [he2];exact natAbs_ediv_le _ _) (by simpa using hb.2);have hxy:(a.num*e2).natAbs<2 ^ (j+k):=by rw [Int.natAbs_mul];exact mul_lt_two ha.1 hb2
 have hyx:(b.num*e1).natAbs<2 ^ (j+k):=by rw [Int.natAbs_mul,Nat.add_comm];exact mul_lt_two hb.1 hb1
 have hde:(e1*(b.den:Int)).natAbs<2 ^ (j+k):=by rw [Int.natAbs_mul];exact mul_lt_two hb1 (by simpa using hb.2)
 have hsum:(a.num*e2+b.num*e1).natAbs<Lim:=Lim_two hjk (by rw [Nat.pow_succ];omega);have f1:=Lim_two (by omega) (Nat.lt_of_lt_of_le ha.1 (Nat.le_refl _));have f2:=Lim_two (by omega) (Nat.lt_of_lt_of_le hb.1 (Nat.le_refl _));have f3:=Lim_two (by omega) hxy;have f4:=Lim_two (by omega) hyx;have f5:=Lim_two (by omega) hde;have f6:=Lim_two (by omega) hb1;have f0:1<Lim:=Lim_two (k:=1) (by omega) (by decide)
 have hez:e1*(b.den:Int)≠0:=by
  intro h
  rcases Int.mul_eq_zero.1 h with h|h
  ·have h1:((Int.gcd a.den b.den:Nat):Int) ∣ (a.den:Int):=Int.gcd_dvd_left ..
   rw [← hg0] at h1;obtain⟨c,hc⟩:=h1;rw [he1,hc,Int.mul_ediv_cancel_left _ hgz] at h;rw [h] at hc;simp at hc;omega
  ·omega
 replace hpar:=Hd hpar;replace hg0:=Hd hg0;replace he1:=Hd he1;replace he2:=Hd he2;clear hb1 hb2 hxy hyx hde;obtain⟨hS,hF0,hO0,hp0⟩:=st0 hL
 go_enter func106,ntmps106
 go_wp2_with (with_reducible first|refine bxA hS fun bx wbx hS=>?_|refine alA hS zeroValue54 fun br wbr hS=>?_)
 refine wp_region_box 40 [.r 0,.r 2,.e 1,.e 3,.e 4] [.e 6] [] [bxz 5 6 52 (.agg #[.bool false,.slice none 0 0])] w _ (by kernel_rfl) (by kernel_rfl) (boxesOk1 rfl zeroValue52) hS.drew ?_;have hsC:=SubC.refl (Old w);have hkC:=KeepC.refl (Old w) w
 repeat (with_reducible first|refine pldA 1 isAgg54 sizeOf54 ?_|refine pldA 2 isAgg54 sizeOf54 ?_)
 refine pre_ext rfl (fun B wB hS=>?_);simp only [NRH] at hS
 go_wp2_with (fail)
 refine (den_any x a _ S (hx.at hS hF0) (Liv.at hS hF0)).mono ?_;rintro e w' ⟨d1,S1,rfl,hq,hd1⟩;simp only [];go_step;have hx:=(hx.at hS hF0).grow hq;have hy:=(hy.at hS hF0).grow hq;have hkC:=Heap.keepC hS hq.below hsC hkC;replace hS:=hS.pcl hF0 hO0 hp0 hq;obtain⟨F1,hF1,hOO1,hp1,hO1,hS⟩:=hS;have hsC:=SubC.trans hsC hOO1;refine pre_end (H:=[_,_,_]) hS hsC hkC ?_;refine mvp ?_;refine pre_ext rfl (fun B wB hS=>?_);simp only [NRH] at hS
 go_wp2_with (fail)
 refine (den_any y b _ S1 (hy.at hS hF1) (Liv.at hS hF1)).mono ?_;rintro e w' ⟨d2,S2,rfl,hq2,hd2⟩;simp only [];go_step;have hx:=(hx.at hS hF1).grow hq2;have hy:=(hy.at hS hF1).grow hq2;have hd1:=(hd1.at hS hF1).grow hq2;have hkC:=Heap.keepC hS hq2.below hsC hkC;replace hS:=hS.pcl hF1 hO1 hp1 hq2;obtain⟨F2,hF2,hOO2,hp2,hO2,hS⟩:=hS;have hsC:=SubC.trans hsC hOO2;refine pre_end (H:=[_,_,_]) hS hsC hkC ?_;refine mvp ?_;refine pre_ext rfl (fun B wB hS=>?_);simp only [NRH] at hS
 go_wp2_with (fail)
 refine (gcdI_any d1 d2 a.den b.den _ S2 (hd1.at hS hF2) (hd2.at hS hF2) (Liv.at hS hF2)).mono ?_;rintro e w' ⟨gg,S3,rfl,hq3,hgg⟩;simp only [];go_step;have hx:=(hx.at hS hF2).grow hq3;have hy:=(hy.at hS hF2).grow hq3;have hkC:=Heap.keepC hS hq3.below hsC hkC;replace hS:=hS.pcl hF2 hO2 hp2 hq3;obtain⟨F3,hF3,hOO3,hp3,hO3,hS⟩:=hS;have hsC:=SubC.trans hsC hOO3;replace hgg:=hgg.cast (show ((Int.gcd (a.den:Int) (b.den:Int):Nat):Int)=(g:Int) by rw [hg0.out]);refine pre_end (H:=[_,_,_]) hS hsC hkC ?_;refine mvp ?_;refine pre_nil1 (fun b6 wB hS=>?_);simp only [NRH] at hS;simp only [NRM];refine exL ?_
 (with_reducible refine stA 4 hS sizeOf52 fun _ hS=>?_)
 refine ext_end (Heap.toC hS.sb hsC hkC) ?_;refine mvs ?_;refine snL ?_;clear hsC hkC
 go_wp2_with (fail)
 refine wp_region_box 60 [.p 0,.r 1,.r 2,.r 4,.e 3,.e 5,.e 6,.e 7,.p 8,.p 9,.p 10] [.e 12,.p 13] [] [bxz 11 7 52 (.agg #[.bool false,.slice none 0 0])] w _ (by kernel_rfl) (by kernel_rfl) (boxesOk1 rfl zeroValue52) hS.drew ?_;obtain⟨hsC,hkC⟩:=hS.cstart
 repeat (with_reducible first|refine pldK 1 isAgg52 sizeOf52 ?_|refine pldA 2 isAgg54 sizeOf54 ?_|refine pldA 4 isAgg52 sizeOf52 ?_|refine ppL ?_)
 refine pre_ext rfl (fun B wB hS=>?_);simp only [NRH] at hS
 go_wp2_with (fail)
 refine (den_any y b _ S3 (hy.at hS hF3) (Liv.at hS hF3)).mono ?_;rintro e w' ⟨dd,S1,rfl,hq,hdd⟩;simp only [];go_step;have hx:=(hx.at hS hF3).grow hq;have hy:=(hy.at hS hF3).grow hq;have hgg:=(hgg.at hS hF3).grow hq
 skip
 have hkC:=Heap.keepC hS hq.below hsC hkC;replace hS:=hS.pcl hF3 hO3 hp3 hq;obtain⟨F4,hF4,hOO4,hp4,hO4,hS⟩:=hS;have hsC:=SubC.trans hsC hOO4;refine pre_end (H:=[_,_,_,_]) hS hsC hkC ?_;refine mvp ?_;refine pre_ext rfl (fun B wB hS=>?_);simp only [NRH] at hS
 go_wp2_with (fail)
 refine (over_any dd gg b.den g _ S1 (hdd.at hS hF4) (hgg.at hS hF4) (Liv.at hS hF4) hgz).mono ?_;rintro e w' ⟨oo,S2,rfl,hq2,hoo⟩;simp only [];go_step;have hx:=(hx.at hS hF4).grow hq2;have hy:=(hy.at hS hF4).grow hq2;have hgg:=(hgg.at hS hF4).grow hq2
 skip
 have hkC:=Heap.keepC hS hq2.below hsC hkC;replace hS:=hS.pcl hF4 hO4 hp4 hq2;obtain⟨F5,hF5,hOO5,hp5,hO5,hS⟩:=hS;have hsC:=SubC.trans hsC hOO5;replace hoo:=hoo.cast he2.out.symm;refine pre_end (H:=[_,_,_,_]) hS hsC hkC ?_;refine mvp ?_;refine pre_ext rfl (fun B wB hS=>?_);simp only [NRH] at hS
 ((with_reducible refine g_bs (T:=293) ?_);refine seq_buildSlice (k:=2) (z:=.agg #[.bool false,.slice none 0 0]) (len:=2) hS underlying293 sizeOf52 zeroValue52 (by decide) (by decide) (fill2i _ _ _ _) (fun bl wbl hS=>?_);simp only [NRM];simp only [NRH] at hS)
 have hlit:=isIs_two (b:=bl) (T:=52) hS (by simp) (hx.num.at hS hF5) (hoo.at hS hF5);have hx:=(hx.at hS hF5).weaken (T:=fun k=>S2 k∨k=bl) (fun k h=>.inl h);have hy:=(hy.at hS hF5).weaken (T:=fun k=>S2 k∨k=bl) (fun k h=>.inl h);have hgg:=(hgg.at hS hF5).weaken (T:=fun k=>S2 k∨k=bl) (fun k h=>.inl h)
 skip
 have hp6:=(hp5.step hS hO5 hF5).add (Heap.isNewL (H:=(_::_::_::_::B)) hS hO5);have hkC:=Heap.keepN hS hsC hkC;have hS6:=Heap.takeLast (H:=(_::_::_::_::B)) hS;obtain⟨F6,hFe6⟩:∃ F',F'=fun k=>F5 k∨k=bl:=⟨_,rfl⟩
 rw [← hFe6] at hS6;have hO6:∀ k,Old w k→F6 k:=fun k h=>by rw [hFe6];exact .inl (hO5 k h)
 have hsC:=SubC.trans hsC (F'':=F6) (fun k h=>by rw [hFe6];exact .inl h)
 have hF6:∀ k,(S2 k∨k=bl)→F6 k:=fun k h=>by
  rw [hFe6]
  rcases h with h|h
  ·exact .inl (hF5 k h)
  ·exact .inr h
 clear hFe6 hS;have hS:=hS6;clear hS6;refine pre_end (H:=[_,_,_,_]) hS hsC hkC ?_;refine mvp ?_;refine pre_ext rfl (fun B wB hS=>?_);simp only [NRH] at hS
 go_wp2_with (fail)
 refine (timesF_any _ 2 2 [(x.num,a.num),(oo,e2)] _ _ (hlit.at hS hF6) (Liv.at hS hF6) (fit2 f0 f1 f3) (by simp)).mono ?_;rintro e w' ⟨xx,S4,rfl,hq4,hxx⟩;simp only [iRes];go_step;have hx:=(hx.at hS hF6).grow hq4;have hy:=(hy.at hS hF6).grow hq4;have hgg:=(hgg.at hS hF6).grow hq4
 skip
 have hkC:=Heap.keepC hS hq4.below hsC hkC;replace hS:=hS.pcl hF6 hO6 hp6 hq4;obtain⟨F7,hF7,hOO7,hp7,hO7,hS⟩:=hS;have hsC:=SubC.trans hsC hOO7;replace hxx:=hxx.cast (prod2 _ _ _ _);refine pre_end (H:=[_,_,_,_]) hS hsC hkC ?_;refine mvp ?_;refine pre_nil1 (fun bq wB hS=>?_);simp only [NRH] at hS;simp only [NRM];refine exL ?_
 (with_reducible refine stA 5 hS sizeOf52 fun _ hS=>?_)
 refine ext_end (Heap.toC hS.sb hsC hkC) ?_;refine mvs ?_;refine snL ?_;clear hsC hkC;have hX1:=hxx;clear hxx
 go_wp2_with (fail)
 refine wp_region_box 60 [.p 0,.r 1,.r 2,.r 4,.e 3,.e 5,.e 6,.e 7,.p 8,.p 9,.p 10] [.e 12,.p 13] [] [bxz 11 9 52 (.agg #[.bool false,.slice none 0 0])] w _ (by kernel_rfl) (by kernel_rfl) (boxesOk1 rfl zeroValue52) hS.drew ?_;obtain⟨hsC,hkC⟩:=hS.cstart
 repeat (with_reducible first|refine pldK 2 isAgg52 sizeOf52 ?_|refine pldA 1 isAgg54 sizeOf54 ?_|refine pldA 4 isAgg52 sizeOf52 ?_|refine ppL ?_)
 refine pre_ext rfl (fun B wB hS=>?_);simp only [NRH] at hS
 go_wp2_with (fail)
 refine (den_any x a _ S4 (hx.at hS hF7) (Liv.at hS hF7)).mono ?_;rintro e w' ⟨dd,S1,rfl,hq,hdd⟩;simp only [];go_step;have hx:=(hx.at hS hF7).grow hq;have hy:=(hy.at hS hF7).grow hq;have hgg:=(hgg.at hS hF7).grow hq;have hX1:=(hX1.at hS hF7).grow hq;have hkC:=Heap.keepC hS hq.below hsC hkC;replace hS:=hS.pcl hF7 hO7 hp7 hq;obtain⟨F8,hF8,hOO8,hp8,hO8,hS⟩:=hS;have hsC:=SubC.trans hsC hOO8;refine pre_end (H:=[_,_,_,_,_]) hS hsC hkC ?_;refine mvp ?_;refine pre_ext rfl (fun B wB hS=>?_);simp only [NRH] at hS
 go_wp2_with (fail)
 refine (over_any dd gg a.den g _ S1 (hdd.at hS hF8) (hgg.at hS hF8) (Liv.at hS hF8) hgz).mono ?_;rintro e w' ⟨oo,S2,rfl,hq2,hoo⟩;simp only [];go_step;have hx:=(hx.at hS hF8).grow hq2;have hy:=(hy.at hS hF8).grow hq2;have hgg:=(hgg.at hS hF8).grow hq2;have hX1:=(hX1.at hS hF8).grow hq2;have hkC:=Heap.keepC hS hq2.below hsC hkC;replace hS:=hS.pcl hF8 hO8 hp8 hq2;obtain⟨F9,hF9,hOO9,hp9,hO9,hS⟩:=hS;have hsC:=SubC.trans hsC hOO9;replace hoo:=hoo.cast he1.out.symm;refine pre_end (H:=[_,_,_,_,_]) hS hsC hkC ?_;refine mvp ?_;refine pre_ext rfl (fun B wB hS=>?_);simp only [NRH] at hS
 ((with_reducible refine g_bs (T:=293) ?_);refine seq_buildSlice (k:=2) (z:=.agg #[.bool false,.slice none 0 0]) (len:=2) hS underlying293 sizeOf52 zeroValue52 (by decide) (by decide) (fill2i _ _ _ _) (fun bl wbl hS=>?_);simp only [NRM];simp only [NRH] at hS)
 have hlit:=isIs_two (b:=bl) (T:=52) hS (by simp) (hy.num.at hS hF9) (hoo.at hS hF9);have hx:=(hx.at hS hF9).weaken (T:=fun k=>S2 k∨k=bl) (fun k h=>.inl h);have hy:=(hy.at hS hF9).weaken (T:=fun k=>S2 k∨k=bl) (fun k h=>.inl h);have hgg:=(hgg.at hS hF9).weaken (T:=fun k=>S2 k∨k=bl) (fun k h=>.inl h);have hX1:=(hX1.at hS hF9).weaken (T:=fun k=>S2 k∨k=bl) (fun k h=>.inl h);have hp10:=(hp9.step hS hO9 hF9).add (Heap.isNewL (H:=(_::_::_::_::_::B)) hS hO9);have hkC:=Heap.keepN hS hsC hkC;have hS10:=Heap.takeLast (H:=(_::_::_::_::_::B)) hS;obtain⟨F10,hFe10⟩:∃ F',F'=fun k=>F9 k∨k=bl:=⟨_,rfl⟩
 rw [← hFe10] at hS10;have hO10:∀ k,Old w k→F10 k:=fun k h=>by rw [hFe10];exact .inl (hO9 k h)
 have hsC:=SubC.trans hsC (F'':=F10) (fun k h=>by rw [hFe10];exact .inl h)
 have hF10:∀ k,(S2 k∨k=bl)→F10 k:=fun k h=>by
  rw [hFe10]
  rcases h with h|h
  ·exact .inl (hF9 k h)
  ·exact .inr h
 clear hFe10 hS;have hS:=hS10;clear hS10;refine pre_end (H:=[_,_,_,_,_]) hS hsC hkC ?_;refine mvp ?_;refine pre_ext rfl (fun B wB hS=>?_);simp only [NRH] at hS
 go_wp2_with (fail)
 refine (timesF_any _ 2 2 [(y.num,b.num),(oo,e1)] _ _ (hlit.at hS hF10) (Liv.at hS hF10) (fit2 f0 f2 f4) (by simp)).mono ?_;rintro e w' ⟨xx,S4,rfl,hq4,hxx⟩;simp only [iRes];go_step;have hx:=(hx.at hS hF10).grow hq4;have hy:=(hy.at hS hF10).grow hq4;have hgg:=(hgg.at hS hF10).grow hq4;have hX1:=(hX1.at hS hF10).grow hq4;have hkC:=Heap.keepC hS hq4.below hsC hkC;replace hS:=hS.pcl hF10 hO10 hp10 hq4;obtain⟨F11,hF11,hOO11,hp11,hO11,hS⟩:=hS;have hsC:=SubC.trans hsC hOO11;replace hxx:=hxx.cast (prod2 _ _ _ _);refine pre_end (H:=[_,_,_,_,_]) hS hsC hkC ?_;refine mvp ?_;refine pre_nil1 (fun bq wB hS=>?_);simp only [NRH] at hS;simp only [NRM];refine exL ?_
 (with_reducible refine stA 6 hS sizeOf52 fun _ hS=>?_)
 refine ext_end (Heap.toC hS.sb hsC hkC) ?_;refine mvs ?_;refine snL ?_;clear hsC hkC;have hX2:=hxx;clear hxx
 go_wp2_with (with_reducible first|refine ldA 5 hS isAgg52 sizeOf52 ?_|refine ldA 6 hS isAgg52 sizeOf52 ?_)
 refine (addI_any _ _ (a.num*e2) (b.num*e1) _ S4 (hX1.at hS hF11) (hX2.at hS hF11) (Liv.at hS hF11) hsum).mono ?_;rintro e w' ⟨sm,S5,rfl,hq5,hsm⟩;have hx:=(hx.at hS hF11).grow hq5;have hy:=(hy.at hS hF11).grow hq5;have hgg:=(hgg.at hS hF11).grow hq5;replace hS:=hS.pcl hF11 hO11 hp11 hq5;obtain⟨F12,hF12,-,hp12,hO12,hS⟩:=hS;clear hX1 hX2;simp only [iRes]
 go_wp2_with (with_reducible first|refine alA hS zeroValue52 fun b11 wb11 hS=>?_|refine stA 7 hS sizeOf52 fun _ hS=>?_)
 refine wp_region_box 60 [.r 0,.r 2,.r 4,.e 1,.e 3,.e 5,.e 6,.e 7,.p 8,.p 9,.p 10] [.e 12,.p 13] [] [bxz 11 13 52 (.agg #[.bool false,.slice none 0 0])] w _ (by kernel_rfl) (by kernel_rfl) (boxesOk1 rfl zeroValue52) hS.drew ?_;obtain⟨hsC,hkC⟩:=hS.cstart
 repeat (with_reducible first|refine pldA 1 isAgg54 sizeOf54 ?_|refine pldA 4 isAgg52 sizeOf52 ?_|refine pldA 2 isAgg54 sizeOf54 ?_)
 refine pre_ext rfl (fun B wB hS=>?_);simp only [NRH] at hS
 go_wp2_with (fail)
 refine (den_any x a _ S5 (hx.at hS hF12) (Liv.at hS hF12)).mono ?_;rintro e w' ⟨dd,S1,rfl,hq,hdd⟩;simp only [];go_step;have hy:=(hy.at hS hF12).grow hq;have hgg:=(hgg.at hS hF12).grow hq;have hsm:=(hsm.at hS hF12).grow hq;have hkC:=Heap.keepC hS hq.below hsC hkC;replace hS:=hS.pcl hF12 hO12 hp12 hq;obtain⟨F13,hF13,hOO13,hp13,hO13,hS⟩:=hS;have hsC:=SubC.trans hsC hOO13;refine pre_end (H:=[_,_,_,_,_,_,_]) hS hsC hkC ?_;refine mvp ?_;refine pre_ext rfl (fun B wB hS=>?_);simp only [NRH] at hS
 go_wp2_with (fail)
 refine (over_any dd gg a.den g _ S1 (hdd.at hS hF13) (hgg.at hS hF13) (Liv.at hS hF13) hgz).mono ?_;rintro e w' ⟨oo,S2,rfl,hq2,hoo⟩;simp only [];go_step;have hy:=(hy.at hS hF13).grow hq2;have hsm:=(hsm.at hS hF13).grow hq2;have hkC:=Heap.keepC hS hq2.below hsC hkC;replace hS:=hS.pcl hF13 hO13 hp13 hq2;obtain⟨F14,hF14,hOO14,hp14,hO14,hS⟩:=hS;have hsC:=SubC.trans hsC hOO14;replace hoo:=hoo.cast he1.out.symm;refine pre_end (H:=[_,_,_,_,_,_,_]) hS hsC hkC ?_;refine mvp ?_;refine pre_ext rfl (fun B wB hS=>?_);simp only [NRH] at hS
 go_wp2_with (fail)
 refine (den_any y b _ S2 (hy.at hS hF14) (Liv.at hS hF14)).mono ?_;rintro e w' ⟨de,S3,rfl,hq3,hde⟩;simp only [];go_step;have hoo:=(hoo.at hS hF14).grow hq3;have hsm:=(hsm.at hS hF14).grow hq3;have hkC:=Heap.keepC hS hq3.below hsC hkC;replace hS:=hS.pcl hF14 hO14 hp14 hq3;obtain⟨F15,hF15,hOO15,hp15,hO15,hS⟩:=hS;have hsC:=SubC.trans hsC hOO15;refine pre_end (H:=[_,_,_,_,_,_,_]) hS hsC hkC ?_;refine mvp ?_;refine pre_ext rfl (fun B wB hS=>?_);simp only [NRH] at hS
 ((with_reducible refine g_bs (T:=293) ?_);refine seq_buildSlice (k:=2) (z:=.agg #[.bool false,.slice none 0 0]) (len:=2) hS underlying293 sizeOf52 zeroValue52 (by decide) (by decide) (fill2i _ _ _ _) (fun bl wbl hS=>?_);simp only [NRM];simp only [NRH] at hS)
 have hlit:=isIs_two (b:=bl) (T:=52) hS (by simp) (hoo.at hS hF15) (hde.at hS hF15);have hsm:=(hsm.at hS hF15).weaken (T:=fun k=>S3 k∨k=bl) (fun k h=>.inl h);have hp16:=(hp15.step hS hO15 hF15).add (Heap.isNewL (H:=(_::_::_::_::_::_::_::B)) hS hO15);have hkC:=Heap.keepN hS hsC hkC;have hS16:=Heap.takeLast (H:=(_::_::_::_::_::_::_::B)) hS;obtain⟨F16,hFe16⟩:∃ F',F'=fun k=>F15 k∨k=bl:=⟨_,rfl⟩
 rw [← hFe16] at hS16;have hO16:∀ k,Old w k→F16 k:=fun k h=>by rw [hFe16];exact .inl (hO15 k h)
 have hsC:=SubC.trans hsC (F'':=F16) (fun k h=>by rw [hFe16];exact .inl h)
 have hF16:∀ k,(S3 k∨k=bl)→F16 k:=fun k h=>by
  rw [hFe16]
  rcases h with h|h
  ·exact .inl (hF15 k h)
  ·exact .inr h
 clear hFe16 hS;have hS:=hS16;clear hS16;refine pre_end (H:=[_,_,_,_,_,_,_]) hS hsC hkC ?_;refine mvp ?_;refine pre_ext rfl (fun B wB hS=>?_);simp only [NRH] at hS
 go_wp2_with (fail)
 refine (timesF_any _ 2 2 [(oo,e1),(de,(b.den:Int))] _ _ (hlit.at hS hF16) (Liv.at hS hF16) (fit2 f0 f6 f5) (by simp)).mono ?_;rintro e w' ⟨xx,S4,rfl,hq4,hxx⟩;simp only [iRes];go_step;have hsm:=(hsm.at hS hF16).grow hq4;have hkC:=Heap.keepC hS hq4.below hsC hkC;replace hS:=hS.pcl hF16 hO16 hp16 hq4;obtain⟨F17,hF17,hOO17,hp17,hO17,hS⟩:=hS;have hsC:=SubC.trans hsC hOO17;replace hxx:=hxx.cast (prod2 _ _ _ _);refine pre_end (H:=[_,_,_,_,_,_,_]) hS hsC hkC ?_;refine mvp ?_;refine pre_nil1 (fun bq wB hS=>?_);simp only [NRH] at hS;simp only [NRM];refine exL ?_
 (with_reducible refine stA 8 hS sizeOf52 fun _ hS=>?_)
 refine ext_end (Heap.toC hS.sb hsC hkC) ?_;refine mvs ?_;refine snL ?_;clear hsC hkC
 go_wp2_with (with_reducible first|refine ldA 7 hS isAgg52 sizeOf52 ?_|refine ldA 8 hS isAgg52 sizeOf52 ?_)
 refine (make_any _ _ (a.num*e2+b.num*e1) (e1*(b.den:Int)) _ S4 (hsm.at hS hF17) (hxx.at hS hF17) (Liv.at hS hF17) hez).mono ?_;rintro e w' ⟨z,S5,rfl,hq5,hz⟩;replace hS:=hS.pcl hF17 hO17 hp17 hq5;obtain⟨F18,hF18,-,hp18,hO18,hS⟩:=hS;simp only [fRes]
 go_wp2_with (with_reducible refine stA 3 hS sizeOf54 fun _ hS=>?_)
 exact ret_ct 3 hS rfl rfl rfl isAgg54 sizeOf54 rfl rfl ⟨z,S5,rfl,hp18.step hS hO18 hF18,(hz.at hS hF18).cast hpar.out⟩
end Go.Proofs
