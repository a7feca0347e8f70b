/- Texts for the walk of the law: GN M11. -/
import Derived.Test.YtihpoboahbpaiaaGreatQ31
set_option maxRecDepth 100000
set_option maxHeartbeats 16000000
set_option linter.unusedVariables false
set_option linter.unusedSimpArgs false
namespace Go.Hp
open Go.Proofs.Tryz
open Go
def smC (x:Int):Prop:=-100≤x∧x≤100
def Gp.sm (p:Gp):Prop:=smC p.x∧smC p.y
def Sz.sm (s:Sz):Prop:=s.a.sm∧s.b.sm
end Go.Hp
namespace Go.Proofs
open Go.Proofs.Tryz
open Go.RowKit Go.Hp
def aro (n most:Int):Int:=if n<0 then (-(n+1)) % most else n % most
theorem aro_lt (n:Int) {most:Int} (h:1≤most):0≤aro n most∧aro n most<most:=by
 unfold aro
 split
 ·exact⟨Int.emod_nonneg _ (by omega),Int.emod_lt_of_pos _ (by omega)⟩
 ·exact⟨Int.emod_nonneg _ (by omega),Int.emod_lt_of_pos _ (by omega)⟩
theorem aro_any (n most:Int) (w:World) (h1:1≤most) (h2:most≤9223372036854775807) (hn:InI n) :
 Calls Tryz.prog 9 #[.int .i64 n,.int .i64 most] w fun e w'=>e=.returned (.int .i64 (aro n most))∧w=w':=by
 obtain⟨h3,h4⟩:=hn
 by_cases h:n<0
 ·go_enter func9,ntmps9
  go_wp2;go_ret;exact⟨ret_int (by unfold aro;rw [if_pos h,← Int.neg_tmod,Int.tmod_eq_emod_of_nonneg (by omega)]),rfl⟩
 ·go_enter func9,ntmps9
  go_wp2;go_ret;exact⟨ret_int (by unfold aro;rw [if_neg (by omega)]),rfl⟩
def pck (xs:List Int) (i most:Int):Int:=if 0≤i∧i<xs.length then aro (nth 0 xs i.toNat) most else 0
theorem pck_lt (xs:List Int) (i:Int) {most:Int} (h:1≤most):0≤pck xs i most∧pck xs i most<most:=by
 unfold pck
 split
 ·exact aro_lt _ h
 ·omega
theorem pck_any (a:Option Addr) (n c:Nat) (xs:List Int) (i most:Int) (w:World) (hx:Ints w (Old w) (.slice a n c) xs) (h1:1≤most) (h2:most≤9223372036854775807) :
 Calls Tryz.prog 55 #[.slice a n c,.int .i64 i,.int .i64 most] w fun e w'=>e=.returned (.int .i64 (pck xs i most))∧w=w':=by
 have hn:=hx.len;subst hn;have hle:=hx.le;have hS:=Heap.start w
 by_cases h:0≤i∧i<xs.length
 ·obtain⟨h3,h4⟩:=h
  have hg:=hx.getD i.toNat
  go_enter func55,ntmps55
  go_wp2_with (first|(with_reducible first|refine ixI underlying22 sizeOf3 fun _ _ _=>?_|refine ld0 hS isAgg3 ?_)|(go_at_call 9;refine (aro_any _ _ _ h1 h2 hg).mono ?_;rintro e w' ⟨rfl,rfl⟩))
  go_ret;exact⟨ret_int (by unfold pck;rw [if_pos ⟨h3,h4⟩]),rfl⟩
 ·by_cases h3:i<0
  ·go_enter func55,ntmps55
   go_wp2;go_ret;exact⟨ret_int (by unfold pck;rw [if_neg (by omega)]),rfl⟩
  ·have h5:(xs.length:Int)≤i:=by omega
   go_enter func55,ntmps55
   go_wp2;go_ret;exact⟨ret_int (by unfold pck;rw [if_neg (by omega)]),rfl⟩
theorem take_eq_succ {xs ys:List Int} {k:Nat} (h1:k<xs.length) (h2:k<ys.length) (ht:xs.take k=ys.take k) (he:nth 0 xs k=nth 0 ys k):xs.take (k+1)=ys.take (k+1):=by
 rw [List.take_succ_eq_append_getElem h1,List.take_succ_eq_append_getElem h2,ht,← nth_eq 0 xs k h1,← nth_eq 0 ys k h2,he]
theorem sameInts_any (a b:Option Addr) (c d n m:Nat) (xs ys:List Int) (w:World) (hx:Ints w (Old w) (.slice a n c) xs) (hy:Ints w (Old w) (.slice b m d) ys) :
 Calls Tryz.prog 28 #[.slice a n c,.slice b m d] w fun e w'=>e=.returned (.bool (decide (xs=ys)))∧Pure w (fun _=>False) w' (fun _=>False):=by
 have hl1:=hx.le;have hl2:=hy.le;obtain⟨n,rfl⟩:∃ k,k=n:=⟨_,rfl⟩;have hn:=hx.len;have hm:=hy.len;subst hn hm
 by_cases hl:xs.length=ys.length
 ·have HL:=Hd hl
  have hne:((xs.length:Int) != (ys.length:Int))=false:=by simp [hl]
  clear hl
  go_enter func28,ntmps28
  go_wp2
  go_loopw [5] (fun i wr=>∃ k:Nat,k≤xs.length∧i=.int .i64 k∧xs.take k=ys.take k∧Heap w wr [.frz (Old w) w]) (fun i _=>xs.length - (intOf i).toNat)
  case atStart=>exact⟨0,Nat.zero_le _,rfl,rfl,Heap.start w⟩
  case round =>
   obtain⟨k,hk,rfl,ht,hS⟩:=hrel;have HT:=Hd ht;clear ht
   by_cases hlt:k<xs.length
   ·have hlt2:k<ys.length:=by have:=HL.out;omega
    go_wp2;refine rg0 [.p 0,.p 1,.p 2,.r 3,.p 4,.p 5,.p 6,.r 7,.p 8] [] hS fun w1 hS=>?_
    repeat (with_reducible first|refine skL ?_|refine sixI underlying22 sizeOf3 fun _ _ _=>?_|refine sld0 isAgg3 ?_|refine spL ?_)
    refine snL ?_
    by_cases he:nth 0 xs k=nth 0 ys k
    ·have he':(nth 0 xs k != nth 0 ys k)=false:=by simp [he]
     have HE:=Hd he;clear he;go_wp2;go_roundw
     case rel=>exact⟨k+1,by omega,by go_num,take_eq_succ hlt hlt2 HT.out HE.out,hS⟩
     case measure=>simp [intOf];omega
    ·have he':(nth 0 xs k != nth 0 ys k)=true:=by simp [he]
     go_wp2;go_ret;refine⟨?_,hS.pure _⟩;have:xs≠ys:=fun e=>he (by rw [e])
     simp [this]
   ·go_wp2
    go_ret;refine⟨?_,hS.pure _⟩;have h1:=HT.out;rw [List.take_of_length_le (by omega),List.take_of_length_le (by have:=HL.out;omega)] at h1;simp [h1]
 ·have hne:((xs.length:Int) != (ys.length:Int))=true:=by simp;omega
  go_enter func28,ntmps28
  go_wp2;go_ret;refine⟨?_,Pure.refl _ _⟩;have:xs≠ys:=fun e=>hl (by rw [e])
  simp [this]
def gridZ (n:Int):Gp:=if aro n 1048576 % 3=0 then ⟨8*(aro n 1048576 / 3 % 5),8*(aro n 1048576 / 15 % 5)⟩ else ⟨aro n 1048576 / 3 % 33,aro n 1048576 / 99 % 33⟩
theorem gridZ_bd (n:Int):(0≤(gridZ n).x∧(gridZ n).x≤32)∧0≤(gridZ n).y∧(gridZ n).y≤32:=by
 unfold gridZ
 split <;> simp only <;> omega
theorem grid05_any (n:Int) (w:World) (hn:InI n):Calls Tryz.prog 33 #[.int .i64 n] w fun e w'=>e=.returned (.agg #[.int .i64 (gridZ n).x,.int .i64 (gridZ n).y])∧Pure w (fun _=>False) w' (fun _=>False):=by
 obtain⟨G,hG⟩:∃ G,gridZ n=G:=⟨_,rfl⟩;rw [hG];unfold gridZ at hG;have ha:=aro_lt n (show (1:Int)≤1048576 by decide);have ar:=fun w=>aro_any n 1048576 w (by decide) (by decide) hn
 obtain⟨k,hk⟩:∃ k,aro n 1048576=k:=⟨_,rfl⟩;rw [hk] at ha hG;simp only [hk] at ar;obtain⟨h1,h2⟩:=ha;clear hk;have q1:k.tmod 3=k % 3:=Int.tmod_eq_emod_of_nonneg h1;have q2:k.tdiv 3=k / 3:=Int.tdiv_eq_ediv_of_nonneg h1;have q3:k.tdiv 15=k / 15:=Int.tdiv_eq_ediv_of_nonneg h1;have q4:k.tdiv 99=k / 99:=Int.tdiv_eq_ediv_of_nonneg h1;have q5:(k / 3).tmod 5=k / 3 % 5:=Int.tmod_eq_emod_of_nonneg (by omega);have q6:(k / 15).tmod 5=k / 15 % 5:=Int.tmod_eq_emod_of_nonneg (by omega);have q7:(k / 3).tmod 33=k / 3 % 33:=Int.tmod_eq_emod_of_nonneg (by omega);have q8:(k / 99).tmod 33=k / 99 % 33:=Int.tmod_eq_emod_of_nonneg (by omega);have w1:IntKind.i64.wrap (k % 3)=k % 3:=Go.Hp.w6;have w2:IntKind.i64.wrap (k / 3)=k / 3:=Go.Hp.w6;have w3:IntKind.i64.wrap (k / 15)=k / 15:=Go.Hp.w6;have w4:IntKind.i64.wrap (k / 99)=k / 99:=Go.Hp.w6;have w5:IntKind.i64.wrap (k / 3 % 5)=k / 3 % 5:=Go.Hp.w6;have w6:IntKind.i64.wrap (k / 15 % 5)=k / 15 % 5:=Go.Hp.w6;have w7:IntKind.i64.wrap (k / 3 % 33)=k / 3 % 33:=Go.Hp.w6;have w8:IntKind.i64.wrap (k / 99 % 33)=k / 99 % 33:=Go.Hp.w6;have w9:IntKind.i64.wrap (8*(k / 3 % 5))=8*(k / 3 % 5):=Go.Hp.w6;have w10:IntKind.i64.wrap (8*(k / 15 % 5))=8*(k / 15 % 5):=Go.Hp.w6;have hS:=Heap.start w
 by_cases h0:k % 3=0
 ·have d0:(k % 3 == 0)=true:=by simp [h0]
  rw [if_pos h0] at hG;replace hG:=Hd hG;replace h0:=Hd h0
  go_enter func33,ntmps33
  go_wp2_with (with_reducible refine alA hS zeroValue29 fun b2 wb2 hS=>?_)
  refine (ar _).mono ?_;rintro e w' ⟨rfl,rfl⟩;simp only []
  go_wp2_with (with_reducible refine stA 1 hS sizeOf29 fun _ hS=>?_)
  exact ret_c 1 hS rfl rfl rfl isAgg29 sizeOf29 rfl rfl ⟨by first|(rw [← hG.out];done)|(rw [← hG.out];rfl),hS.pure _⟩
 ·have d0:(k % 3 == 0)=false:=by simp [h0]
  rw [if_neg h0] at hG;replace hG:=Hd hG;replace h0:=Hd h0
  go_enter func33,ntmps33
  go_wp2_with (with_reducible refine alA hS zeroValue29 fun b2 wb2 hS=>?_)
  refine (ar _).mono ?_;rintro e w' ⟨rfl,rfl⟩;simp only []
  go_wp2_with (with_reducible refine stA 1 hS sizeOf29 fun _ hS=>?_)
  exact ret_c 1 hS rfl rfl rfl isAgg29 sizeOf29 rfl rfl ⟨by first|(rw [← hG.out];done)|(rw [← hG.out];rfl),hS.pure _⟩
end Go.Proofs
namespace Go.Proofs
open Go.Proofs.Tryz
open Go.RowKit Go.Hp
theorem points08_any (a:Option Addr) (n c m:Nat) (xs:List Int) (w:World) (hx:Ints w (Old w) (.slice a n c) xs) (hm:m≤1000) :
 Calls Tryz.prog 8 #[.slice a n c,.int .i64 (m:Int)] w fun e w'=>∃ ad c2,e=.returned (.slice ad ((xs.take m).map gridZ).length c2)∧Heap w w' [.frz (Old w) w,.row (.slice ad ((xs.take m).map gridZ).length c2) 29 2 ((xs.take m).map gridZ).length (((xs.take m).map gridZ).flatMap gc)]:=by
 have hn:=hx.len;subst hn;have hle:=hx.le;have hS:=(Heap.start w).addNil 29 2;simp only [NRH] at hS
 go_enter func8,ntmps8
 go_wp2
 go_loopw [5,6] (fun v5 v6 wr=>∃ (k:Nat) (ad:Option Addr) (c2:Nat),k≤xs.length∧k≤m∧v6=.int .i64 (k:Int)∧v5=.slice ad k c2∧Heap w wr [.frz (Old w) w,.row (.slice ad k c2) 29 2 k (((xs.take k).map gridZ).flatMap gc)]) (fun _ v6 _=>xs.length - (intOf v6).toNat)
 case atStart=>exact⟨0,none,0,by omega,by omega,rfl,rfl,hS⟩
 case round =>
  clear hS;obtain⟨k,ad,c2,hk,hkm,rfl,rfl,hS⟩:=hrel
  by_cases hlt:k<xs.length
  ·by_cases hlm:k<m
   ·have hg:=hx.getD k
    have gd:=fun w=>grid05_any (nth 0 xs k) w hg
    have htk:(xs.take (k+1)).map gridZ=(xs.take k).map gridZ++[gridZ (nth 0 xs k)]:=by rw [take_snoc 0 xs k hlt];simp
    obtain⟨g,hgg⟩:∃ g,gridZ (nth 0 xs k)=g:=⟨_,rfl⟩;simp only [hgg] at gd;rw [hgg] at htk;have hfl:((xs.take (k+1)).map gridZ).flatMap gc=((xs.take k).map gridZ).flatMap gc++[.int .i64 g.x,.int .i64 g.y]:=by rw [htk];simp [gc]
    replace hfl:=Hd hfl;clear htk hgg hg
    go_wp2_with (with_reducible first|refine ixI underlying22 sizeOf3 fun _ _ _=>?_|refine ld0 hS isAgg3 ?_)
    refine (gd _).mono ?_;rintro e w5 ⟨rfl,hq⟩;have hS:=hS.below hq.below hq.drawn;simp only []
    go_wp2_with (first|((with_reducible refine g_bs (T:=25) ?_);refine seq_bs1 (T:=25) (v:=.agg #[.int .i64 _,.int .i64 _]) hS underlying25 sizeOf29 zeroValue29 rfl rfl rfl (by decide) (by decide) rfl (fun bl wbl hS=>?_);simp only [NRM];simp only [Value.cells] at hS)|((with_reducible refine g_app ?_);refine seq_append_lit (t:=25) 1 hS underlying25 infoG rfl (by decide) rfl rfl rfl rfl (by simp [Value.oneCell']) (by omega) (by unfold maxLen;omega) (fun ad2 cp2 _ hS=>?_);simp only [NRM];simp only [NRH] at hS))
    go_roundw
    case rel=>exact⟨k+1,ad2,cp2,by omega,by omega,by simp,rfl,by rw [hfl.out];exact hS⟩
    case measure=>simp [intOf];omega
   ·obtain rfl:k=m:=by omega
    have hl:((xs.take k).map gridZ).length=k:=by simp;omega
    replace hl:=Hd hl;go_wp2;go_ret;exact⟨ad,c2,by rw [hl.out];rfl,by rw [hl.out];exact hS⟩
  ·obtain rfl:k=xs.length:=by omega
   have hl:((xs.take m).map gridZ).length=xs.length:=by simp;omega
   have ht:xs.take m=xs.take xs.length:=by rw [List.take_of_length_le (by omega),List.take_of_length_le (by omega)]
   replace hl:=Hd hl;replace ht:=Hd ht;go_wp2;go_ret;exact⟨ad,c2,by rw [hl.out];rfl,by rw [hl.out,ht.out];exact hS⟩
end Go.Proofs
