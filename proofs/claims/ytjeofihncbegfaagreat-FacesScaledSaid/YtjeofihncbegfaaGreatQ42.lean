/- Of M8 M9 M10 M11. -/
import Derived.Test.YtjeofihncbegfaaGreatQ39
set_option maxRecDepth 100000
set_option maxHeartbeats 16000000
set_option linter.unusedVariables false
set_option linter.unusedSimpArgs false
namespace Go.Proofs
open Go.Proofs.Tryz
open Go.RowKit Go.Hp
theorem common08_any (a b:Int) (w:World) (ha:a.natAbs<1099511627776) (hb:b.natAbs<1099511627776) :
 Calls Tryz.prog 160 #[.int .i64 a,.int .i64 b] w fun e w'=>e=.returned (.int .i64 (Int.gcd a b:Nat))∧w'=w:=by
 obtain⟨G,hG⟩:∃ G,Int.gcd a b=G:=⟨_,rfl⟩;rw [hG];have hw1:IntKind.i64.wrap (-a) = -a:=w6;have hw2:IntKind.i64.wrap (-b) = -b:=w6;have hm1:max a (-a)=((a.natAbs:Nat):Int):=by omega
 have hm2:max b (-b)=((b.natAbs:Nat):Int):=by omega
 have hg:=Hd (show Int.gcd ((a.natAbs:Nat):Int) ((b.natAbs:Nat):Int)=G by rw [← hG];simp [Int.gcd]);clear hG
 go_enter func160,ntmps160
 go_wp2
 go_loopw [0,1] (fun va vb wr=>∃ x y:Int,va=.int .i64 x∧vb=.int .i64 y∧wr=w∧0≤x∧0≤y∧x<1099511627776∧y<1099511627776∧Int.gcd x y=G) (fun va vb _=>(intOf vb).natAbs)
 case atStart=>exact⟨(a.natAbs:Int),(b.natAbs:Int),rfl,rfl,rfl,by omega,by omega,by omega,by omega,hg.out⟩
 case round =>
  obtain⟨x,y,rfl,rfl,rfl,hx0,hy0,hx,hy,hg2⟩:=hrel
  by_cases h0:y=0
  ·subst h0
   have hg3:(G:Int)=x:=by rw [← hg2,Int.gcd_zero];omega
   replace hg3:=Hd hg3;clear hg2;go_wp2;go_ret;exact⟨by rw [hg3.out];rfl,rfl⟩
  ·have hyt:decide (0<y)=true:=by simp;omega
   have hyf:(y == 0)=false:=by simp [h0]
   have hm:=Int.tmod_eq_emod_of_nonneg (b:=y) hx0;have hg3:=gcd_tmod x y;have hb3:=@tmod_bd x y h0;have hn3:0≤Int.tmod x y:=Int.tmod_nonneg _ hx0;rw [hm] at hg3 hb3 hn3;have hw:IntKind.i64.wrap (x % y)=x % y:=w6;have hb4:(x % y)<1099511627776:=by omega
   replace hg2:=Hd hg2;replace hg3:=Hd hg3;replace hb3:=Hd hb3;replace hb4:=Hd hb4;replace hn3:=Hd hn3;go_wp2;go_roundw
   case rel=>exact⟨y,x % y,rfl,rfl,trivial,hy0,hn3.out,hy,hb4.out,hg3.out.trans hg2.out⟩
   case measure=>exact hb3.out
theorem dir08_any (s:Sz) (w:World) (h:s.ok):Calls Tryz.prog 101 #[.agg #[.int .i64 s.a.x,.int .i64 s.a.y,.int .i64 s.b.x,.int .i64 s.b.y]] w fun e w'=>e=.returned (.agg #[.int .i64 (dirZ s).x,.int .i64 (dirZ s).y])∧Pure w (fun _=>False) w' (fun _=>False):=by
 obtain⟨⟨ax,ay⟩,⟨bx,by'⟩⟩:=s;obtain⟨ha,hb,hne⟩:=h;unfold Gp.ok okC at ha hb;simp only at ha hb;have hne2:¬ (bx - ax=0∧by' - ay=0):=fun h=>hne (by have h1:=h.1;have h2:=h.2;simp only [Gp.mk.injEq];omega)
 clear hne;have w1:IntKind.i64.wrap (bx - ax)=bx - ax:=w6;have w2:IntKind.i64.wrap (by' - ay)=by' - ay:=w6
 have w3:IntKind.i64.wrap (-(bx - ax)) = -(bx - ax):=w6;have w4:IntKind.i64.wrap (-(by' - ay)) = -(by' - ay):=w6;obtain⟨D,hD⟩:∃ D,dirZ ⟨⟨ax,ay⟩,⟨bx,by'⟩⟩=D:=⟨_,rfl⟩;rw [hD];unfold dirZ at hD;simp only at hD;obtain⟨X,hX⟩:∃ X,X=bx - ax:=⟨_,rfl⟩;obtain⟨Y,hY⟩:∃ Y,Y=by' - ay:=⟨_,rfl⟩
 have w1':IntKind.i64.wrap (bx - ax)=X:=by rw [w1,hX]
 have w2':IntKind.i64.wrap (by' - ay)=Y:=by rw [w2,hY]
 rw [← hX] at w1 w3 hD hne2;rw [← hY] at w2 w4 hD hne2;have bX:X.natAbs<1099511627776:=by omega
 have bY:Y.natAbs<1099511627776:=by omega
 have hg0:((Int.gcd X Y:Nat):Int)≠0:=by
  intro h;have:=Int.gcd_eq_zero_iff.1 (by omega:Int.gcd X Y=0);exact hne2 this
 have hgn:((Int.gcd (-X) (-Y):Nat):Int)=((Int.gcd X Y:Nat):Int):=by simp
 have q1:=fun a=>natAbs_tdiv_le a (Int.gcd X Y)
 obtain⟨G,hG⟩:∃ G:Int,G=((Int.gcd X Y:Nat):Int):=⟨_,rfl⟩;rw [← hG] at hD hg0 hgn;simp only [← hG] at q1;have q2:∀ a:Int,a.natAbs<1099511627776→IntKind.i64.wrap (a.tdiv G)=a.tdiv G:=fun a h=>by have:=q1 a;exact w6
 have q3:=q2 X bX;have q4:=q2 Y bY;have q5:IntKind.i64.wrap (-(X.tdiv G)) = -(X.tdiv G):=by have:=q1 X;exact w6
 have q6:IntKind.i64.wrap (-(Y.tdiv G)) = -(Y.tdiv G):=by have:=q1 Y;exact w6
 have hG0:(G == 0)=false:=by simpa using hg0
 replace hG:=Hd hG;replace hX:=Hd hX;replace hY:=Hd hY;replace hgn:=Hd hgn;clear q1 q2 ha hb hne2;have hS:=Heap.start w
 by_cases hc:X<0∨(X=0∧Y<0)
 ·rw [if_pos hc] at hD
  replace hD:=Hd hD
  rcases hc with h1|⟨h1,h2⟩
  ·have hd1:decide (X<0)=true:=by simpa using h1
   replace h1:=Hd h1
   go_enter func101,ntmps101
   go_wp2_with (with_reducible first|refine bxA hS fun b1 wb1 hS=>?_|refine alA hS zeroValue51 fun b2 wb2 hS=>?_|refine ldB 1 hS isAgg3 ?_)
   refine (common08_any (-X) (-Y) _ (by omega) (by omega)).mono ?_;rintro e w' ⟨rfl,rfl⟩;simp only [];rw [hgn.out];go_wp2;refine rg0 [.p 0,.p 1,.p 2,.p 3,.p 4,.p 5,.p 6,.m 7] [7] hS fun w1 hS=>?_
   refine mvs ?_;refine muL ?_
   (with_reducible refine stA 2 hS sizeOf51 fun _ hS=>?_)
   refine mut_end ?_;refine snL ?_;go_wp2;exact ret_c 2 hS rfl rfl rfl isAgg51 sizeOf51 rfl rfl ⟨by first|(rw [← hD.out];done),hS.pure _⟩
  ·have hd1:decide (X<0)=false:=by simp [h1]
   have hd2:(X == 0)=true:=by simp [h1]
   have hd3:decide (Y<0)=true:=by simpa using h2
   replace h1:=Hd h1;replace h2:=Hd h2
   go_enter func101,ntmps101
   go_wp2_with (with_reducible first|refine bxA hS fun b1 wb1 hS=>?_|refine alA hS zeroValue51 fun b2 wb2 hS=>?_|refine ldB 1 hS isAgg3 ?_)
   refine (common08_any (-X) (-Y) _ (by omega) (by omega)).mono ?_;rintro e w' ⟨rfl,rfl⟩;simp only [];rw [hgn.out];go_wp2;refine rg0 [.p 0,.p 1,.p 2,.p 3,.p 4,.p 5,.p 6,.m 7] [7] hS fun w1 hS=>?_
   refine mvs ?_;refine muL ?_
   (with_reducible refine stA 2 hS sizeOf51 fun _ hS=>?_)
   refine mut_end ?_;refine snL ?_;go_wp2;exact ret_c 2 hS rfl rfl rfl isAgg51 sizeOf51 rfl rfl ⟨by first|(rw [← hD.out];done),hS.pure _⟩
 ·rw [if_neg hc] at hD
  replace hD:=Hd hD;have h1:decide (X<0)=false:=by simp;omega
  by_cases h0:X=0
  ·have hd2:(X == 0)=true:=by simp [h0]
   have hd3:decide (Y<0)=false:=by simp;omega
   replace h0:=Hd h0;replace hc:=Hd hc
   go_enter func101,ntmps101
   go_wp2_with (with_reducible first|refine bxA hS fun b1 wb1 hS=>?_|refine alA hS zeroValue51 fun b2 wb2 hS=>?_|refine ldB 1 hS isAgg3 ?_)
   refine (common08_any (X) (Y) _ (by omega) (by omega)).mono ?_;rintro e w' ⟨rfl,rfl⟩;simp only [];rw [← hG.out];go_wp2;refine rg0 [.p 0,.p 1,.p 2,.p 3,.p 4,.p 5,.p 6,.m 7] [7] hS fun w1 hS=>?_
   refine mvs ?_;refine muL ?_
   (with_reducible refine stA 2 hS sizeOf51 fun _ hS=>?_)
   refine mut_end ?_;refine snL ?_;go_wp2;exact ret_c 2 hS rfl rfl rfl isAgg51 sizeOf51 rfl rfl ⟨by first|(rw [← hD.out];done),hS.pure _⟩
  ·have hd2:(X == 0)=false:=by simp [h0]
   replace h0:=Hd h0;replace hc:=Hd hc
   go_enter func101,ntmps101
   go_wp2_with (with_reducible first|refine bxA hS fun b1 wb1 hS=>?_|refine alA hS zeroValue51 fun b2 wb2 hS=>?_|refine ldB 1 hS isAgg3 ?_)
   refine (common08_any (X) (Y) _ (by omega) (by omega)).mono ?_;rintro e w' ⟨rfl,rfl⟩;simp only [];rw [← hG.out];go_wp2;refine rg0 [.p 0,.p 1,.p 2,.p 3,.p 4,.p 5,.p 6,.m 7] [7] hS fun w1 hS=>?_
   refine mvs ?_;refine muL ?_
   (with_reducible refine stA 2 hS sizeOf51 fun _ hS=>?_)
   refine mut_end ?_;refine snL ?_;go_wp2;exact ret_c 2 hS rfl rfl rfl isAgg51 sizeOf51 rfl rfl ⟨by first|(rw [← hD.out];done),hS.pure _⟩
end Go.Proofs
namespace Go.Proofs
open Go.Proofs.Tryz
open Go.RowKit Go.Hp
theorem good05_any (g:Gp) (w:World) (h:g.ok):Calls Tryz.prog 155 #[.agg #[.int .i64 g.x,.int .i64 g.y]] w fun e w'=>e=.returned (.int .i64 0)∧Pure w (fun _=>False) w' (fun _=>False):=by
 obtain⟨x,y⟩:=g;unfold Gp.ok okC at h;simp only at h;have d1:decide (x < -1073741824)=false:=by simp;omega
 have d2:decide ((1073741824:Int)<x)=false:=by simp;omega
 have d3:decide (y < -1073741824)=false:=by simp;omega
 have d4:decide ((1073741824:Int)<y)=false:=by simp;omega
 clear h;have hS:=Heap.start w
 go_enter func155,ntmps155
 go_wp2_with (with_reducible first|refine bxA hS fun b1 wb1 hS=>?_|refine ldB 1 hS isAgg3 ?_)
 go_ret;exact⟨rfl,hS.pure _⟩
theorem check08_any (os:List Sz) (gs:List Gp) (ao ap:Option Addr) (no co np cp:Nat) (w:World) (S:Nat→Prop) (hos:∀ t ∈ os,t.ok) (hgs:∀ g ∈ gs,g.ok) (hv:SlC w S 4 (.slice ao no co) os.length (os.flatMap sc)) (hg:SlC w S 2 (.slice ap np cp) gs.length (gs.flatMap gc)) (hlo:os.length≤512) (hlg:gs.length≤256) :
 Calls Tryz.prog 95 #[.slice ao no co,.slice ap np cp] w fun e w'=>e=.returned (.int .i64 0)∧Pure w (fun _=>False) w' (fun _=>False):=by
 obtain rfl:no=os.length:=by obtain⟨h1,a,cap,h2,_⟩:=hv;cases h2;rfl
 obtain rfl:np=gs.length:=by obtain⟨h1,a,cap,h2,_⟩:=hg;cases h2;rfl
 have hvo:=hv.old;have hgo:=hg.old;have hd1:decide ((512:Int)<(os.length:Int))=false:=by simp;omega
 have hd2:decide ((256:Int)<(gs.length:Int))=false:=by simp;omega
 clear hv hg;have hS:=Heap.start w
 go_enter func95,ntmps95
 go_wp2
 go_loopw [5] (fun v wr=>∃ k:Nat,k≤os.length∧v=.int .i64 (k:Int)∧Heap w wr [.frz (Old w) w]) (fun v _=>os.length - (intOf v).toNat)
 case atStart=>exact⟨0,by omega,rfl,hS⟩
 case round =>
  clear hS;obtain⟨k,hk,rfl,hS⟩:=hrel
  by_cases hkl:k<os.length
  ·obtain⟨t,ht⟩:∃ t,nth s0 os k=t:=⟨_,rfl⟩
   have hc:=flat_cell sc_len s0 hkl;rw [ht] at hc;have hto:=hos t (by rw [← ht];exact nth_mem s0 os k hkl);have v1:=fun w=>good05_any t.a w hto.1
   have v2:=fun w=>good05_any t.b w hto.2.1
   have hne:=hto.2.2;have HE:∀ w,(Op.equalIn 10000 51 (.agg #[.int .i64 t.a.x,.int .i64 t.a.y]) (.agg #[.int .i64 t.b.x,.int .i64 t.b.y])).run Tryz.prog w=.ok false w:=fun w=>by rw [equalG,decide_eq_false hne]
   clear ht hto hne
   go_wp2_with (first|((with_reducible refine ixE underlying23 sizeOf121 hvo hc fun bq oq hcellq=>?_);have hp0:CellsAt _ _ ⟨bq,oq,none⟩ [.int .i64 t.a.x,.int .i64 t.a.y]:=hcellq.part 0 2;have hp2:CellsAt _ _ ⟨bq,oq+2,none⟩ [.int .i64 t.b.x,.int .i64 t.b.y]:=hcellq.part 2 2)|(with_reducible refine ldG hS isAgg51 sizeOf51 ?_))
   refine (v1 _).mono ?_;rintro e w5 ⟨rfl,hq⟩;have hS:=hS.below hq.below hq.drawn;simp only []
   go_wp2_with (first|((with_reducible refine ixE underlying23 sizeOf121 hvo hc fun bq oq hcellq=>?_);have hp0:CellsAt _ _ ⟨bq,oq,none⟩ [.int .i64 t.a.x,.int .i64 t.a.y]:=hcellq.part 0 2;have hp2:CellsAt _ _ ⟨bq,oq+2,none⟩ [.int .i64 t.b.x,.int .i64 t.b.y]:=hcellq.part 2 2)|(with_reducible refine ldG hS isAgg51 sizeOf51 ?_))
   refine (v2 _).mono ?_;rintro e w6 ⟨rfl,hq⟩;have hS:=hS.below hq.below hq.drawn;simp only [];go_wp2;refine rg0 [.p 0,.p 1,.p 2,.p 3,.r 4,.p 5,.p 6,.p 7,.p 8,.r 9,.p 10] [] hS fun w1 hS=>?_
   repeat (first|((with_reducible refine sixE underlying23 sizeOf121 hvo hc fun bq oq hcellq=>?_);have hp0:CellsAt _ _ ⟨bq,oq,none⟩ [.int .i64 t.a.x,.int .i64 t.a.y]:=hcellq.part 0 2;have hp2:CellsAt _ _ ⟨bq,oq+2,none⟩ [.int .i64 t.b.x,.int .i64 t.b.y]:=hcellq.part 2 2)|(with_reducible first|refine sldG isAgg51 sizeOf51 ?_|refine spL ?_))
   refine snL ?_;go_wp2;go_roundw
   case rel=>exact⟨k+1,by omega,by simp,hS⟩
   case measure=>simp [intOf];omega
  ·obtain rfl:k=os.length:=by omega
   go_wp2
   go_loopw [6] (fun v wr=>∃ k:Nat,k≤gs.length∧v=.int .i64 (k:Int)∧Heap w wr [.frz (Old w) w]) (fun v _=>gs.length - (intOf v).toNat)
   case atStart=>exact⟨0,by omega,rfl,hS⟩
   case round =>
    clear hS;obtain⟨k,hk,rfl,hS⟩:=hrel
    by_cases hkl:k<gs.length
    ·obtain⟨p,hp⟩:∃ p,nth g0 gs k=p:=⟨_,rfl⟩
     have hc:=flat_cell gc_len g0 hkl;rw [hp] at hc;have ho:=hgs p (by rw [← hp];exact nth_mem g0 gs k hkl);have hvk:=fun w=>good05_any p w ho
     clear hp ho
     go_wp2_with (with_reducible first|refine ixE underlying24 sizeOf51 hgo hc fun bq oq hcellq=>?_|refine ldG hS isAgg51 sizeOf51 ?_)
     refine (hvk _).mono ?_;rintro e w5 ⟨rfl,hq⟩;have hS:=hS.below hq.below hq.drawn;simp only [];go_wp2;go_roundw
     case rel=>exact⟨k+1,by omega,by simp,hS⟩
     case measure=>simp [intOf];omega
    ·obtain rfl:k=gs.length:=by omega
     go_wp2;go_ret;exact⟨rfl,hS.pure _⟩
end Go.Proofs
namespace Go.Proofs
open Go.Proofs.Tryz
open Go.RowKit Go.Hp
def aro (n most:Int):Int:=if n<0 then (-(n+1)) % most else n % most
theorem aro_lt (n:Int) {most:Int} (h:1≤most):0≤aro n most∧aro n most<most:=by
 unfold aro
 split
 ·exact⟨Int.emod_nonneg _ (by omega),Int.emod_lt_of_pos _ (by omega)⟩
 ·exact⟨Int.emod_nonneg _ (by omega),Int.emod_lt_of_pos _ (by omega)⟩
theorem aro_any (n most:Int) (w:World) (h1:1≤most) (h2:most≤9223372036854775807) (hn:InI n) :
 Calls Tryz.prog 31 #[.int .i64 n,.int .i64 most] w fun e w'=>e=.returned (.int .i64 (aro n most))∧w=w':=by
 obtain⟨h3,h4⟩:=hn
 by_cases h:n<0
 ·go_enter func31,ntmps31
  go_wp2;go_ret;exact⟨ret_int (by unfold aro;rw [if_pos h,← Int.neg_tmod,Int.tmod_eq_emod_of_nonneg (by omega)]),rfl⟩
 ·go_enter func31,ntmps31
  go_wp2;go_ret;exact⟨ret_int (by unfold aro;rw [if_neg (by omega)]),rfl⟩
def pck (xs:List Int) (i most:Int):Int:=if 0≤i∧i<xs.length then aro (nth 0 xs i.toNat) most else 0
theorem pck_lt (xs:List Int) (i:Int) {most:Int} (h:1≤most):0≤pck xs i most∧pck xs i most<most:=by
 unfold pck
 split
 ·exact aro_lt _ h
 ·omega
theorem pck_any (a:Option Addr) (n c:Nat) (xs:List Int) (i most:Int) (w:World) (hx:Ints w (Old w) (.slice a n c) xs) (h1:1≤most) (h2:most≤9223372036854775807) :
 Calls Tryz.prog 70 #[.slice a n c,.int .i64 i,.int .i64 most] w fun e w'=>e=.returned (.int .i64 (pck xs i most))∧w=w':=by
 have hn:=hx.len;subst hn;have hle:=hx.le;have hS:=Heap.start w
 by_cases h:0≤i∧i<xs.length
 ·obtain⟨h3,h4⟩:=h
  have hg:=hx.getD i.toNat
  go_enter func70,ntmps70
  go_wp2_with (first|(with_reducible first|refine ixI underlying22 sizeOf3 fun _ _ _=>?_|refine ld0 hS isAgg3 ?_)|(go_at_call 31;refine (aro_any _ _ _ h1 h2 hg).mono ?_;rintro e w' ⟨rfl,rfl⟩))
  go_ret;exact⟨ret_int (by unfold pck;rw [if_pos ⟨h3,h4⟩]),rfl⟩
 ·by_cases h3:i<0
  ·go_enter func70,ntmps70
   go_wp2;go_ret;exact⟨ret_int (by unfold pck;rw [if_neg (by omega)]),rfl⟩
  ·have h5:(xs.length:Int)≤i:=by omega
   go_enter func70,ntmps70
   go_wp2;go_ret;exact⟨ret_int (by unfold pck;rw [if_neg (by omega)]),rfl⟩
theorem take_eq_succ {xs ys:List Int} {k:Nat} (h1:k<xs.length) (h2:k<ys.length) (ht:xs.take k=ys.take k) (he:nth 0 xs k=nth 0 ys k):xs.take (k+1)=ys.take (k+1):=by
 rw [List.take_succ_eq_append_getElem h1,List.take_succ_eq_append_getElem h2,ht,← nth_eq 0 xs k h1,← nth_eq 0 ys k h2,he]
theorem sameInts_any (a b:Option Addr) (c d n m:Nat) (xs ys:List Int) (w:World) (hx:Ints w (Old w) (.slice a n c) xs) (hy:Ints w (Old w) (.slice b m d) ys) :
 Calls Tryz.prog 15 #[.slice a n c,.slice b m d] w fun e w'=>e=.returned (.bool (decide (xs=ys)))∧Pure w (fun _=>False) w' (fun _=>False):=by
 have hl1:=hx.le;have hl2:=hy.le;obtain⟨n,rfl⟩:∃ k,k=n:=⟨_,rfl⟩;have hn:=hx.len;have hm:=hy.len;subst hn hm
 by_cases hl:xs.length=ys.length
 ·have HL:=Hd hl
  have hne:((xs.length:Int) != (ys.length:Int))=false:=by simp [hl]
  clear hl
  go_enter func15,ntmps15
  go_wp2
  go_loopw [5] (fun i wr=>∃ k:Nat,k≤xs.length∧i=.int .i64 k∧xs.take k=ys.take k∧Heap w wr [.frz (Old w) w]) (fun i _=>xs.length - (intOf i).toNat)
  case atStart=>exact⟨0,Nat.zero_le _,rfl,rfl,Heap.start w⟩
  case round =>
   obtain⟨k,hk,rfl,ht,hS⟩:=hrel;have HT:=Hd ht;clear ht
   by_cases hlt:k<xs.length
   ·have hlt2:k<ys.length:=by have:=HL.out;omega
    go_wp2;refine rg0 [.p 0,.p 1,.p 2,.r 3,.p 4,.p 5,.p 6,.r 7,.p 8] [] hS fun w1 hS=>?_
    repeat (with_reducible first|refine sixI underlying22 sizeOf3 fun _ _ _=>?_|refine sld0 isAgg3 ?_|refine spL ?_)
    refine snL ?_
    by_cases he:nth 0 xs k=nth 0 ys k
    ·have he':(nth 0 xs k != nth 0 ys k)=false:=by simp [he]
     have HE:=Hd he;clear he;go_wp2;go_roundw
     case rel=>exact⟨k+1,by omega,by go_num,take_eq_succ hlt hlt2 HT.out HE.out,hS⟩
     case measure=>simp [intOf];omega
    ·have he':(nth 0 xs k != nth 0 ys k)=true:=by simp [he]
     go_wp2;go_ret;refine⟨?_,hS.pure _⟩;have:xs≠ys:=fun e=>he (by rw [e])
     simp [this]
   ·go_wp2
    go_ret;refine⟨?_,hS.pure _⟩;have h1:=HT.out;rw [List.take_of_length_le (by omega),List.take_of_length_le (by have:=HL.out;omega)] at h1;simp [h1]
 ·have hne:((xs.length:Int) != (ys.length:Int))=true:=by simp;omega
  go_enter func15,ntmps15
  go_wp2;go_ret;refine⟨?_,Pure.refl _ _⟩;have:xs≠ys:=fun e=>hl (by rw [e])
  simp [this]
def gridZ (n:Int):Gp:=if aro n 1048576 % 3=0 then ⟨8*(aro n 1048576 / 3 % 5),8*(aro n 1048576 / 15 % 5)⟩ else ⟨aro n 1048576 / 3 % 33,aro n 1048576 / 99 % 33⟩
theorem gridZ_bd (n:Int):(0≤(gridZ n).x∧(gridZ n).x≤32)∧0≤(gridZ n).y∧(gridZ n).y≤32:=by
 unfold gridZ
 split <;> simp only <;> omega
theorem grid05_any (n:Int) (w:World) (hn:InI n):Calls Tryz.prog 71 #[.int .i64 n] w fun e w'=>e=.returned (.agg #[.int .i64 (gridZ n).x,.int .i64 (gridZ n).y])∧Pure w (fun _=>False) w' (fun _=>False):=by
 obtain⟨G,hG⟩:∃ G,gridZ n=G:=⟨_,rfl⟩;rw [hG];unfold gridZ at hG;have ha:=aro_lt n (show (1:Int)≤1048576 by decide);have ar:=fun w=>aro_any n 1048576 w (by decide) (by decide) hn
 obtain⟨k,hk⟩:∃ k,aro n 1048576=k:=⟨_,rfl⟩;rw [hk] at ha hG;simp only [hk] at ar;obtain⟨h1,h2⟩:=ha;clear hk;have q1:k.tmod 3=k % 3:=Int.tmod_eq_emod_of_nonneg h1;have q2:k.tdiv 3=k / 3:=Int.tdiv_eq_ediv_of_nonneg h1;have q3:k.tdiv 15=k / 15:=Int.tdiv_eq_ediv_of_nonneg h1;have q4:k.tdiv 99=k / 99:=Int.tdiv_eq_ediv_of_nonneg h1;have q5:(k / 3).tmod 5=k / 3 % 5:=Int.tmod_eq_emod_of_nonneg (by omega);have q6:(k / 15).tmod 5=k / 15 % 5:=Int.tmod_eq_emod_of_nonneg (by omega);have q7:(k / 3).tmod 33=k / 3 % 33:=Int.tmod_eq_emod_of_nonneg (by omega);have q8:(k / 99).tmod 33=k / 99 % 33:=Int.tmod_eq_emod_of_nonneg (by omega);have w1:IntKind.i64.wrap (k % 3)=k % 3:=Go.Hp.w6;have w2:IntKind.i64.wrap (k / 3)=k / 3:=Go.Hp.w6;have w3:IntKind.i64.wrap (k / 15)=k / 15:=Go.Hp.w6;have w4:IntKind.i64.wrap (k / 99)=k / 99:=Go.Hp.w6;have w5:IntKind.i64.wrap (k / 3 % 5)=k / 3 % 5:=Go.Hp.w6;have w6:IntKind.i64.wrap (k / 15 % 5)=k / 15 % 5:=Go.Hp.w6;have w7:IntKind.i64.wrap (k / 3 % 33)=k / 3 % 33:=Go.Hp.w6;have w8:IntKind.i64.wrap (k / 99 % 33)=k / 99 % 33:=Go.Hp.w6;have w9:IntKind.i64.wrap (8*(k / 3 % 5))=8*(k / 3 % 5):=Go.Hp.w6;have w10:IntKind.i64.wrap (8*(k / 15 % 5))=8*(k / 15 % 5):=Go.Hp.w6;have hS:=Heap.start w
 by_cases h0:k % 3=0
 ·have d0:(k % 3 == 0)=true:=by simp [h0]
  rw [if_pos h0] at hG;replace hG:=Hd hG;replace h0:=Hd h0
  go_enter func71,ntmps71
  go_wp2_with (with_reducible refine alA hS zeroValue51 fun b2 wb2 hS=>?_)
  refine (ar _).mono ?_;rintro e w' ⟨rfl,rfl⟩;simp only []
  go_wp2_with (with_reducible refine stA 1 hS sizeOf51 fun _ hS=>?_)
  exact ret_c 1 hS rfl rfl rfl isAgg51 sizeOf51 rfl rfl ⟨by first|(rw [← hG.out];done),hS.pure _⟩
 ·have d0:(k % 3 == 0)=false:=by simp [h0]
  rw [if_neg h0] at hG;replace hG:=Hd hG;replace h0:=Hd h0
  go_enter func71,ntmps71
  go_wp2_with (with_reducible refine alA hS zeroValue51 fun b2 wb2 hS=>?_)
  refine (ar _).mono ?_;rintro e w' ⟨rfl,rfl⟩;simp only []
  go_wp2_with (with_reducible refine stA 1 hS sizeOf51 fun _ hS=>?_)
  exact ret_c 1 hS rfl rfl rfl isAgg51 sizeOf51 rfl rfl ⟨by first|(rw [← hG.out];done),hS.pure _⟩
end Go.Proofs
namespace Go.Proofs
open Go.Proofs.Tryz
open Go.RowKit Go.Hp
theorem points08_any (a:Option Addr) (n c m:Nat) (xs:List Int) (w:World) (hx:Ints w (Old w) (.slice a n c) xs) (hm:m≤1000) :
 Calls Tryz.prog 30 #[.slice a n c,.int .i64 (m:Int)] w fun e w'=>∃ ad c2,e=.returned (.slice ad ((xs.take m).map gridZ).length c2)∧Heap w w' [.frz (Old w) w,.row (.slice ad ((xs.take m).map gridZ).length c2) 51 2 ((xs.take m).map gridZ).length (((xs.take m).map gridZ).flatMap gc)]:=by
 have hn:=hx.len;subst hn;have hle:=hx.le;have hS:=(Heap.start w).addNil 51 2;simp only [NRH] at hS
 go_enter func30,ntmps30
 go_wp2
 go_loopw [5,6] (fun v5 v6 wr=>∃ (k:Nat) (ad:Option Addr) (c2:Nat),k≤xs.length∧k≤m∧v6=.int .i64 (k:Int)∧v5=.slice ad k c2∧Heap w wr [.frz (Old w) w,.row (.slice ad k c2) 51 2 k (((xs.take k).map gridZ).flatMap gc)]) (fun _ v6 _=>xs.length - (intOf v6).toNat)
 case atStart=>exact⟨0,none,0,by omega,by omega,rfl,rfl,hS⟩
 case round =>
  clear hS;obtain⟨k,ad,c2,hk,hkm,rfl,rfl,hS⟩:=hrel
  by_cases hlt:k<xs.length
  ·by_cases hlm:k<m
   ·have hg:=hx.getD k
    have gd:=fun w=>grid05_any (nth 0 xs k) w hg
    have htk:(xs.take (k+1)).map gridZ=(xs.take k).map gridZ++[gridZ (nth 0 xs k)]:=by rw [take_snoc 0 xs k hlt];simp
    obtain⟨g,hgg⟩:∃ g,gridZ (nth 0 xs k)=g:=⟨_,rfl⟩;simp only [hgg] at gd;rw [hgg] at htk;have hfl:((xs.take (k+1)).map gridZ).flatMap gc=((xs.take k).map gridZ).flatMap gc++[.int .i64 g.x,.int .i64 g.y]:=by rw [htk];simp [gc]
    replace hfl:=Hd hfl;clear htk hgg hg
    go_wp2_with (with_reducible first|refine ixI underlying22 sizeOf3 fun _ _ _=>?_|refine ld0 hS isAgg3 ?_)
    refine (gd _).mono ?_;rintro e w5 ⟨rfl,hq⟩;have hS:=hS.below hq.below hq.drawn;simp only []
    go_wp2_with (first|((with_reducible refine g_bs (T:=24) ?_);refine seq_bs1 (T:=24) (v:=.agg #[.int .i64 _,.int .i64 _]) hS underlying24 sizeOf51 zeroValue51 rfl rfl rfl (by decide) (by decide) rfl (fun bl wbl hS=>?_);simp only [NRM];simp only [Value.cells] at hS)|((with_reducible refine g_app ?_);refine seq_append_lit (t:=24) 1 hS underlying24 infoG rfl (by decide) rfl rfl rfl rfl (by simp [Value.oneCell']) (by omega) (by unfold maxLen;omega) (fun ad2 cp2 _ hS=>?_);simp only [NRM];simp only [NRH] at hS))
    go_roundw
    case rel=>exact⟨k+1,ad2,cp2,by omega,by omega,by simp,rfl,by rw [hfl.out];exact hS⟩
    case measure=>simp [intOf];omega
   ·obtain rfl:k=m:=by omega
    have hl:((xs.take k).map gridZ).length=k:=by simp;omega
    replace hl:=Hd hl;go_wp2;go_ret;exact⟨ad,c2,by rw [hl.out];rfl,by rw [hl.out];exact hS⟩
  ·obtain rfl:k=xs.length:=by omega
   have hl:((xs.take m).map gridZ).length=xs.length:=by simp;omega
   have ht:xs.take m=xs.take xs.length:=by rw [List.take_of_length_le (by omega),List.take_of_length_le (by omega)]
   replace hl:=Hd hl;replace ht:=Hd ht;go_wp2;go_ret;exact⟨ad,c2,by rw [hl.out];rfl,by rw [hl.out,ht.out];exact hS⟩
end Go.Proofs
