/- Texts for the walk of the law: E5 E6 E7 WV FA. -/
import Derived.Lib.SliceRun
import Derived.Test.YtihpoboahbpaiaaGreatQ22
set_option maxRecDepth 100000
set_option maxHeartbeats 16000000
set_option linter.unusedVariables false
set_option linter.unusedSimpArgs false
namespace Go.Hp
open Go.Proofs.Tryz
open Go
theorem gcd_tmod (x y:Int):Int.gcd y (Int.tmod x y)=Int.gcd x y:=by
 unfold Int.gcd;rw [Int.natAbs_tmod,Nat.gcd_comm,← Nat.gcd_rec,Nat.gcd_comm]
theorem tmod_bd {x y:Int} (hy:y≠0):(Int.tmod x y).natAbs<y.natAbs:=by
 rw [Int.natAbs_tmod];exact Nat.mod_lt _ (by omega)
def dirZ (s:Sz):Gp:=if s.b.x - s.a.x<0∨(s.b.x - s.a.x=0∧s.b.y - s.a.y<0) then ⟨-((s.b.x - s.a.x).tdiv (Int.gcd (s.b.x - s.a.x) (s.b.y - s.a.y):Nat)),-((s.b.y - s.a.y).tdiv (Int.gcd (s.b.x - s.a.x) (s.b.y - s.a.y):Nat))⟩
 else ⟨(s.b.x - s.a.x).tdiv (Int.gcd (s.b.x - s.a.x) (s.b.y - s.a.y):Nat),(s.b.y - s.a.y).tdiv (Int.gcd (s.b.x - s.a.x) (s.b.y - s.a.y):Nat)⟩
theorem natAbs_tdiv_le (a:Int) (n:Nat):(a.tdiv (n:Int)).natAbs≤a.natAbs:=by
 rw [Int.natAbs_tdiv];exact Nat.div_le_self _ _
end Go.Hp
namespace Go.Proofs
open Go.Proofs.Tryz
open Go.RowKit Go.Hp
theorem agcd_any (a b:Int) (w:World) (ha:a.natAbs<1099511627776) (hb:b.natAbs<1099511627776) :
 Calls Tryz.prog 124 #[.int .i64 a,.int .i64 b] w fun e w'=>e=.returned (.int .i64 (Int.gcd a b:Nat))∧Pure w (fun _=>False) w' (fun _=>False):=by
 have hS:=Heap.start w
 go_enter func124,ntmps124
 go_wp2
 go_loopw [0,1] (fun va vb wr=>∃ x y:Int,va=.int .i64 x∧vb=.int .i64 y∧Heap w wr [.frz (Old w) w]∧x.natAbs<1099511627776∧y.natAbs<1099511627776∧Int.gcd x y=Int.gcd a b) (fun va vb _=>(intOf vb).natAbs)
 case atStart=>exact⟨a,b,rfl,rfl,hS,ha,hb,rfl⟩
 case round =>
  clear hS ha hb;obtain⟨x,y,rfl,rfl,hS,hx,hy,hg⟩:=hrel
  by_cases h0:y=0
  ·subst h0
   have hg2:x.natAbs=Int.gcd a b:=by rw [← hg,Int.gcd_zero]
   have hm:max x (-x)=((x.natAbs:Nat):Int):=by omega
   have hw:IntKind.i64.wrap (-x) = -x:=w6;clear hg;replace hg2:=Hd hg2;go_wp2;go_ret;exact⟨by rw [← hg2.out];rfl,hS.pure _⟩
  ·have hyf:(y == 0)=false:=by simp [h0]
   have hg3:=gcd_tmod x y;have hb3:=@tmod_bd x y h0;have hw:IntKind.i64.wrap (Int.tmod x y)=Int.tmod x y:=w6;replace hg:=Hd hg;replace hg3:=Hd hg3;have hb4:(x.tmod y).natAbs<1099511627776:=by omega
   replace hb4:=Hd hb4;replace hb3:=Hd hb3;go_wp2;refine rg0 [.p 0,.p 1,.p 2,.p 3,.p 4,.p 5] [] hS fun w1 hS=>?_
   refine mvs ?_;refine snL ?_;go_wp2;go_roundw
   case rel=>exact⟨y,x.tmod y,rfl,rfl,hS,hy,hb4.out,hg3.out.trans hg.out⟩
   case measure=>exact hb3.out
theorem adir_any (s:Sz) (w:World) (h:s.ok):Calls Tryz.prog 76 #[.agg #[.int .i64 s.a.x,.int .i64 s.a.y,.int .i64 s.b.x,.int .i64 s.b.y]] w fun e w'=>e=.returned (.agg #[.int .i64 (dirZ s).x,.int .i64 (dirZ s).y])∧Pure w (fun _=>False) w' (fun _=>False):=by
 obtain⟨⟨ax,ay⟩,⟨bx,by'⟩⟩:=s;obtain⟨ha,hb,hne⟩:=h;unfold Gp.ok okC at ha hb;simp only at ha hb;have hne2:¬ (bx - ax=0∧by' - ay=0):=fun h=>hne (by have h1:=h.1;have h2:=h.2;simp only [Gp.mk.injEq];omega)
 clear hne;have w1:IntKind.i64.wrap (bx - ax)=bx - ax:=w6;have w2:IntKind.i64.wrap (by' - ay)=by' - ay:=w6
 have w3:IntKind.i64.wrap (-(bx - ax)) = -(bx - ax):=w6;have w4:IntKind.i64.wrap (-(by' - ay)) = -(by' - ay):=w6;obtain⟨D,hD⟩:∃ D,dirZ ⟨⟨ax,ay⟩,⟨bx,by'⟩⟩=D:=⟨_,rfl⟩;rw [hD];unfold dirZ at hD;simp only at hD;obtain⟨X,hX⟩:∃ X,X=bx - ax:=⟨_,rfl⟩;obtain⟨Y,hY⟩:∃ Y,Y=by' - ay:=⟨_,rfl⟩
 rw [← hX] at w1 w3 hD hne2;rw [← hY] at w2 w4 hD hne2;have bX:X.natAbs<1099511627776:=by omega
 have bY:Y.natAbs<1099511627776:=by omega
 have hg0:((Int.gcd X Y:Nat):Int)≠0:=by
  intro h;have:=Int.gcd_eq_zero_iff.1 (by omega:Int.gcd X Y=0);exact hne2 this
 have hgn:((Int.gcd (-X) (-Y):Nat):Int)=((Int.gcd X Y:Nat):Int):=by simp
 have q1:=fun a=>natAbs_tdiv_le a (Int.gcd X Y)
 obtain⟨G,hG⟩:∃ G:Int,G=((Int.gcd X Y:Nat):Int):=⟨_,rfl⟩;rw [← hG] at hD hg0 hgn;simp only [← hG] at q1;have q2:∀ a:Int,a.natAbs<1099511627776→IntKind.i64.wrap (a.tdiv G)=a.tdiv G:=fun a h=>by have:=q1 a;exact w6
 have q3:=q2 X bX;have q4:=q2 Y bY;have q5:IntKind.i64.wrap (-(X.tdiv G)) = -(X.tdiv G):=by have:=q1 X;exact w6
 have q6:IntKind.i64.wrap (-(Y.tdiv G)) = -(Y.tdiv G):=by have:=q1 Y;exact w6
 have hG0:(G == 0)=false:=by simpa using hg0
 replace hG:=Hd hG;replace hX:=Hd hX;replace hY:=Hd hY;replace hgn:=Hd hgn;clear q1 q2 ha hb hne2;have hS:=Heap.start w
 go_enter func76,ntmps76
 go_wp2_with (with_reducible first|refine bxA hS fun b1 wb1 hS=>?_|refine alA hS zeroValue29 fun b2 wb2 hS=>?_)
 refine rg0 [.p 0,.p 1,.r 2,.p 3,.p 4,.r 5,.p 6,.p 7,.p 8,.r 9,.p 10,.p 11,.r 12,.p 13,.p 14,.p 15] [] hS fun w1 hS=>?_
 repeat (with_reducible first|refine sldB 1 isAgg3 ?_|refine spL ?_)
 refine snL ?_;rw [← hX.out,← hY.out]
 by_cases hc:X<0∨(X=0∧Y<0)
 ·rw [if_pos hc] at hD
  replace hD:=Hd hD
  rcases hc with h1|⟨h1,h2⟩
  ·have hd1:decide (X<0)=true:=by simpa using h1
   replace h1:=Hd h1
   go_wp2_with (fail)
   refine (agcd_any (-X) (-Y) _ (by omega) (by omega)).mono ?_;rintro e w' ⟨rfl,hq⟩;have hS:=hS.below hq.below hq.drawn;simp only [];rw [hgn.out];go_wp2;refine rg0 [.p 0,.p 1,.p 2,.p 3,.p 4,.p 5,.p 6,.m 7] [7] hS fun w1 hS=>?_
   refine mvs ?_;refine muL ?_
   (with_reducible refine stA 2 hS sizeOf29 fun _ hS=>?_)
   refine mut_end ?_;refine snL ?_;go_wp2;exact ret_c 2 hS rfl rfl rfl isAgg29 sizeOf29 rfl rfl ⟨by first|(rw [← hD.out];done),hS.pure _⟩
  ·have hd1:decide (X<0)=false:=by simp [h1]
   have hd2:(X == 0)=true:=by simp [h1]
   have hd3:decide (Y<0)=true:=by simpa using h2
   replace h1:=Hd h1;replace h2:=Hd h2
   go_wp2_with (fail)
   refine (agcd_any (-X) (-Y) _ (by omega) (by omega)).mono ?_;rintro e w' ⟨rfl,hq⟩;have hS:=hS.below hq.below hq.drawn;simp only [];rw [hgn.out];go_wp2;refine rg0 [.p 0,.p 1,.p 2,.p 3,.p 4,.p 5,.p 6,.m 7] [7] hS fun w1 hS=>?_
   refine mvs ?_;refine muL ?_
   (with_reducible refine stA 2 hS sizeOf29 fun _ hS=>?_)
   refine mut_end ?_;refine snL ?_;go_wp2;exact ret_c 2 hS rfl rfl rfl isAgg29 sizeOf29 rfl rfl ⟨by first|(rw [← hD.out];done),hS.pure _⟩
 ·rw [if_neg hc] at hD
  replace hD:=Hd hD;have h1:decide (X<0)=false:=by simp;omega
  by_cases h0:X=0
  ·have hd2:(X == 0)=true:=by simp [h0]
   have hd3:decide (Y<0)=false:=by simp;omega
   replace h0:=Hd h0;replace hc:=Hd hc
   go_wp2_with (fail)
   refine (agcd_any (X) (Y) _ (by omega) (by omega)).mono ?_;rintro e w' ⟨rfl,hq⟩;have hS:=hS.below hq.below hq.drawn;simp only [];rw [← hG.out];go_wp2;refine rg0 [.p 0,.p 1,.p 2,.p 3,.p 4,.p 5,.p 6,.m 7] [7] hS fun w1 hS=>?_
   refine mvs ?_;refine muL ?_
   (with_reducible refine stA 2 hS sizeOf29 fun _ hS=>?_)
   refine mut_end ?_;refine snL ?_;go_wp2;exact ret_c 2 hS rfl rfl rfl isAgg29 sizeOf29 rfl rfl ⟨by first|(rw [← hD.out];done),hS.pure _⟩
  ·have hd2:(X == 0)=false:=by simp [h0]
   replace h0:=Hd h0;replace hc:=Hd hc
   go_wp2_with (fail)
   refine (agcd_any (X) (Y) _ (by omega) (by omega)).mono ?_;rintro e w' ⟨rfl,hq⟩;have hS:=hS.below hq.below hq.drawn;simp only [];rw [← hG.out];go_wp2;refine rg0 [.p 0,.p 1,.p 2,.p 3,.p 4,.p 5,.p 6,.m 7] [7] hS fun w1 hS=>?_
   refine mvs ?_;refine muL ?_
   (with_reducible refine stA 2 hS sizeOf29 fun _ hS=>?_)
   refine mut_end ?_;refine snL ?_;go_wp2;exact ret_c 2 hS rfl rfl rfl isAgg29 sizeOf29 rfl rfl ⟨by first|(rw [← hD.out];done),hS.pure _⟩
end Go.Proofs
namespace Go.Proofs
open Go.Proofs.Tryz
open Go.RowKit Go.Hp
theorem orE_any (b:Nat) (w:World) (S:Nat→Prop) (hv:SlC w S 1 (.slice (some ⟨b,0,none⟩) 2 2) 2 [.int .i64 0,.int .i64 0]) :
 Calls Tryz.prog 113 #[.slice (some ⟨b,0,none⟩) 2 2] w fun e w'=>e=.returned (.int .i64 0)∧w=w':=by
 have hS:=Heap.start w;have hvo:=hv.old
 go_enter func113,ntmps113
 go_wp2;refine wp_loop_rounds 3 ?_;rw [rounds_succ]
 go_wp2_with (first|((with_reducible refine g_idx (T:=250) ?_);refine seq_any rfl (any_index (T:=250) underlying250 sizeOf43 rfl rfl hvo (by omega) (by omega) (by omega) (fun bq oq hcellq=>?_));replace hcellq:CellsAt _ _ ⟨bq,oq,none⟩ [.int .i64 0]:=hcellq;simp only [NRM])|(with_reducible refine ld0 hS isAgg43 ?_))
 first|rw [rounds_succ]
 go_wp2_with (first|((with_reducible refine g_idx (T:=250) ?_);refine seq_any rfl (any_index (T:=250) underlying250 sizeOf43 rfl rfl hvo (by omega) (by omega) (by omega) (fun bq oq hcellq=>?_));replace hcellq:CellsAt _ _ ⟨bq,oq,none⟩ [.int .i64 0]:=hcellq;simp only [NRM])|(with_reducible refine ld0 hS isAgg43 ?_))
 first|rw [rounds_succ]
 go_wp2;go_ret;exact⟨rfl,rfl⟩
theorem afind_any (ad:Option Addr) (n c:Nat) (prs:List PR) (l:List Pt) (p:PR) (q:Pt) (w:World) (S:Nat→Prop) (hv:PL w S (.slice ad n c) prs l) (hp:IsP w S p q) (hL:Liv w S) (hsort:l.Pairwise Pt.lt) (hle:l.length≤1000000) :
 Calls Tryz.prog 75 #[.slice ad n c,.agg #[.bool p.x.num.neg,.slice p.x.num.ad p.x.num.n p.x.num.cap,.bool p.x.less.neg,.slice p.x.less.ad p.x.less.n p.x.less.cap,.bool p.y.num.neg,.slice p.y.num.ad p.y.num.n p.y.num.cap,.bool p.y.less.neg,.slice p.y.less.ad p.y.less.n p.y.less.cap]] w fun e w'=>(∃ i,Stands l q i∧e=.returned (.tuple #[.int .i64 (i:Int),.bool (decide (i<l.length∧nth pt0 l i=q))]))∧Pure w S w' S:=by
 have hb:=fun w' (hv:PL w' S (.slice ad n c) prs l) hp hL=>bsearchP_any ad n c prs l p q w' S hv hp hL hsort hle
 obtain⟨hS,hF0,hO0,hp0⟩:=st0 hL
 go_enter func75,ntmps75
 go_wp2_with (with_reducible first|refine bxA (T:=56) (v:=.agg _) hS fun bx wbx hS=>?_|refine ldA 1 hS isAgg56 sizeOf56 ?_)
 refine (hb _ (hv.at hS hF0) (hp.at hS hF0) (Liv.at hS hF0)).mono ?_;rintro e w' ⟨⟨i,hi,rfl⟩,hq⟩;replace hS:=hS.pcl hF0 hO0 hp0 hq;obtain⟨F1,hF1,-,hp1,hO1,hS⟩:=hS;replace hi:=Hd hi;obtain⟨d,hd⟩:∃ d,decide (i<l.length∧nth pt0 l i=q)=d:=⟨_,rfl⟩;rw [hd];replace hd:=Hd hd;simp only [];go_wp2;refine bodyPost_ret (results_tmp2 rfl _ _ _) rfl ?_;exact⟨⟨i,hi.out,by rw [hd.out];rfl⟩,hp1.step hS hO1 hF1⟩
theorem acheck_any (os:List Sz) (gs:List Gp) (ao ap:Option Addr) (no co np cp:Nat) (w:World) (S:Nat→Prop) (hos:∀ t ∈ os,t.ok) (hgs:∀ g ∈ gs,g.ok) (hv:SlC w S 4 (.slice ao no co) os.length (os.flatMap sc)) (hg:SlC w S 2 (.slice ap np cp) gs.length (gs.flatMap gc)) (hlo:os.length≤512) (hlg:gs.length≤256) :
 Calls Tryz.prog 65 #[.slice ao no co,.slice ap np cp] w fun e w'=>e=.returned (.int .i64 0)∧Pure w (fun _=>False) w' (fun _=>False):=by
 obtain rfl:no=os.length:=by obtain⟨h1,a,cap,h2,_⟩:=hv;cases h2;rfl
 obtain rfl:np=gs.length:=by obtain⟨h1,a,cap,h2,_⟩:=hg;cases h2;rfl
 have hvo:=hv.old;have hgo:=hg.old;have hd1:decide ((512:Int)<(os.length:Int))=false:=by simp;omega
 have hd2:decide ((256:Int)<(gs.length:Int))=false:=by simp;omega
 clear hv hg;have hS:=Heap.start w
 go_enter func65,ntmps65
 go_wp2
 go_loopw [21] (fun v wr=>∃ k:Nat,k≤os.length∧v=.int .i64 (k:Int)∧Heap w wr [.frz (Old w) w]) (fun v _=>os.length - (intOf v).toNat)
 case atStart=>exact⟨0,by omega,rfl,hS⟩
 case round =>
  clear hS;obtain⟨k,hk,rfl,hS⟩:=hrel
  by_cases hkl:k<os.length
  ·obtain⟨t,ht⟩:∃ t,nth s0 os k=t:=⟨_,rfl⟩
   have hc:=flat_cell sc_len s0 hkl;rw [ht] at hc;have hto:=hos t (by rw [← ht];exact nth_mem s0 os k hkl);have v1:=fun w=>pvalid_any t.a.x t.a.y w hto.1.1 hto.1.2
   have v2:=fun w=>pvalid_any t.b.x t.b.y w hto.2.1.1 hto.2.1.2
   have hne:=hto.2.2;have HE:∀ w,(Op.equalIn 10000 29 (.agg #[.int .i64 t.a.x,.int .i64 t.a.y]) (.agg #[.int .i64 t.b.x,.int .i64 t.b.y])).run Tryz.prog w=.ok false w:=fun w=>by rw [equalG,decide_eq_false hne]
   clear ht hto hne
   go_wp2_with (with_reducible first|refine ixE underlying23 sizeOf95 hvo hc fun bq oq hcellq=>?_|refine ldG hS isAgg95 sizeOf95 ?_|refine alA hS zeroValue95 fun b6 wb6 hS=>?_|refine stA (u:=.agg #[_,_,_,_]) 1 hS sizeOf95 fun _ hS=>?_)
   refine rg0 [.p 0,.r 1,.p 3,.r 4,.e 2,.e 5,.e 6,.e 7,.p 8] [] hS fun w1 hS=>?_
   have hC:=hS
   repeat (with_reducible first|refine sldK 1 isAgg29 sizeOf29 ?_|refine spL ?_)
   refine exL ?_
   go_wp2_with (fail)
   refine (v1 _).mono ?_;rintro e w' ⟨rfl,hq⟩;simp only [];go_step;have hS:=hS.below hq.below hq.drawn;have hC:=hC.below hq.below hq.drawn;refine ext_end hC ?_;refine mvs ?_;refine exL ?_
   go_wp2_with (fail)
   refine (v2 _).mono ?_;rintro e w' ⟨rfl,hq⟩;simp only [];go_step;have hS:=hS.below hq.below hq.drawn;have hC:=hC.below hq.below hq.drawn;refine ext_end hC ?_;refine mvs ?_;refine exL ?_
   ((with_reducible refine g_bs (T:=250) ?_);refine seq_buildSlice (k:=1) (z:=.int .i64 0) (len:=2) hS underlying250 sizeOf43 zeroValue43 (by decide) (by decide) (fill2n _ _) (fun b31 wb31 hS=>?_);simp only [NRM];simp only [NRH] at hS)
   refine ext_end hS.sb ?_;refine mvs ?_;refine exL ?_
   go_wp2_with (fail)
   refine (orE_any b31 _ _ (SlC.ofBlk (k:=1) (n:=2) hS (List.mem_of_getElem? (i:=2) rfl) rfl (by decide))).mono ?_;rintro e w' ⟨rfl,rfl⟩;simp only [];go_step;refine ext_end hS.sb ?_;refine mvs ?_;refine snL ?_;clear hC
   go_wp2_with (with_reducible refine ldK 1 hS isAgg29 sizeOf29 ?_)
   go_roundw
   case rel=>exact⟨k+1,by omega,rfl,hS.sb⟩
   case measure=>simp [intOf];omega
  ·obtain rfl:k=os.length:=by omega
   go_wp2
   go_loopw [44] (fun v wr=>∃ k:Nat,k≤gs.length∧v=.int .i64 (k:Int)∧Heap w wr [.frz (Old w) w]) (fun v _=>gs.length - (intOf v).toNat)
   case atStart=>exact⟨0,by omega,rfl,hS⟩
   case round =>
    clear hS;obtain⟨k,hk,rfl,hS⟩:=hrel
    by_cases hkl:k<gs.length
    ·obtain⟨p,hp⟩:∃ p,nth g0 gs k=p:=⟨_,rfl⟩
     have hc:=flat_cell gc_len g0 hkl;rw [hp] at hc;have ho:=hgs p (by rw [← hp];exact nth_mem g0 gs k hkl);have hvk:=fun w=>pvalid_any p.x p.y w ho.1 ho.2
     clear hp ho
     go_wp2_with (first|(with_reducible first|refine ixE underlying25 sizeOf29 hgo hc fun bq oq hcellq=>?_|refine ldG hS isAgg29 sizeOf29 ?_|refine alA hS zeroValue29 fun bp wbp hS=>?_|refine stA (u:=.agg #[_,_]) 1 hS sizeOf29 fun _ hS=>?_|refine ldA 1 hS isAgg29 sizeOf29 ?_)|(go_at_call 39;refine (hvk _).mono ?_;rintro e w' ⟨rfl,hq⟩;have hS:=hS.below hq.below hq.drawn))
     go_roundw
     case rel=>exact⟨k+1,by omega,rfl,hS.sb⟩
     case measure=>simp [intOf];omega
    ·obtain rfl:k=gs.length:=by omega
     go_wp2;go_ret;exact⟨rfl,hS.pure _⟩
end Go.Proofs
namespace Go.Hp
open Go.Proofs.Tryz
open Go Go.RowKit
section
variable {P:Program} {ops:Array Oper} {Q:Exit→Act→World→Prop} {rest:List Oper} {a:Act} {w w0:World} {H:List Chunk}
variable {dst:Option Tmp} {ty T E:TypeId} {pos:String} {aft:Array Edge} {gd:Option (Nat × Bool)}
theorem seq_bs0 {k:Nat} (hS:Heap w0 w H) (hu:P.underlying T=some (.slice E)) (hsz:∀ w,(sizeOf E).run P w=.ok k w) (hg:Region.wanted ⟨dst,.buildSlice T 0 #[],ty,pos,aft,gd⟩ (yielded ops a.tmps)=true)
 (hk:∀ b w',Heap w0 w' (H++[.row (.slice (some ⟨b,0,none⟩) 0 0) E k 0 []])→wpList P ops Q rest (a.put dst (.slice (some ⟨b,0,none⟩) 0 0)) w'):wpList P ops Q (⟨dst,.buildSlice T 0 #[],ty,pos,aft,gd⟩::rest) a w:=by
 have hA:=(hS.alloc (.cells #[] E (0,0)));have hR:=hA.toRow (k:=k) (m:=0) (g:=w.heap.size) (arr:=#[]) (Tb:=E) H.length (by simp) (by simp) (by decide)
 have hR2:Heap w0 (w.alloc (.cells #[] E (0,0))) (H++[.row (.slice (some ⟨w.heap.size,0,none⟩) 0 0) E k 0 []]):=by
  simpa using hR
 refine seq_heap (w':=w.alloc (.cells #[] E (0,0))) (v:=.slice (some ⟨w.heap.size,0,none⟩) 0 0) hg ?_ (hk _ _ hR2);generalize a.eval=ρ;have h0:∀ f:Nat→Value,(Array.range 0).map f=#[]:=fun f=>by simp
 have h1:¬ ((0:Nat) > 2 ^ 24):=by decide
 simp only [execOp,Instr.buildSlice,Sem.run_bind,run_underlying hu,hsz,Result.andThen_ok,Nat.zero_mul,h0,if_neg h1,if_true,Sem.run_pure];have h2:Instr.fill (fun i=>some (i*k,k)) #[] (Array.map (fun x:Nat × Operand=>(x.1,ρ x.2)) #[]).toList=some #[]:=by simp [Instr.fill]
 rw [h2]
 rfl
end
end Go.Hp
namespace Go.Proofs
open Go.Proofs.Tryz
open Go.RowKit Go.Hp
theorem infoG:(Tryz.prog.info? 29).map (fun i=>(i.zero,i.size,i.bytes))=some (some (.agg #[.int .i64 g0.x,.int .i64 g0.y]),2,16):=by kernel_rfl
theorem gc_one (l:List Gp):∀ v ∈ l.flatMap gc,v.oneCell'=true:=by
 intro v hv;obtain⟨p,_,h⟩:=List.mem_flatMap.1 hv;simp only [gc,List.mem_cons,List.not_mem_nil,or_false] at h
 rcases h with rfl|rfl <;> rfl
theorem SlC_none {w:World} {S:Nat→Prop} {k n c m:Nat} {cs:List Value} (h:SlC w S k (.slice none n c) m cs):n=0∧c=0∧m=0∧cs=[]:=by
 obtain⟨h1,a,cap,h2,h3,h4,h5,h6⟩:=h;simp only [Value.slice.injEq] at h2;obtain⟨rfl,rfl,rfl⟩:=h2;have:=h5 rfl;obtain⟨e1,e2⟩:=this;subst e1;subst e2;exact⟨rfl,rfl,rfl,List.eq_nil_of_length_eq_zero (by omega)⟩
theorem cloneS_any (ad:Option Addr) (n c:Nat) (l:List Sz) (w:World) (S:Nat→Prop) (hv:SlC w S 4 (.slice ad n c) l.length (l.flatMap sc)) (hL:Liv w S) (hle:l.length≤1000000) :
 Calls Tryz.prog 66 #[.slice ad n c] w fun e w'=>∃ ad' c' S',e=.returned (.slice ad' n c')∧Pure w S w' S'∧SlC w' S' 4 (.slice ad' n c') l.length (l.flatMap sc):=by
 obtain rfl:n=l.length:=by obtain⟨h1,a,cap,h2,_⟩:=hv;cases h2;rfl
 have qT:∀ (w:World) (a:Option Addr) (n c n' c':Nat),(binOp .eql 23 (.slice a n c) (.slice none n' c')).run Tryz.prog w=.ok (.bool a.isNone) w:=fun w a n c n' c'=>Lib.run_eql_slice_nil w _ _ a n c n' c' underlying23
 have hS:=Heap.start w;have hF0:=hL;cases ad with
 | none =>
  obtain⟨h1,rfl,h3,h4⟩:=SlC_none hv;have hl:l=[]:=List.eq_nil_of_length_eq_zero h1;subst hl
  go_enter func66,ntmps66
  go_wp2;go_ret;exact⟨none,0,S,rfl,hS.pure S,SlC.nil _ _ _⟩
 | some ad =>
  have hvF:SlC w (Old w) 4 _ _ _:=hv.weaken hF0
  go_enter func66,ntmps66
  go_wp2_with (first|((with_reducible refine g_bs (T:=23) ?_);refine seq_bs0 (T:=23) hS underlying23 sizeOf95 rfl (fun b7 _ hS=>?_);simp only [NRM];simp only [NRH] at hS)|((with_reducible refine g_app ?_);refine seq_append (t:=23) 1 hS underlying23 infoS rfl (by decide) rfl rfl rfl hvF (by simp) (sc_one l) (by omega) (by unfold maxLen;omega) (fun ad1 c1 _ hS=>?_);simp only [NRM];simp only [NRH] at hS;simp only [Nat.zero_add,List.nil_append] at hS ⊢))
  go_ret;exact⟨ad1,c1,_,rfl,hS.handOut (fun _ h=>h) hF0 (Pure.refl w S) (List.mem_of_getElem? (i:=0) rfl),(hS.rowSl 1 rfl).weaken fun k h=>.inr h⟩
theorem cloneG_any (ad:Option Addr) (n c:Nat) (l:List Gp) (w:World) (S:Nat→Prop) (hv:SlC w S 2 (.slice ad n c) l.length (l.flatMap gc)) (hL:Liv w S) (hle:l.length≤1000000) :
 Calls Tryz.prog 67 #[.slice ad n c] w fun e w'=>∃ ad' c' S',e=.returned (.slice ad' n c')∧Pure w S w' S'∧SlC w' S' 2 (.slice ad' n c') l.length (l.flatMap gc):=by
 obtain rfl:n=l.length:=by obtain⟨h1,a,cap,h2,_⟩:=hv;cases h2;rfl
 have qT:∀ (w:World) (a:Option Addr) (n c n' c':Nat),(binOp .eql 25 (.slice a n c) (.slice none n' c')).run Tryz.prog w=.ok (.bool a.isNone) w:=fun w a n c n' c'=>Lib.run_eql_slice_nil w _ _ a n c n' c' underlying25
 have hS:=Heap.start w;have hF0:=hL;cases ad with
 | none =>
  obtain⟨h1,rfl,h3,h4⟩:=SlC_none hv;have hl:l=[]:=List.eq_nil_of_length_eq_zero h1;subst hl
  go_enter func67,ntmps67
  go_wp2;go_ret;exact⟨none,0,S,rfl,hS.pure S,SlC.nil _ _ _⟩
 | some ad =>
  have hvF:SlC w (Old w) 2 _ _ _:=hv.weaken hF0
  go_enter func67,ntmps67
  go_wp2_with (first|((with_reducible refine g_bs (T:=25) ?_);refine seq_bs0 (T:=25) hS underlying25 sizeOf29 rfl (fun b7 _ hS=>?_);simp only [NRM];simp only [NRH] at hS)|((with_reducible refine g_app ?_);refine seq_append (t:=25) 1 hS underlying25 infoG rfl (by decide) rfl rfl rfl hvF (by simp) (gc_one l) (by omega) (by unfold maxLen;omega) (fun ad1 c1 _ hS=>?_);simp only [NRM];simp only [NRH] at hS;simp only [Nat.zero_add,List.nil_append] at hS ⊢))
  go_ret;exact⟨ad1,c1,_,rfl,hS.handOut (fun _ h=>h) hF0 (Pure.refl w S) (List.mem_of_getElem? (i:=0) rfl),(hS.rowSl 1 rfl).weaken fun k h=>.inr h⟩
end Go.Proofs
namespace Go.Hp
open Go.Proofs.Tryz
open Go Go.RowKit
theorem bv_one (xs:List Int):∀ v ∈ bv xs,v.oneCell'=true:=by
 intro v hv;obtain⟨x,_,rfl⟩:=List.mem_map.1 hv
 rfl
theorem bv_cell {xs:List Int} {i:Nat} (hi:i<xs.length):((bv xs).drop (i*1)).take 1=[.int .u8 (nth 0 xs i)]:=by
 rw [Nat.mul_one,nth_eq _ _ _ hi,List.drop_eq_getElem_cons (by simpa [bv] using hi)];simp [bv]
end Go.Hp
namespace Go.Proofs
open Go.Proofs.Tryz
open Go.RowKit Go.Hp
theorem cloneB_any (ad:Option Addr) (c:Nat) (xs:List Int) (w:World) (hv:SlC w (Old w) 1 (.slice ad xs.length c) xs.length (bv xs)) (hle:xs.length≤1000000000000) :
 Calls Tryz.prog 135 #[.slice ad xs.length c] w fun e w'=>∃ ad' c',e=.returned (.slice ad' xs.length c')∧Heap w w' [.frz (Old w) w,.row (.slice ad' xs.length c') 5 1 xs.length (bv xs)]:=by
 have qT:∀ (w:World) (a:Option Addr) (n c n' c':Nat),(binOp .eql 97 (.slice a n c) (.slice none n' c')).run Tryz.prog w=.ok (.bool a.isNone) w:=fun w a n c n' c'=>Lib.run_eql_slice_nil w _ _ a n c n' c' underlying97
 have hS:=Heap.start w;cases ad with
 | none =>
  obtain⟨h1,rfl,h3,h4⟩:=SlC_none hv;have hl:xs=[]:=List.eq_nil_of_length_eq_zero h1;subst hl;have hS:=hS.addNil 5 1
  go_enter func135,ntmps135
  go_wp2;go_ret;exact⟨none,0,rfl,hS⟩
 | some ad =>
  go_enter func135,ntmps135
  go_wp2_with (first|((with_reducible refine g_bs (T:=97) ?_);refine seq_bs0 (T:=97) hS underlying97 sizeOf5 rfl (fun b7 _ hS=>?_);simp only [NRM];simp only [NRH] at hS)|((with_reducible refine g_app ?_);refine seq_append (t:=97) 1 hS underlying97 infoB rfl (by decide) rfl rfl rfl hv (by simp) (bv_one xs) (by omega) (by unfold maxLen;omega) (fun ad1 c1 _ hS=>?_);simp only [NRM];simp only [NRH] at hS;simp only [Nat.zero_add,List.nil_append] at hS ⊢))
  go_ret;exact⟨ad1,c1,rfl,hS⟩
theorem wdone_any {w0 w:World} {H:List Chunk} (bw c:Nat) (ad:Option Addr) (xs:List Int) (hx:xs.length≤1000000000000) (hS:Heap w0 w (.blk bw (.cells #[.slice ad xs.length c] 167 (0,0))::.row (.slice ad xs.length c) 5 1 xs.length (bv xs)::H)) :
 Calls Tryz.prog 89 #[.pointer (some ⟨bw,0,none⟩)] w fun e w'=>∃ (ad':Option Addr) (c':Nat),e=.returned (.slice ad' xs.length c')∧Heap w0 w' (.blk bw (.cells #[.slice ad xs.length c] 167 (0,0))::.row (.slice ad xs.length c) 5 1 xs.length (bv xs)::(H++[.row (.slice ad' xs.length c') 5 1 xs.length (bv xs)])):=by
 have hv:=(hS.rowSl 1 rfl).old
 go_enter func89,ntmps89
 go_wp2_with (with_reducible refine ldB 0 hS isAgg97 ?_)
 refine (cloneB_any ad c xs _ hv hx).mono ?_;rintro e w' ⟨ad1,c1,rfl,h1⟩;have hS:=hS.import h1;simp only [];go_wp2;go_ret;exact⟨ad1,c1,rfl,hS⟩
theorem equalB_any (a b:Option Addr) (c d:Nat) (xs:List Int) (w:World) (ha:SlC w (Old w) 1 (.slice a xs.length c) xs.length (bv xs)) (hb:SlC w (Old w) 1 (.slice b xs.length d) xs.length (bv xs)) (hle:xs.length≤1000000000000) :
 Calls Tryz.prog 37 #[.slice a xs.length c,.slice b xs.length d] w fun e w'=>e=.returned (.bool true)∧Heap w w' [.frz (Old w) w]:=by
 have hS:=Heap.start w
 go_enter func37,ntmps37
 go_wp2
 go_loopw [13] (fun v13 wr=>∃ i:Nat,i≤xs.length∧v13=.int .i64 (i:Int)∧Heap w wr [.frz (Old w) w]) (fun v13 _=>xs.length - (intOf v13).toNat)
 case atStart=>exact⟨0,by omega,rfl,hS⟩
 case round =>
  clear hS;obtain⟨i,hi,rfl,hS⟩:=hrel
  by_cases hil:i<xs.length
  ·have hc:=bv_cell hil
   obtain⟨x,hx⟩:∃ x,nth 0 xs i=x:=⟨_,rfl⟩;rw [hx] at hc;have d1:(x != x)=false:=by simp
   clear hx;go_wp2;refine rg0 [.p 0,.p 1,.p 2,.r 3,.p 4,.p 5,.p 6,.r 7,.p 8] [] hS fun w1 hS=>?_
   repeat (with_reducible first|refine skL ?_|refine sixE underlying97 sizeOf5 ha hc fun bq oq hcellq=>?_|refine sixE underlying97 sizeOf5 hb hc fun bq oq hcellq=>?_|refine sld0 isAgg5 ?_|refine spL ?_)
   refine snL ?_;go_wp2;go_roundw
   case rel=>exact⟨i+1,by omega,by simp,hS⟩
   case measure=>simp [intOf];omega
  ·obtain rfl:xs.length=i:=by omega
   go_wp2;go_ret;exact⟨rfl,hS⟩
end Go.Proofs
namespace Go.Hp
open Go Go.RowKit
def tw (h:Nat):Nat:=if h % 2=0 then h+1 else h - 1
theorem tw_tw (h:Nat):tw (tw h)=h:=by unfold tw;split <;> split <;> omega
theorem tw_lt {h m:Nat} (hh:h<2*m):tw h<2*m:=by unfold tw;split <;> omega
theorem tw_div (h:Nat):tw h / 2=h / 2:=by unfold tw;split <;> omega
theorem tw_mod (h:Nat):tw h % 2=1 - h % 2:=by unfold tw;split <;> omega
theorem tw_inj {h k:Nat} (e:tw h=tw k):h=k:=by rw [← tw_tw h,e,tw_tw]
def it (N:List Nat):Nat→Nat→Nat
 | 0,h=>h
 | j+1,h=>nth 0 N (it N j h)
structure IsPerm (N:List Nat):Prop where
 lt:∀ h,h<N.length→nth 0 N h<N.length
 inj:∀ h k,h<N.length→k<N.length→nth 0 N h=nth 0 N k→h=k
theorem it_lt {N:List Nat} (hp:IsPerm N) {h:Nat} (hh:h<N.length):∀ j,it N j h<N.length
 | 0=>hh
 | j+1=>hp.lt _ (it_lt hp hh j)
theorem it_add (N:List Nat) (i h:Nat):∀ j,it N (i+j) h=it N j (it N i h)
 | 0=>rfl
 | j+1=>by show nth 0 N (it N (i+j) h)=nth 0 N (it N j (it N i h));rw [it_add N i h j]
theorem it_inj {N:List Nat} (hp:IsPerm N) {h k:Nat} (hh:h<N.length) (hk:k<N.length):∀ j,it N j h=it N j k→h=k
 | 0,e=>e
 | j+1,e=>it_inj hp hh hk j (hp.inj _ _ (it_lt hp hh j) (it_lt hp hk j) e)
theorem pigeon:∀ (n:Nat) (f:Nat→Nat),(∀ i,i≤n→f i<n)→∃ i j,i<j∧j≤n∧f i=f j
 | 0,f,h=>absurd (h 0 (Nat.le_refl _)) (by omega)
 | n+1,f,h=>by
  by_cases hx:∃ i,i≤n∧f i=f (n+1)
  ·obtain⟨i,hi,e⟩:=hx
   exact⟨i,n+1,by omega,Nat.le_refl _,e⟩
  ·obtain⟨i,j,hij,hj,e⟩:=pigeon n (fun i=>if f i=n then f (n+1) else f i) (fun i hi=>by
    have h1:=h i (by omega);have h2:=h (n+1) (Nat.le_refl _);have h3:f i≠f (n+1):=fun e=>hx ⟨i,hi,e⟩
    show (if f i=n then f (n+1) else f i)<n
    split <;> omega)
   refine⟨i,j,hij,by omega,?_⟩;have hi':f i≠f (n+1):=fun e=>hx ⟨i,by omega,e⟩
   have hj':f j≠f (n+1):=fun e=>hx ⟨j,hj,e⟩
   try dsimp only at e
   split at e <;> split at e <;> omega
theorem period_ex {N:List Nat} (hp:IsPerm N) {h:Nat} (hh:h<N.length):∃ p,p<N.length∧it N (p+1) h=h:=by
 obtain⟨i,j,hij,hj,e⟩:=pigeon N.length (fun j=>it N j h) (fun i _=>it_lt hp hh i);refine⟨j - i - 1,by omega,?_⟩;have e1:j=(j - i - 1+1)+i:=by omega
 try dsimp only at e
 rw [e1,it_add] at e;have e2:it N i h=it N i (it N (j - i - 1+1) h):=e;exact (it_inj hp hh (it_lt hp hh _) i e2).symm
def per (N:List Nat) (h:Nat):Nat:=((List.range N.length).find? (fun j=>it N (j+1) h == h)).getD 0+1
theorem per_spec {N:List Nat} (hp:IsPerm N) {h:Nat} (hh:h<N.length):0<per N h∧per N h≤N.length∧it N (per N h) h=h∧∀ j,0<j→j<per N h→it N j h≠h:=by
 obtain⟨p,hpl,hpe⟩:=period_ex hp hh;unfold per;cases hf:(List.range N.length).find? (fun j=>it N (j+1) h == h) with
 | none =>
  have:=List.find?_eq_none.1 hf p (by simpa using hpl);simp [hpe] at this
 | some q =>
  have h1:=List.find?_some hf;have h2:=List.mem_of_find?_eq_some hf;simp only [beq_iff_eq] at h1;rw [List.mem_range] at h2;refine⟨by simp,by simp;omega,by simpa using h1,fun j hj0 hj=>?_⟩;simp only [Option.getD_some] at hj;have h3:=List.find?_range_eq_some.1 hf;have h4:=h3.2.2 (j - 1) (by omega);have e:j - 1+1=j:=by omega
  rw [e] at h4
  simpa using h4
theorem it_mod {N:List Nat} {h p:Nat} (hp0:0<p) (hpe:it N p h=h):∀ j,it N j h=it N (j % p) h:=by
 intro j
 induction j using Nat.strongRecOn with
 | _ j ih =>
  by_cases hj:j<p
  ·rw [Nat.mod_eq_of_lt hj]
  ·have e1:j=p+(j - p):=by omega
   have e2:j % p=(j - p) % p:=by
    conv=>lhs;rw [e1]
    rw [Nat.add_mod_left]
   rw [e2,← ih (j - p) (by omega)]
   conv=>lhs;rw [e1,it_add,hpe]
def orb (N:List Nat) (h:Nat):List Nat:=(List.range (per N h)).map (fun j=>it N j h)
theorem mem_orb {N:List Nat} (hp:IsPerm N) {h:Nat} (hh:h<N.length) (k:Nat):k ∈ orb N h↔∃ j,it N j h=k:=by
 obtain⟨h1,h2,h3,h4⟩:=per_spec hp hh;unfold orb;rw [List.mem_map]
 constructor
 ·rintro⟨j,_,e⟩;exact⟨j,e⟩
 ·rintro⟨j,e⟩
  exact⟨j % per N h,by rw [List.mem_range];exact Nat.mod_lt _ h1,by rw [← it_mod h1 h3];exact e⟩
theorem orb_self {N:List Nat} (hp:IsPerm N) {h:Nat} (hh:h<N.length):h ∈ orb N h:=(mem_orb hp hh h).2 ⟨0,rfl⟩
theorem orb_lt {N:List Nat} (hp:IsPerm N) {h:Nat} (hh:h<N.length) {k:Nat} (hk:k ∈ orb N h):k<N.length:=by
 obtain⟨j,rfl⟩:=(mem_orb hp hh k).1 hk;exact it_lt hp hh j
theorem orb_trans {N:List Nat} (hp:IsPerm N) {h k l:Nat} (hh:h<N.length) (h1:k ∈ orb N h) (h2:l ∈ orb N k):l ∈ orb N h:=by
 have hk:=orb_lt hp hh h1;obtain⟨i,rfl⟩:=(mem_orb hp hh _).1 h1;obtain⟨j,rfl⟩:=(mem_orb hp hk _).1 h2;exact (mem_orb hp hh _).2 ⟨i+j,it_add N i h j⟩
theorem orb_symm {N:List Nat} (hp:IsPerm N) {h k:Nat} (hh:h<N.length) (h1:k ∈ orb N h):h ∈ orb N k:=by
 have hk:=orb_lt hp hh h1;obtain⟨p0,p1,p2,p3⟩:=per_spec hp hh;unfold orb at h1;obtain⟨j,hj,e⟩:=List.mem_map.1 h1;rw [List.mem_range] at hj;refine (mem_orb hp hk _).2 ⟨per N h - j,?_⟩;rw [← e,← it_add];have:j+(per N h - j)=per N h:=by omega
 rw [this,p2]
theorem orb_next {N:List Nat} (hp:IsPerm N) {h k:Nat} (hh:h<N.length) (h1:k ∈ orb N h):nth 0 N k ∈ orb N h:=by
 obtain⟨j,rfl⟩:=(mem_orb hp hh _).1 h1;exact (mem_orb hp hh _).2 ⟨j+1,rfl⟩
theorem orb_iff {N:List Nat} (hp:IsPerm N) {h k:Nat} (hh:h<N.length) (h1:k ∈ orb N h) (l:Nat):l ∈ orb N k↔l ∈ orb N h :=
 ⟨orb_trans hp hh h1,fun h2=>orb_trans hp (orb_lt hp hh h1) (orb_symm hp hh h1) h2⟩
theorem foldl_min_le (l:List Nat):∀ d,l.foldl min d≤d∧∀ x ∈ l,l.foldl min d≤x:=by
 induction l with
 | nil=>intro d;simp
 | cons y t ih =>
  intro d;obtain⟨h1,h2⟩:=ih (min d y);simp only [List.foldl_cons];refine⟨by omega,fun x hx=>?_⟩
  rcases List.mem_cons.1 hx with rfl|hx
  ·omega
  ·exact h2 x hx
theorem foldl_min_mem (l:List Nat):∀ d,l.foldl min d=d∨l.foldl min d ∈ l:=by
 induction l with
 | nil=>intro d;simp
 | cons y t ih =>
  intro d;simp only [List.foldl_cons]
  rcases ih (min d y) with h|h
  ·rw [h]
   rcases Nat.le_total d y with h2|h2
   ·rw [Nat.min_eq_left h2];exact .inl rfl
   ·rw [Nat.min_eq_right h2];exact .inr (by simp)
  ·exact .inr (List.mem_cons_of_mem _ h)
def leastF (N:List Nat) (h:Nat):Nat:=(orb N h).foldl min h
theorem leastF_spec {N:List Nat} (hp:IsPerm N) {h:Nat} (hh:h<N.length):leastF N h ∈ orb N h∧∀ k ∈ orb N h,leastF N h≤k:=by
 unfold leastF;refine⟨?_,(foldl_min_le (orb N h) h).2⟩
 rcases foldl_min_mem (orb N h) h with e|e
 ·rw [e];exact orb_self hp hh
 ·exact e
theorem leastF_le {N:List Nat} (hp:IsPerm N) {h:Nat} (hh:h<N.length):leastF N h≤h:=(leastF_spec hp hh).2 h (orb_self hp hh)
theorem leastF_lt {N:List Nat} (hp:IsPerm N) {h:Nat} (hh:h<N.length):leastF N h<N.length:=Nat.lt_of_le_of_lt (leastF_le hp hh) hh
theorem leastF_of {N:List Nat} (hp:IsPerm N) {h k:Nat} (hh:h<N.length) (h1:k ∈ orb N h):leastF N k=leastF N h:=by
 have hk:=orb_lt hp hh h1;obtain⟨a1,a2⟩:=leastF_spec hp hh;obtain⟨b1,b2⟩:=leastF_spec hp hk;have c1:=a2 _ ((orb_iff hp hh h1 _).1 b1);have c2:=b2 _ ((orb_iff hp hh h1 _).2 a1);omega
theorem orb_least {N:List Nat} (hp:IsPerm N) {h:Nat} (hh:h<N.length) (k:Nat):k ∈ orb N (leastF N h)↔k ∈ orb N h:=orb_iff hp hh (leastF_spec hp hh).1 k
theorem least_least {N:List Nat} (hp:IsPerm N) {h:Nat} (hh:h<N.length):leastF N (leastF N h)=leastF N h:=leastF_of hp hh (leastF_spec hp hh).1
theorem orb_of_least {N:List Nat} (hp:IsPerm N) {h k:Nat} (hh:h<N.length) (hk:k<N.length) (e:leastF N h=leastF N k):k ∈ orb N h:=by
 rw [← orb_least hp hh,e,orb_least hp hk];exact orb_self hp hk
theorem leastF_next {N:List Nat} (hp:IsPerm N) {h:Nat} (hh:h<N.length):leastF N (nth 0 N h)=leastF N h:=leastF_of hp hh (orb_next hp hh (orb_self hp hh))
def setAll (L:List Int) (ks:List Nat) (f:Int):List Int:=ks.foldl (fun L k=>L.set k f) L
theorem setAll_length (f:Int):∀ (ks:List Nat) (L:List Int),(setAll L ks f).length=L.length
 | [],L=>rfl
 | k::t,L=>by show (setAll (L.set k f) t f).length=_;rw [setAll_length f t,List.length_set]
theorem nth_setG {α:Type} (d:α) (L:List α) (i k:Nat) (f:α) (hi:i<L.length):nth d (L.set i f) k=if k=i then f else nth d L k:=by
 simp only [nth,List.getD_eq_getElem?_getD,List.getElem?_set]
 by_cases h:k=i
 ·subst h;simp [hi]
 ·rw [if_neg (fun e=>h e.symm),if_neg h]
theorem nth_setAll (f:Int):∀ (ks:List Nat) (L:List Int),(∀ k ∈ ks,k<L.length)→∀ k,nth 0 (setAll L ks f) k=if k ∈ ks then f else nth 0 L k
 | [],L,_,k=>by simp [setAll]
 | a::t,L,h,k=>by
  show nth 0 (setAll (L.set a f) t f) k=_;rw [nth_setAll f t _ (fun k hk=>by rw [List.length_set];exact h k (List.mem_cons_of_mem _ hk)),nth_setG _ _ _ _ _ (h a (by simp))]
  by_cases h1:k ∈ t
  ·rw [if_pos h1,if_pos (List.mem_cons_of_mem _ h1)]
  ·rw [if_neg h1]
   by_cases h2:k=a
   ·rw [if_pos h2,if_pos (by rw [h2];simp)]
   ·rw [if_neg h2,if_neg (by simp [h1,h2])]
end Go.Hp
