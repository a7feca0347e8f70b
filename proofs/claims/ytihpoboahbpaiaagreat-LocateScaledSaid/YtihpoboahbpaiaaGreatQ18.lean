/- Texts for the walk of the law: D4 D5 D6. -/
import Derived.Test.YtihpoboahbpaiaaGreatQ17
set_option maxRecDepth 100000
set_option maxHeartbeats 16000000
set_option linter.unusedVariables false
set_option linter.unusedSimpArgs false
namespace Go.Hp
open Go.Proofs.Tryz
open Go
structure Gp where
 x:Int
 y:Int
 deriving DecidableEq
def Gp.pt (g:Gp):Pt:=⟨(g.x:Rat),(g.y:Rat)⟩
def gc (p:Gp):List Value:=[.int .i64 p.x,.int .i64 p.y]
def g0:Gp:=⟨0,0⟩
theorem flat_len {α:Type} {f:α→List Value} {k:Nat} (hk:∀ x,(f x).length=k) (l:List α):(l.flatMap f).length=l.length*k:=by
 induction l with
 | nil=>simp
 | cons x l ih=>simp only [List.flatMap_cons,List.length_append,hk,ih,List.length_cons,Nat.add_mul,Nat.one_mul];omega
theorem flat_cell {α:Type} {f:α→List Value} {k:Nat} (hk:∀ x,(f x).length=k) (d:α):∀ {l:List α} {i:Nat},i<l.length→((l.flatMap f).drop (i*k)).take k=f (nth d l i)
 | [],i,h=>by simp at h
 | x::l,0,_=>by
  rw [Nat.zero_mul,List.drop_zero,List.flatMap_cons,List.take_append_of_le_length (by rw [hk];exact Nat.le_refl _),List.take_of_length_le (by rw [hk];exact Nat.le_refl _)];rfl
 | x::l,i+1,h=>by
  have:=flat_cell hk d (l:=l) (i:=i) (by simpa using h);have e:(f x++l.flatMap f).drop k=l.flatMap f:=by rw [← hk x];exact List.drop_left
  rw [Nat.add_mul,Nat.one_mul,List.flatMap_cons,Nat.add_comm,← List.drop_drop,e];exact this
theorem gc_len (p:Gp):(gc p).length=2:=rfl
def okC (x:Int):Prop:=-1073741824≤x∧x≤1073741824
def Gp.ok (p:Gp):Prop:=okC p.x∧okC p.y
theorem fill3p (a b c d e f:Value):Instr.fill (fun i=>some (i*2,2)) ((Array.range (3*2)).map ((Value.agg #[.int .i64 0,.int .i64 0]).cells[· % (Value.agg #[.int .i64 0,.int .i64 0]).cells.size]!)) [(0,.agg #[a,b]),(1,.agg #[c,d]),(2,.agg #[e,f])]=some #[a,b,c,d,e,f]:=by
 have h:((Array.range (3*2)).map ((Value.agg #[.int .i64 0,.int .i64 0]).cells[· % (Value.agg #[.int .i64 0,.int .i64 0]).cells.size]!))=#[.int .i64 0,.int .i64 0,.int .i64 0,.int .i64 0,.int .i64 0,.int .i64 0]:=by
  apply Array.ext';simp [Array.range,List.ofFn_succ,Value.cells]
 rw [h];simp [Instr.fill,Value.cells]
theorem fill2p (a b c d:Value):Instr.fill (fun i=>some (i*2,2)) ((Array.range (2*2)).map ((Value.agg #[.int .i64 0,.int .i64 0]).cells[· % (Value.agg #[.int .i64 0,.int .i64 0]).cells.size]!)) [(0,.agg #[a,b]),(1,.agg #[c,d])]=some #[a,b,c,d]:=by
 have h:((Array.range (2*2)).map ((Value.agg #[.int .i64 0,.int .i64 0]).cells[· % (Value.agg #[.int .i64 0,.int .i64 0]).cells.size]!))=#[.int .i64 0,.int .i64 0,.int .i64 0,.int .i64 0]:=by
  apply Array.ext';simp [Array.range,List.ofFn_succ,Value.cells]
 rw [h];simp [Instr.fill,Value.cells]
theorem mul_fit {a b:Int} (ha:a.natAbs<2 ^ 40) (hb:b.natAbs<2 ^ 40):(a*b).natAbs<Lim:=by
 rw [Int.natAbs_mul];exact Lim_two (k:=80) (by decide) (mul_lt_two ha hb)
def areaZ (a b c:Gp):Int:=(b.x - a.x)*(c.y - a.y) - (b.y - a.y)*(c.x - a.x)
theorem areaZ_pt (a b c:Gp):area a.pt b.pt c.pt=(areaZ a b c:Rat):=by
 unfold area areaZ Gp.pt;simp only
 push_cast
 rfl
def sgnZ (z:Int):Int:=if z<0 then -1 else if 0<z then 1 else 0
end Go.Hp
namespace Go.Proofs
open Go.Proofs.Tryz
open Go.RowKit Go.Hp
theorem sgnZ_sub (a b:Int):cmpZ a b=sgnZ (a - b):=by unfold cmpZ sgnZ;split <;> split <;> (try split) <;> (try split) <;> omega
theorem sideZ_any (a b c:Gp) (w:World) (S:Nat→Prop) (hL:Liv w S) (h1:-8589934592≤b.x - a.x∧b.x - a.x≤8589934592) (h2:-8589934592≤b.y - a.y∧b.y - a.y≤8589934592) (h3:-8589934592≤c.x - a.x∧c.x - a.x≤8589934592) (h4:-8589934592≤c.y - a.y∧c.y - a.y≤8589934592) :
 Calls Tryz.prog 147 #[.agg #[.int .i64 a.x,.int .i64 a.y],.agg #[.int .i64 b.x,.int .i64 b.y],.agg #[.int .i64 c.x,.int .i64 c.y]] w fun e w'=>e=.returned (.int .i64 (sgnZ (areaZ a b c)))∧Pure w S w' S:=by
 have w1:IntKind.i64.wrap (b.x - a.x)=b.x - a.x:=w6;have w2:IntKind.i64.wrap (b.y - a.y)=b.y - a.y:=w6;have w3:IntKind.i64.wrap (c.x - a.x)=c.x - a.x:=w6;have w4:IntKind.i64.wrap (c.y - a.y)=c.y - a.y:=w6;have hres:cmpZ ((b.x - a.x)*(c.y - a.y)) ((b.y - a.y)*(c.x - a.x))=sgnZ (areaZ a b c):=by rw [sgnZ_sub];rfl
 have f1:=mul_fit (a:=b.x - a.x) (b:=c.y - a.y) (by omega) (by omega);have f2:=mul_fit (a:=b.y - a.y) (b:=c.x - a.x) (by omega) (by omega);have i1:InI (b.x - a.x):=by unfold InI;omega
 have i2:InI (b.y - a.y):=by unfold InI;omega
 have i3:InI (c.x - a.x):=by unfold InI;omega
 have i4:InI (c.y - a.y):=by unfold InI;omega
 clear h1 h2 h3 h4;replace f1:=Hd f1;replace f2:=Hd f2;replace hres:=Hd hres;obtain⟨hS,hF0,hO0,hp0⟩:=st0 hL
 go_enter func147,ntmps147
 go_wp2_with (with_reducible refine bxA (T:=29) (v:=.agg _) hS fun bx wbx hS=>?_)
 refine wp_region_box 1 [.p 0,.r 1,.p 2,.r 3,.p 4,.p 6,.r 7,.p 8,.r 9,.p 10,.e 5,.e 11] [.e 14,.e 15] [] [bxz 12 7 52 (.agg #[.bool false,.slice none 0 0]),bxz 13 8 52 (.agg #[.bool false,.slice none 0 0])] w _ (by kernel_rfl) (by kernel_rfl) (boxesOk2 rfl zeroValue52 rfl zeroValue52 (by decide) (by decide)) hS.drew ?_;obtain⟨hsC,hkC⟩:=hS.cstart
 repeat (with_reducible first|refine pldB 2 isAgg3 ?_|refine pldB 1 isAgg3 ?_|refine ppL ?_)
 refine pre_ext rfl (fun B wB hS=>?_);simp only [NRH] at hS
 go_wp2_with (fail)
 refine (from_any (b.x - a.x) _ S i1).mono ?_;rintro e w' ⟨x,S1,rfl,hq1,hx0⟩;simp only [];go_step
 try (have hx0:=(hx0.at hS hF0).grow hq1)
 try (have hy0:=(hy0.at hS hF0).grow hq1)
 have hkC:=Heap.keepC hS hq1.below hsC hkC;replace hS:=hS.pcl hF0 hO0 hp0 hq1;obtain⟨F1,hF1,hOO1,hp1,hO1,hS⟩:=hS;have hsC:=SubC.trans hsC hOO1;refine pre_end (H:=_) hS hsC hkC ?_;refine mvp ?_;refine pre_ext rfl (fun B wB hS=>?_);simp only [NRH] at hS
 go_wp2_with (fail)
 refine (from_any (b.y - a.y) _ S1 i2).mono ?_;rintro e w' ⟨y,S2,rfl,hq2,hy0⟩;simp only [];go_step;have hx0:=(hx0.at hS hF1).grow hq2
 try (have hx0:=(hx0.at hS hF1).grow hq2)
 try (have hy0:=(hy0.at hS hF1).grow hq2)
 have hkC:=Heap.keepC hS hq2.below hsC hkC;replace hS:=hS.pcl hF1 hO1 hp1 hq2;obtain⟨F2,hF2,hOO2,hp2,hO2,hS⟩:=hS;have hsC:=SubC.trans hsC hOO2;refine pre_end (H:=_) hS hsC hkC ?_;refine mvp ?_;refine pre_nil2 (fun b7 b8 wB hS=>?_);simp only [NRH] at hS;simp only [NRM];refine exL ?_
 (with_reducible refine stA (u:=.agg #[.bool _,.slice _ _ _]) 4 hS sizeOf52 fun _ hS=>?_)
 refine ext_end (Heap.toC hS.sb hsC hkC) ?_;refine mvs ?_;refine exL ?_
 (with_reducible refine stA (u:=.agg #[.bool _,.slice _ _ _]) 5 hS sizeOf52 fun _ hS=>?_)
 refine ext_end (Heap.toC hS.sb hsC hkC) ?_;refine mvs ?_;refine snL ?_;clear hsC hkC;go_wp2;refine wp_region_box 1 [.p 0,.r 1,.p 2,.r 3,.p 4,.p 6,.r 7,.p 8,.r 9,.p 10,.e 5,.e 11] [.e 14,.e 15] [] [bxz 12 9 52 (.agg #[.bool false,.slice none 0 0]),bxz 13 10 52 (.agg #[.bool false,.slice none 0 0])] w _ (by kernel_rfl) (by kernel_rfl) (boxesOk2 rfl zeroValue52 rfl zeroValue52 (by decide) (by decide)) hS.drew ?_;obtain⟨hsC,hkC⟩:=hS.cstart
 repeat (with_reducible first|refine pldB 3 isAgg3 ?_|refine pldB 1 isAgg3 ?_|refine ppL ?_)
 refine pre_ext rfl (fun B wB hS=>?_);simp only [NRH] at hS
 go_wp2_with (fail)
 refine (from_any (c.x - a.x) _ S2 i3).mono ?_;rintro e w' ⟨u,S3,rfl,hq1,hu⟩;simp only [];go_step
 try (have hx0:=(hx0.at hS hF2).grow hq1)
 try (have hy0:=(hy0.at hS hF2).grow hq1)
 have hkC:=Heap.keepC hS hq1.below hsC hkC;replace hS:=hS.pcl hF2 hO2 hp2 hq1;obtain⟨F3,hF3,hOO3,hp3,hO3,hS⟩:=hS;have hsC:=SubC.trans hsC hOO3;refine pre_end (H:=_) hS hsC hkC ?_;refine mvp ?_;refine pre_ext rfl (fun B wB hS=>?_);simp only [NRH] at hS
 go_wp2_with (fail)
 refine (from_any (c.y - a.y) _ S3 i4).mono ?_;rintro e w' ⟨v,S4,rfl,hq2,hv⟩;simp only [];go_step;have hu:=(hu.at hS hF3).grow hq2
 try (have hx0:=(hx0.at hS hF3).grow hq2)
 try (have hy0:=(hy0.at hS hF3).grow hq2)
 have hkC:=Heap.keepC hS hq2.below hsC hkC;replace hS:=hS.pcl hF3 hO3 hp3 hq2;obtain⟨F4,hF4,hOO4,hp4,hO4,hS⟩:=hS;have hsC:=SubC.trans hsC hOO4;refine pre_end (H:=_) hS hsC hkC ?_;refine mvp ?_;refine pre_nil2 (fun b9 b10 wB hS=>?_);simp only [NRH] at hS;simp only [NRM];refine exL ?_
 (with_reducible refine stA (u:=.agg #[.bool _,.slice _ _ _]) 6 hS sizeOf52 fun _ hS=>?_)
 refine ext_end (Heap.toC hS.sb hsC hkC) ?_;refine mvs ?_;refine exL ?_
 (with_reducible refine stA (u:=.agg #[.bool _,.slice _ _ _]) 7 hS sizeOf52 fun _ hS=>?_)
 refine ext_end (Heap.toC hS.sb hsC hkC) ?_;refine mvs ?_;refine snL ?_;clear hsC hkC
 go_wp2_with (with_reducible first|refine ldA 4 hS isAgg52 sizeOf52 ?_|refine ldA 7 hS isAgg52 sizeOf52 ?_)
 refine (mulI_any x v _ _ _ S4 (hx0.at hS hF4) (hv.at hS hF4) (Liv.at hS hF4) f1.out).mono ?_;rintro e w' ⟨p,S5,rfl,hq5,hp⟩;have hy0:=(hy0.at hS hF4).grow hq5;have hu:=(hu.at hS hF4).grow hq5;replace hS:=hS.pcl hF4 hO4 hp4 hq5;obtain⟨F5,hF5,-,hp5,hO5,hS⟩:=hS;simp only [iRes]
 go_wp2_with (with_reducible first|refine alA hS zeroValue52 fun b11 wb11 hS=>?_|refine stA (u:=.agg #[.bool _,.slice _ _ _]) 8 hS sizeOf52 fun _ hS=>?_|refine ldA 5 hS isAgg52 sizeOf52 ?_|refine ldA 6 hS isAgg52 sizeOf52 ?_)
 refine (mulI_any y u _ _ _ S5 (hy0.at hS hF5) (hu.at hS hF5) (Liv.at hS hF5) f2.out).mono ?_;rintro e w' ⟨q,S6,rfl,hq6,hq⟩;have hp:=(hp.at hS hF5).grow hq6;replace hS:=hS.pcl hF5 hO5 hp5 hq6;obtain⟨F6,hF6,-,hp6,hO6,hS⟩:=hS;simp only [iRes]
 go_wp2_with (with_reducible first|refine alA hS zeroValue52 fun b13 wb13 hS=>?_|refine stA (u:=.agg #[.bool _,.slice _ _ _]) 9 hS sizeOf52 fun _ hS=>?_|refine ldA 8 hS isAgg52 sizeOf52 ?_|refine ldA 9 hS isAgg52 sizeOf52 ?_)
 refine (compareI_any p q _ _ _ S6 (hp.at hS hF6) (hq.at hS hF6)).mono ?_;rintro e w' ⟨rfl,hq7⟩;replace hS:=hS.pcl hF6 hO6 hp6 hq7;obtain⟨F7,hF7,-,hp7,hO7,hS⟩:=hS;simp only [];go_wp2;go_ret;exact⟨ret_int hres.out,(hp7.step hS hO7 hF7).back⟩
theorem validG_any (ad:Option Addr) (n c:Nat) (l:List Gp) (w:World) (S:Nat→Prop) (hv:SlC w S 2 (.slice ad n c) l.length (l.flatMap gc)) (hok:∀ p ∈ l,p.ok) :
 Calls Tryz.prog 232 #[.slice ad n c] w fun e w'=>e=.returned (.int .i64 0)∧Pure w (fun _=>False) w' (fun _=>False):=by
 have hn:n=l.length:=by obtain⟨h1,a,cap,h2,_⟩:=hv;cases h2;rfl
 subst hn;have hle:=hv.le;have hS:=Heap.start w;have hvo:=hv.old;clear hv
 go_enter func232,ntmps232
 go_wp2
 go_loopw [8] (fun v wr=>∃ k:Nat,k≤l.length∧v=.int .i64 (k:Int)∧Heap w wr [.frz (Old w) w]) (fun v _=>l.length - (intOf v).toNat)
 case atStart=>exact⟨0,by omega,rfl,hS⟩
 case round =>
  clear hS;obtain⟨k,hk,rfl,hS⟩:=hrel
  by_cases hkl:k<l.length
  ·obtain⟨p,hp⟩:∃ p,nth g0 l k=p:=⟨_,rfl⟩
   have hc:=flat_cell gc_len g0 hkl;rw [hp] at hc;obtain⟨o1,o2⟩:=hok p (by rw [← hp];exact nth_mem g0 l k hkl);unfold okC at o1 o2;have hvk:=pvalid_any p.x p.y
   go_wp2_with (first|(with_reducible first|refine ixE underlying25 sizeOf29 hvo hc fun bq oq hcellq=>?_|refine ldG hS isAgg29 sizeOf29 ?_|refine alA hS zeroValue29 fun bp wbp hS=>?_|refine stA (u:=.agg #[_,_]) 1 hS sizeOf29 fun _ hS=>?_|refine ldA 1 hS isAgg29 sizeOf29 ?_)|(go_at_call 39;refine (hvk _ o1 o2).mono ?_;rintro e w' ⟨rfl,hq⟩;have hS:=hS.below hq.below hq.drawn))
   go_roundw
   case rel=>exact⟨k+1,by omega,rfl,hS.sb⟩
   case measure=>simp [intOf];omega
  ·obtain rfl:k=l.length:=by omega
   go_wp2;go_ret;exact⟨rfl,hS.pure _⟩
theorem sideOf_any (a b c:Gp) (w:World) (S:Nat→Prop) (hL:Liv w S) (ha:a.ok) (hb:b.ok) (hc:c.ok) :
 Calls Tryz.prog 175 #[.agg #[.int .i64 a.x,.int .i64 a.y],.agg #[.int .i64 b.x,.int .i64 b.y],.agg #[.int .i64 c.x,.int .i64 c.y]] w fun e w'=>e=.returned (.tuple #[.int .i64 (sgnZ (areaZ a b c)),.int .i64 0])∧Pure w S w' S:=by
 have hsd:=fun w' S' hL'=>sideZ_any a b c w' S' hL' (by have:=ha.1;have:=hb.1;unfold okC at *;omega) (by have:=ha.2;have:=hb.2;unfold okC at *;omega) (by have:=ha.1;have:=hc.1;unfold okC at *;omega) (by have:=ha.2;have:=hc.2;unfold okC at *;omega)
 obtain⟨hS,hF0,hO0,hp0⟩:=st0 hL
 go_enter func175,ntmps175
 go_wp2_with (first|(with_reducible first|refine bxA (T:=29) (v:=.agg _) hS fun bx wbx hS=>?_|refine ldA 1 hS isAgg29 sizeOf29 ?_|refine ldA 2 hS isAgg29 sizeOf29 ?_|refine ldA 3 hS isAgg29 sizeOf29 ?_)|((with_reducible refine g_bs (T:=25) ?_);refine seq_buildSlice (k:=2) (z:=.agg #[.int .i64 0,.int .i64 0]) (len:=3) hS underlying25 sizeOf29 zeroValue29 (by decide) (by decide) (fill3p _ _ _ _ _ _) (fun bl wbl hS=>?_);simp only [NRM];simp only [NRH] at hS))
 refine (validG_any _ 3 3 [a,b,c] _ _ (SlC.ofBlk (k:=2) (n:=3) hS (List.mem_of_getElem? (i:=4) rfl) rfl (by decide)) (by simp [ha,hb,hc])).mono ?_;rintro e w' ⟨rfl,hq1⟩;have hS:=hS.below hq1.below hq1.drawn;simp only []
 go_wp2_with (with_reducible first|refine ldA 1 hS isAgg29 sizeOf29 ?_|refine ldA 2 hS isAgg29 sizeOf29 ?_|refine ldA 3 hS isAgg29 sizeOf29 ?_)
 refine (hsd _ S (Liv.at hS hF0)).mono ?_;rintro e w' ⟨rfl,hq2⟩;replace hS:=hS.pcl hF0 hO0 hp0 hq2;obtain⟨F1,hF1,hOO1,hp1,hO1,hS⟩:=hS;simp only [];go_wp2;refine bodyPost_ret (results_tmp2 rfl _ _ _) rfl ?_;exact⟨rfl,hp1.step hS hO1 hF1⟩
end Go.Proofs
namespace Go.Hp
open Go.Proofs.Tryz
open Go
def halfZ (d:Gp):Int:=if d.y<0∨(d.y=0∧d.x<0) then 1 else 0
def Gp.dir (d:Gp):Prop:=(-2147483648≤d.x∧d.x≤2147483648)∧(-2147483648≤d.y∧d.y≤2147483648)∧¬ (d.x=0∧d.y=0)
def turnZ (a b:Gp):Int:=if halfZ a=halfZ b then -sgnZ (a.x*b.y - a.y*b.x) else if halfZ a<halfZ b then -1 else 1
end Go.Hp
namespace Go.Proofs
open Go.Proofs.Tryz
open Go.RowKit Go.Hp
theorem half_any (d:Gp) (w:World):Calls Tryz.prog 146 #[.agg #[.int .i64 d.x,.int .i64 d.y]] w fun e w'=>e=.returned (.int .i64 (halfZ d))∧Pure w (fun _=>False) w' (fun _=>False):=by
 obtain⟨x,y⟩:=d;obtain⟨h,hh⟩:∃ h,halfZ ⟨x,y⟩=h:=⟨_,rfl⟩;rw [hh];unfold halfZ at hh;simp only at hh;have hS:=Heap.start w
 by_cases hy:y<0
 ·rw [if_pos (.inl hy)] at hh
  subst hh
  go_enter func146,ntmps146
  go_wp2_with (with_reducible first|refine bxA (T:=29) (v:=.agg _) hS fun bx wbx hS=>?_|refine ldB 1 hS isAgg3 ?_)
  go_ret;exact⟨rfl,hS.pure _⟩
 ·by_cases hy0:y=0
  ·subst hy0
   by_cases hx:x<0
   ·rw [if_pos (.inr ⟨rfl,hx⟩)] at hh
    subst hh;clear hy
    go_enter func146,ntmps146
    go_wp2_with (with_reducible first|refine bxA (T:=29) (v:=.agg _) hS fun bx wbx hS=>?_|refine ldB 1 hS isAgg3 ?_)
    go_ret;exact⟨rfl,hS.pure _⟩
   ·rw [if_neg (by omega)] at hh
    subst hh;clear hy
    go_enter func146,ntmps146
    go_wp2_with (with_reducible first|refine bxA (T:=29) (v:=.agg _) hS fun bx wbx hS=>?_|refine ldB 1 hS isAgg3 ?_)
    go_ret;exact⟨rfl,hS.pure _⟩
  ·rw [if_neg (by omega)] at hh
   subst hh;have hyf:(y == 0)=false:=by simpa using hy0
   clear hy0
   go_enter func146,ntmps146
   go_wp2_with (with_reducible first|refine bxA (T:=29) (v:=.agg _) hS fun bx wbx hS=>?_|refine ldB 1 hS isAgg3 ?_)
   go_ret;exact⟨rfl,hS.pure _⟩
theorem compareX_any (a b:Int) (w:World):Calls Tryz.prog 145 #[.int .i64 a,.int .i64 b] w fun e w'=>e=.returned (.int .i64 (cmpZ a b))∧w=w':=by
 unfold cmpZ
 by_cases h1:a<b
 ·rw [if_pos h1]
  go_enter func145,ntmps145
  go_wp2;go_ret;exact⟨rfl,rfl⟩
 ·rw [if_neg h1]
  by_cases h2:b<a
  ·rw [if_pos h2]
   go_enter func145,ntmps145
   go_wp2;go_ret;exact⟨rfl,rfl⟩
  ·rw [if_neg h2]
   go_enter func145,ntmps145
   go_wp2;go_ret;exact⟨rfl,rfl⟩
theorem turnI_any (a b:Gp) (w:World) (S:Nat→Prop) (hL:Liv w S) (ha:a.dir) (hb:b.dir):Calls Tryz.prog 100 #[.agg #[.int .i64 a.x,.int .i64 a.y],.agg #[.int .i64 b.x,.int .i64 b.y]] w fun e w'=>e=.returned (.int .i64 (turnZ a b))∧Pure w S w' S:=by
 obtain⟨h1,h2,_⟩:=ha;obtain⟨h3,h4,_⟩:=hb;obtain⟨t,ht⟩:∃ t,turnZ a b=t:=⟨_,rfl⟩;rw [ht];unfold turnZ at ht;have hsd:=fun w' S' hL'=>sideZ_any ⟨0,0⟩ a b w' S' hL' (by simp only;omega) (by simp only;omega) (by simp only;omega) (by simp only;omega)
 have har:areaZ ⟨0,0⟩ a b=a.x*b.y - a.y*b.x:=by unfold areaZ;simp
 rw [har] at hsd;clear h1 h2 h3 h4 har;obtain⟨p,hp⟩:∃ p,halfZ a=p:=⟨_,rfl⟩;obtain⟨q,hq⟩:∃ q,halfZ b=q:=⟨_,rfl⟩;have hha:=half_any a;have hhb:=half_any b;rw [hp] at hha ht;rw [hq] at hhb ht;clear hp hq;obtain⟨hS,hF0,hO0,hp0⟩:=st0 hL
 go_enter func100,ntmps100
 go_wp2_with (with_reducible refine bxA (T:=29) (v:=.agg _) hS fun bx wbx hS=>?_)
 refine rg0 [.r 0,.r 2,.e 1,.e 3,.e 4,.p 5] [] hS fun w1 hS=>?_
 repeat (with_reducible first|refine sldA 1 isAgg29 sizeOf29 ?_|refine sldA 2 isAgg29 sizeOf29 ?_)
 refine exL ?_
 go_wp2_with (fail)
 refine (hha _).mono ?_;rintro e w' ⟨rfl,hq1⟩;simp only [];go_step;have hS:=hS.below hq1.below hq1.drawn;refine ext_end hS ?_;refine mvs ?_;refine exL ?_
 go_wp2_with (fail)
 refine (hhb _).mono ?_;rintro e w' ⟨rfl,hq2⟩;simp only [];go_step;have hS:=hS.below hq2.below hq2.drawn;refine ext_end hS ?_;refine mvs ?_;refine exL ?_
 go_wp2_with (fail)
 refine (compareX_any _ _ _).mono ?_;rintro e w' ⟨rfl,rfl⟩;simp only [];go_step;refine ext_end hS ?_;refine mvs ?_;refine snL ?_
 by_cases hpq:p=q
 ·rw [if_pos hpq] at ht
  subst hpq;rw [cmpZ_self]
  have hwn:IntKind.i64.wrap (-sgnZ (a.x*b.y - a.y*b.x)) = -sgnZ (a.x*b.y - a.y*b.x):=by
   have:-1≤sgnZ (a.x*b.y - a.y*b.x)∧sgnZ (a.x*b.y - a.y*b.x)≤1:=by unfold sgnZ;split <;> (try split) <;> omega
   exact w6
  generalize sgnZ (a.x*b.y - a.y*b.x)=sg at *;replace ht:=Hd ht
  go_wp2_with (with_reducible first|refine ldA 1 hS isAgg29 sizeOf29 ?_|refine ldA 2 hS isAgg29 sizeOf29 ?_)
  refine (hsd _ S (Liv.at hS hF0)).mono ?_;rintro e w' ⟨rfl,hq3⟩;replace hS:=hS.pcl hF0 hO0 hp0 hq3;obtain⟨F1,hF1,-,hp1,hO1,hS⟩:=hS;simp only [];go_wp2;go_ret;exact⟨ret_int ht.out,hp1.step hS hO1 hF1⟩
 ·rw [if_neg hpq] at ht
  have hne:cmpZ p q≠0:=fun h=>hpq (cmpZ_eq0.1 h)
  have hct:cmpZ p q=t:=by
   rw [← ht];unfold cmpZ
   by_cases h:p<q
   ·rw [if_pos h,if_pos h]
   ·rw [if_neg h,if_neg h,if_pos (by omega)]
  rw [hct] at hne ⊢;have htf:(t == 0)=false:=by simpa using hne
  clear ht hct hne;go_wp2;go_ret;exact⟨rfl,hS.pure _⟩
theorem direction_any (ad:Option Addr) (n c:Nat) (l:List Gp) (w:World) (S:Nat→Prop) (hv:SlC w S 2 (.slice ad n c) l.length (l.flatMap gc)) (hok:∀ p ∈ l,p.dir) :
 Calls Tryz.prog 99 #[.slice ad n c] w fun e w'=>e=.returned (.int .i64 0)∧Pure w (fun _=>False) w' (fun _=>False):=by
 have hn:n=l.length:=by obtain⟨h1,a,cap,h2,_⟩:=hv;cases h2;rfl
 subst hn;have hle:=hv.le;have hS:=Heap.start w;have hvo:=hv.old;clear hv
 go_enter func99,ntmps99
 go_wp2
 go_loopw [7] (fun v wr=>∃ k:Nat,k≤l.length∧v=.int .i64 (k:Int)∧Heap w wr [.frz (Old w) w]) (fun v _=>l.length - (intOf v).toNat)
 case atStart=>exact⟨0,by omega,rfl,hS⟩
 case round =>
  clear hS;obtain⟨k,hk,rfl,hS⟩:=hrel
  by_cases hkl:k<l.length
  ·obtain⟨⟨x,y⟩,hp⟩:∃ p,nth g0 l k=p:=⟨_,rfl⟩
   have hc:=flat_cell gc_len g0 hkl;rw [hp] at hc;obtain⟨o1,o2,o3⟩:=hok ⟨x,y⟩ (by rw [← hp];exact nth_mem g0 l k hkl);simp only at o1 o2 o3;have wx:IntKind.i64.wrap (-x) = -x:=w6;have wy:IntKind.i64.wrap (-y) = -y:=w6;have t1:decide (2147483648<max x (-x))=false:=by simp;omega
   have t2:decide (2147483648<max y (-y))=false:=by simp;omega
   have t3:decide (min x y < -2147483648)=false:=by simp;omega
   clear o1 o2
   go_wp2_with (with_reducible first|refine ixE underlying25 sizeOf29 hvo hc fun bq oq hcellq=>?_|refine ldG hS isAgg29 sizeOf29 ?_|refine alA hS zeroValue29 fun bp wbp hS=>?_|refine stA (u:=.agg #[_,_]) 1 hS sizeOf29 fun _ hS=>?_|refine ldA 1 hS isAgg29 sizeOf29 ?_|refine ldB 1 hS isAgg3 ?_)
   all_goals exact⟨⟨k+1,by omega,rfl,hS.sb⟩,by simp [intOf];omega⟩
  ·obtain rfl:k=l.length:=by omega
   go_wp2;go_ret;exact⟨rfl,hS.pure _⟩
theorem turn_any (a b:Gp) (w:World) (S:Nat→Prop) (hL:Liv w S) (ha:a.dir) (hb:b.dir):Calls Tryz.prog 47 #[.agg #[.int .i64 a.x,.int .i64 a.y],.agg #[.int .i64 b.x,.int .i64 b.y]] w fun e w'=>e=.returned (.tuple #[.int .i64 (turnZ a b),.int .i64 0])∧Pure w S w' S:=by
 obtain⟨hS,hF0,hO0,hp0⟩:=st0 hL
 go_enter func47,ntmps47
 go_wp2_with (first|(with_reducible first|refine bxA (T:=29) (v:=.agg _) hS fun bx wbx hS=>?_|refine ldA 1 hS isAgg29 sizeOf29 ?_|refine ldA 2 hS isAgg29 sizeOf29 ?_)|((with_reducible refine g_bs (T:=25) ?_);refine seq_buildSlice (k:=2) (z:=.agg #[.int .i64 0,.int .i64 0]) (len:=2) hS underlying25 sizeOf29 zeroValue29 (by decide) (by decide) (fill2p _ _ _ _) (fun bl wbl hS=>?_);simp only [NRM];simp only [NRH] at hS))
 refine (direction_any _ 2 2 [a,b] _ _ (SlC.ofBlk (k:=2) (n:=2) hS (List.mem_of_getElem? (i:=3) rfl) rfl (by decide)) (by simp [ha,hb])).mono ?_;rintro e w' ⟨rfl,hq1⟩;have hS:=hS.below hq1.below hq1.drawn;simp only []
 go_wp2_with (with_reducible first|refine ldA 1 hS isAgg29 sizeOf29 ?_|refine ldA 2 hS isAgg29 sizeOf29 ?_)
 refine (turnI_any a b _ S (Liv.at hS hF0) ha hb).mono ?_;rintro e w' ⟨rfl,hq2⟩;replace hS:=hS.pcl hF0 hO0 hp0 hq2;obtain⟨F1,hF1,-,hp1,hO1,hS⟩:=hS;simp only [];go_wp2;refine bodyPost_ret (results_tmp2 rfl _ _ _) rfl ?_;exact⟨rfl,hp1.step hS hO1 hF1⟩
end Go.Proofs
namespace Go.Hp
open Go.Proofs.Tryz
open Go
structure Sz where
 a:Gp
 b:Gp
 deriving DecidableEq
def Sz.sg (s:Sz):Sg:=⟨s.a.pt,s.b.pt⟩
def sc (s:Sz):List Value:=[.int .i64 s.a.x,.int .i64 s.a.y,.int .i64 s.b.x,.int .i64 s.b.y]
theorem sc_len (s:Sz):(sc s).length=4:=rfl
def s0:Sz:=⟨g0,g0⟩
def Sz.ok (s:Sz):Prop:=s.a.ok∧s.b.ok∧s.a≠s.b
def Gp.lt (a b:Gp):Prop:=a.x<b.x∨(a.x=b.x∧a.y<b.y)
instance (a b:Gp):Decidable (a.lt b):=by unfold Gp.lt;infer_instance
theorem Gp.lt_pt {a b:Gp}:a.pt.lt b.pt↔a.lt b:=by
 unfold Pt.lt Gp.lt Gp.pt;simp only [Rat.intCast_lt_intCast,Rat.intCast_inj]
theorem Gp.pt_inj {a b:Gp}:a.pt=b.pt↔a=b:=by
 obtain⟨x,y⟩:=a;obtain⟨u,v⟩:=b;simp [Gp.pt,Rat.intCast_inj]
def Sz.nrm (s:Sz):Sz:=if s.b.lt s.a then ⟨s.b,s.a⟩ else s
theorem Sz.nrm_lo (s:Sz):s.nrm.a.pt=s.sg.lo∧s.nrm.b.pt=s.sg.hi:=by
 unfold Sz.nrm Sg.lo Sg.hi Sz.sg
 by_cases h:s.b.lt s.a
 ·rw [if_pos h,if_pos (Gp.lt_pt.2 h),if_pos (Gp.lt_pt.2 h)];exact⟨rfl,rfl⟩
 ·rw [if_neg h,if_neg (fun e=>h (Gp.lt_pt.1 e)),if_neg (fun e=>h (Gp.lt_pt.1 e))];exact⟨rfl,rfl⟩
def Sz.bx (s:Sz):Go.Proofs.BoxZ:=⟨min s.a.x s.b.x,min s.a.y s.b.y,max s.a.x s.b.x,max s.a.y s.b.y⟩
end Go.Hp
namespace Go.Proofs
open Go.Proofs.Tryz
open Go.RowKit Go.Hp
theorem before_any (a b:Gp) (w:World):Calls Tryz.prog 229 #[.agg #[.int .i64 a.x,.int .i64 a.y],.agg #[.int .i64 b.x,.int .i64 b.y]] w fun e w'=>e=.returned (.bool (decide (a.lt b)))∧Pure w (fun _=>False) w' (fun _=>False):=by
 obtain⟨x,y⟩:=a;obtain⟨u,v⟩:=b;obtain⟨r,hr⟩:∃ r,decide ((⟨x,y⟩:Gp).lt ⟨u,v⟩)=r:=⟨_,rfl⟩;rw [hr];unfold Gp.lt at hr;simp only at hr;have hS:=Heap.start w
 by_cases h1:x<u
 ·have hr2:r=true:=by rw [← hr];simp [h1]
  subst hr2;clear hr
  go_enter func229,ntmps229
  go_wp2_with (with_reducible first|refine bxA (T:=29) (v:=.agg _) hS fun bx wbx hS=>?_|refine ldB 1 hS isAgg3 ?_|refine ldB 2 hS isAgg3 ?_)
  go_ret;exact⟨rfl,hS.pure _⟩
 ·by_cases h2:x=u
  ·subst h2
   have hr2:r=decide (y<v):=by rw [← hr];simp
   subst hr2;clear hr h1
   go_enter func229,ntmps229
   go_wp2_with (with_reducible first|refine bxA (T:=29) (v:=.agg _) hS fun bx wbx hS=>?_|refine ldB 1 hS isAgg3 ?_|refine ldB 2 hS isAgg3 ?_)
   go_ret;exact⟨rfl,hS.pure _⟩
  ·have hr2:r=false:=by rw [← hr];simp [h1,h2]
   subst hr2;have h2f:(x == u)=false:=by simpa using h2
   clear hr h2
   go_enter func229,ntmps229
   go_wp2_with (with_reducible first|refine bxA (T:=29) (v:=.agg _) hS fun bx wbx hS=>?_|refine ldB 1 hS isAgg3 ?_|refine ldB 2 hS isAgg3 ?_)
   go_ret;exact⟨rfl,hS.pure _⟩
theorem nrm_any (s:Sz) (w:World):Calls Tryz.prog 172 #[.agg #[.int .i64 s.a.x,.int .i64 s.a.y,.int .i64 s.b.x,.int .i64 s.b.y]] w fun e w'=>e=.returned (.agg #[.int .i64 s.nrm.a.x,.int .i64 s.nrm.a.y,.int .i64 s.nrm.b.x,.int .i64 s.nrm.b.y])∧Pure w (fun _=>False) w' (fun _=>False):=by
 obtain⟨t,ht⟩:∃ t,s.nrm=t:=⟨_,rfl⟩;rw [ht];unfold Sz.nrm at ht;have hS:=Heap.start w
 by_cases h:s.b.lt s.a
 ·rw [if_pos h] at ht
  subst ht;have hd:decide (s.b.lt s.a)=true:=by simpa using h
  have hb:=before_any s.b s.a;rw [hd] at hb
  go_enter func172,ntmps172
  go_wp2_with (with_reducible first|refine bxA (T:=95) (v:=.agg _) hS fun bx wbx hS=>?_|refine alA hS zeroValue95 fun br wbr hS=>?_|refine ldK 1 hS isAgg29 sizeOf29 ?_)
  refine (hb _).mono ?_;rintro e w' ⟨rfl,hq⟩;have hS:=hS.below hq.below hq.drawn;simp only []
  go_wp2_with (with_reducible first|refine ldK 1 hS isAgg29 sizeOf29 ?_|refine stA (u:=.agg #[_,_]) 1 hS sizeOf29 fun _ hS=>?_|refine ldA 1 hS isAgg95 sizeOf95 ?_|refine stA (u:=.agg #[_,_,_,_]) 2 hS sizeOf95 fun _ hS=>?_)
  exact ret_c 2 hS rfl rfl rfl isAgg95 sizeOf95 rfl rfl ⟨rfl,hS.pure _⟩
 ·rw [if_neg h] at ht
  subst ht;have hd:decide (s.b.lt s.a)=false:=by simpa using h
  have hb:=before_any s.b s.a;rw [hd] at hb
  go_enter func172,ntmps172
  go_wp2_with (with_reducible first|refine bxA (T:=95) (v:=.agg _) hS fun bx wbx hS=>?_|refine alA hS zeroValue95 fun br wbr hS=>?_|refine ldK 1 hS isAgg29 sizeOf29 ?_)
  refine (hb _).mono ?_;rintro e w' ⟨rfl,hq⟩;have hS:=hS.below hq.below hq.drawn;simp only []
  go_wp2_with (with_reducible first|refine ldA 1 hS isAgg95 sizeOf95 ?_|refine stA (u:=.agg #[_,_,_,_]) 2 hS sizeOf95 fun _ hS=>?_)
  exact ret_c 2 hS rfl rfl rfl isAgg95 sizeOf95 rfl rfl ⟨rfl,hS.pure _⟩
theorem boxC_any (s:Sz) (w:World):Calls Tryz.prog 121 #[.agg #[.int .i64 s.a.x,.int .i64 s.a.y,.int .i64 s.b.x,.int .i64 s.b.y]] w fun e w'=>e=.returned (.agg #[.int .i64 s.bx.x0,.int .i64 s.bx.y0,.int .i64 s.bx.x1,.int .i64 s.bx.y1])∧Pure w (fun _=>False) w' (fun _=>False):=by
 have hS:=Heap.start w
 go_enter func121,ntmps121
 go_wp2_with (with_reducible first|refine bxA (T:=95) (v:=.agg _) hS fun bx wbx hS=>?_|refine alA hS zeroValue203 fun br wbr hS=>?_|refine ldB 1 hS isAgg3 ?_|refine stA (u:=.agg #[_,_,_,_]) 2 hS sizeOf203 fun _ hS=>?_)
 exact ret_c 2 hS rfl rfl rfl isAgg203 sizeOf203 rfl rfl ⟨rfl,hS.pure _⟩
theorem ofC_any (n:Int) (w:World) (S:Nat→Prop) (hn:InI n) (hL:Liv w S) :
 Calls Tryz.prog 249 #[.int .i64 n] w (GRes w S (n:Rat)):=by
 obtain⟨hS,hF0,hO0,hp0⟩:=st0 hL
 go_enter func249,ntmps249
 go_wp2_with (with_reducible refine alA hS zeroValue54 fun br wbr hS=>?_)
 refine (of_any n 1 _ S hn (by unfold InI;omega) (Liv.at hS hF0) (by omega)).mono ?_;rintro e w' ⟨z,S2,rfl,hq,hz⟩;replace hS:=hS.pcl hF0 hO0 hp0 hq;obtain⟨F1,hF1,-,hp1,hO1,hS⟩:=hS;simp only [fRes]
 go_wp2_with (with_reducible first|refine alA hS zeroValue54 fun bx wbx hS=>?_|refine stA (u:=.agg #[.bool _,.slice _ _ _,.bool _,.slice _ _ _]) 2 hS sizeOf54 fun _ hS=>?_|refine stA (u:=.agg #[.bool _,.slice _ _ _,.bool _,.slice _ _ _]) 1 hS sizeOf54 fun _ hS=>?_|refine ldA 2 hS isAgg54 sizeOf54 ?_)
 exact ret_c 1 hS rfl rfl rfl isAgg54 sizeOf54 rfl rfl ⟨z,S2,rfl,hp1.step hS hO1 hF1,(hz.at hS hF1).cast (by simp [Rat.divInt,Rat.mkRat_one])⟩
theorem sideC_any (s:Sz) (p:Gp) (w:World) (S:Nat→Prop) (hL:Liv w S) (ha:s.a.ok) (hb:s.b.ok) (hc:p.ok) :
 Calls Tryz.prog 122 #[.agg #[.int .i64 s.a.x,.int .i64 s.a.y,.int .i64 s.b.x,.int .i64 s.b.y],.agg #[.int .i64 p.x,.int .i64 p.y]] w fun e w'=>e=.returned (.int .i64 (sgnZ (areaZ s.a s.b p)))∧Pure w S w' S:=by
 obtain⟨hS,hF0,hO0,hp0⟩:=st0 hL
 go_enter func122,ntmps122
 go_wp2_with (with_reducible first|refine bxA (T:=95) (v:=.agg _) hS fun bx wbx hS=>?_|refine bxA (T:=29) (v:=.agg _) hS fun bp wbp hS=>?_|refine ldK 1 hS isAgg29 sizeOf29 ?_|refine ldA 2 hS isAgg29 sizeOf29 ?_)
 refine (sideOf_any s.a s.b p _ S (Liv.at hS hF0) ha hb hc).mono ?_;rintro e w' ⟨rfl,hq⟩;replace hS:=hS.pcl hF0 hO0 hp0 hq;obtain⟨F1,hF1,-,hp1,hO1,hS⟩:=hS;simp only [];go_wp2;go_ret;exact⟨rfl,hp1.step hS hO1 hF1⟩
theorem segValid_any (s:Sz) (w:World) (h:s.ok):Calls Tryz.prog 167 #[.agg #[.int .i64 s.a.x,.int .i64 s.a.y,.int .i64 s.b.x,.int .i64 s.b.y]] w fun e w'=>e=.returned (.int .i64 0)∧Pure w (fun _=>False) w' (fun _=>False):=by
 obtain⟨⟨x,y⟩,⟨u,v⟩⟩:=s;obtain⟨ha,hb,hne⟩:=h;have v1:=fun w=>pvalid_any x y w ha.1 ha.2
 have v2:=fun w=>pvalid_any u v w hb.1 hb.2
 have hne:¬ (x=u∧y=v):=fun h=>hne (by simp [h.1,h.2])
 clear ha hb;have hS:=Heap.start w
 go_enter func167,ntmps167
 go_wp2_with (with_reducible first|refine bxA (T:=95) (v:=.agg _) hS fun bx wbx hS=>?_|refine ldK 1 hS isAgg29 sizeOf29 ?_)
 refine (v1 _).mono ?_;rintro e w' ⟨rfl,hq⟩;have hS:=hS.below hq.below hq.drawn;simp only []
 go_wp2_with (with_reducible refine ldK 1 hS isAgg29 sizeOf29 ?_)
 refine (v2 _).mono ?_;rintro e w' ⟨rfl,hq⟩;have hS:=hS.below hq.below hq.drawn;simp only []
 go_wp2_with (with_reducible refine ldK 1 hS isAgg29 sizeOf29 ?_)
 all_goals (go_ret;exact⟨rfl,hS.pure _⟩)
theorem validS_any (ad:Option Addr) (n c:Nat) (l:List Sz) (w:World) (S:Nat→Prop) (hv:SlC w S 4 (.slice ad n c) l.length (l.flatMap sc)) (hok:∀ p ∈ l,p.ok) :
 Calls Tryz.prog 115 #[.slice ad n c] w fun e w'=>e=.returned (.int .i64 0)∧Pure w (fun _=>False) w' (fun _=>False):=by
 have hn:n=l.length:=by obtain⟨h1,a,cap,h2,_⟩:=hv;cases h2;rfl
 subst hn;have hle:=hv.le;have hS:=Heap.start w;have hvo:=hv.old;clear hv
 go_enter func115,ntmps115
 go_wp2
 go_loopw [8] (fun v wr=>∃ k:Nat,k≤l.length∧v=.int .i64 (k:Int)∧Heap w wr [.frz (Old w) w]) (fun v _=>l.length - (intOf v).toNat)
 case atStart=>exact⟨0,by omega,rfl,hS⟩
 case round =>
  clear hS;obtain⟨k,hk,rfl,hS⟩:=hrel
  by_cases hkl:k<l.length
  ·obtain⟨p,hp⟩:∃ p,nth s0 l k=p:=⟨_,rfl⟩
   have hc:=flat_cell sc_len s0 hkl;rw [hp] at hc;have ho:=hok p (by rw [← hp];exact nth_mem s0 l k hkl);have hvk:=fun w=>segValid_any p w ho
   clear ho hp
   go_wp2_with (first|(with_reducible first|refine ixE underlying23 sizeOf95 hvo hc fun bq oq hcellq=>?_|refine ldG hS isAgg95 sizeOf95 ?_|refine alA hS zeroValue95 fun bp wbp hS=>?_|refine stA (u:=.agg #[_,_,_,_]) 1 hS sizeOf95 fun _ hS=>?_|refine ldA 1 hS isAgg95 sizeOf95 ?_)|(go_at_call 167;refine (hvk _).mono ?_;rintro e w' ⟨rfl,hq⟩;have hS:=hS.below hq.below hq.drawn))
   go_roundw
   case rel=>exact⟨k+1,by omega,rfl,hS.sb⟩
   case measure=>simp [intOf];omega
  ·obtain rfl:k=l.length:=by omega
   go_wp2;go_ret;exact⟨rfl,hS.pure _⟩
end Go.Proofs
