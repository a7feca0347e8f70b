/- FacesEuler holds: for all lists of numbers, of which polygons, segments and points are made, the number of faces is that of the edges, less that of the vertices, plus that of the components, plus 1. No conditions. -/
import Derived.OpenShut
import Derived.ProofKit
import Derived.ShutString
import Derived.ChangeOld
import Derived.Below
import Derived.Test.YtgaejkbkfoaaiaaGreatR14
import Derived.Test.YtgaejkbkfoaaiaaGreatR16
set_option maxRecDepth 100000
set_option maxHeartbeats 16000000
set_option linter.unusedVariables false
set_option linter.unusedSimpArgs false
namespace Go.Hp
open Go.Proofs.Tryz
open Go
theorem jZ.mkE {w:World} {S:Nat→Prop} {v:Value} {n:Nat} {is:List Nat} (h:bN w S 1 v n (iv (zs is))) (hi:∀ x ∈ is,x≤1000000):jZ w S v is:=by
 have hn:n=is.length:=by have:=h.1;simp [iv,zs] at this;omega
 subst hn;refine⟨by rw [show (zs is).length=is.length by simp [zs]];exact h,fun x hx=>?_⟩;obtain⟨y,hy,rfl⟩:∃ y:Nat,y ∈ is∧((y:Nat):Int)=x:=by simpa [zs] using hx
 have:=hi y hy;unfold bQ;omega
theorem cntP_le_n (p:Nat→Prop):∀ n,cntP p n≤n
 | 0=>Nat.le_refl _
 | n+1=>by
  have ih:=cntP_le_n p n
  by_cases h:p n
  ·rw [cntP_succ_pos h];omega
  ·rw [cntP_succ_neg h];omega
end Go.Hp
namespace Go.Proofs
open Go.Proofs.Tryz
open Go.RowKit Go.Hp
theorem euler_walk (al am ap:Option Addr) (nl cl nm cm np cp:Nat) (xl xm xpQ:List Int) (w:World) (hl:Ints w (Old w) (.slice al nl cl) xl) (hm:Ints w (Old w) (.slice am nm cm) xm) (hp:Ints w (Old w) (.slice ap np cp) xpQ) :
 Calls Tryz.prog 3 #[.slice al nl cl,.slice am nm cm,.slice ap np cp] w fun e w'=>e=.returned (.bool true)∧Below w.heap.size w w':=by
 have hS:=aA.oI w;have dY:=tb w;have bD:=Pure.oI w (Old w);have bC:=fun k (h:Old w k)=>h
 have aC:=fun k (h:Old w k)=>h
 go_enter func3,ntmps3
 go_wp2_with (fail)
 refine (made_any al am ap nl cl nm cm np cp xl xm xpQ _ hl hm hp).mono ?_;rintro e w1 ⟨os,gs,V,es,⟨a1,n1,c1⟩,⟨a2,n2,c2⟩,⟨a3,n3,c3⟩,⟨a4,n4,c4⟩,⟨b1,m1,d1⟩,⟨b2,m2,d2⟩,⟨b3,m3,d3⟩,⟨b4,m4,d4⟩,S1,rfl,zV,hq,sR,hA,hP⟩;have cJ:∀ t ∈ os,t.ok:=fun t ht=>(zV.cJ t ht).1
 have qm:∀ g ∈ gs,g.ok:=fun g hg=>(zV.qm g hg).1
 obtain⟨rs,prs,hAI⟩:=hP.aM6 cJ qm sR hA;obtain⟨qS,bJ⟩:=eu.aEf hP cJ;have lP:=hP.vlen;have gV:=hP.elen;have hV:=hP.arr.sv;have dg:=zV.lo;have hlg:=zV.lg
 have aVG:V.length≤628:=by
  have:os.length*os.length≤24*24:=Nat.mul_le_mul dg dg;omega
 have aVJ:es.length≤15072:=by
  have:os.length*V.length≤24*628:=Nat.mul_le_mul dg aVG;omega
 have heu:=fun RL out h1 h2 h3=>eu.euler hP (fun t ht=>(cJ t ht).2.2) (RL:=RL) (out:=out) h1 h2 h3
 have bV:∀ e ∈ es,e.a<e.b:=fun e he=>(hP.mw (fun t ht=>(cJ t ht).2.2) he).1
 clear lP gV dg hlg zV hA hP cJ qm;replace hS:=hS.aj aC bC bD hq;obtain⟨F1,aG,-,bB,av,hS⟩:=hS;simp only [sv]
 go_wp2_with (with_reducible first|refine bH hS zeroValue28 fun b7 wb7 hS=>?_|refine bH hS zeroValue32 fun b8 xe hS=>?_|refine aJ 1 hS sizeOf28 fun _ hS=>?_|refine aJ 2 hS sizeOf32 fun _ hS=>?_|refine bA 1 hS isAgg28 sizeOf28 ?_)
 refine (aGL a1 a2 a3 a4 n1 c1 n2 c2 n3 c3 n4 c4 rs es prs V 300 _ S1 (hAI.at hS aG) (by decide) qS bJ hV (by omega) (by omega)).mono ?_;rintro e w3 ⟨RL,⟨an,nn,cn⟩,⟨aL,nL,cL⟩,⟨ao,no,co⟩,⟨ai,ni,ci⟩,⟨aa,na,ca⟩,S3,rfl,sa,rH,bI,hL3,hF⟩;have heu:=heu RL (fun v=>nR es (nth [] RL v)) sa rH (fun v _ h=>aIv h);have lD:no=(jR V es RL fun v=>nR es (nth [] RL v)).O.length:=Ints.len hF.o;rw [← lD] at heu;have my:=hAI.n3;have j6:=hAI.n4;have hAI2:=((hAI.at hS aG).move (w:=nd _) (hAI.at hS aG).live (fun _ _=>rfl)).grow bI;have bR:=(bB.step hS av aG).aE4 dY bI;obtain⟨F3,bM,nQ,yo⟩:=hS.wV dY aG bI;have dE:=fun k h=>nQ k (av k h)
 clear hS;have hS:=yo;have hE5:=hAI2.hE.weaken bM;have hEs5:=hAI2.jf.weaken bM;have pw:=hEs5.len;have habn:=hAI2.ab;have hpE:=Hd bR;clear yo nQ bI bB av aG hq sR bD bC aC lD hF sa rH qS bJ hV hAI hAI2 bR;subst my j6;simp only [sv];have bG:=aDL (gT es) es.length (by unfold gT;simp);have hCl:(nK (gT es) V.length).length=V.length:=by unfold nK;simp
 have hCv:∀ v,v<V.length→nth 0 (nK (gT es) V.length) v≤v:=fun v hv=>by
  rw [aUb hv];exact (aDL (gT es) _ (Nat.le_refl _)).le v
 have hCe:∀ i,i<es.length→nth 0 (nK (gT es) V.length) (nth ah es i).a=nth 0 (nK (gT es) V.length) (nth ah es i).b:=fun i hi=>by
  have h1:=habn _ (cQ ah es i hi);rw [aUb h1.1,aUb h1.2];have h2:=(aDL (gT es) _ (Nat.le_refl _)).mw i (by unfold gT;simpa using hi)
  have h3:nth (0,0) (gT es) i=((nth ah es i).a,(nth ah es i).b):=by
   unfold gT;rw [bS _ _ _ (by simpa using hi),bS _ _ _ hi];simp
  rw [h3] at h2;exact h2
 clear bG;replace heu:=Hd heu;replace bV:=Hd bV;replace hCe:=Hd hCe
 go_wp2_with (with_reducible first|refine bH hS zeroValue37 fun fo qM hS=>?_|refine aJ 3 hS sizeOf37 fun _ hS=>?_|refine bA 1 hS isAgg28 sizeOf28 ?_)
 refine (aWB a1 a2 a3 a4 n1 c1 n2 c2 V.length c3 es.length c4 rs es _ F3 (aP.at hS (fun _ h=>h)) (hE5.move (hS.da fun _ h=>h)) (hEs5.at hS fun _ h=>h) (by omega) (by omega) habn).mono ?_;rintro e W1 ⟨g,cr,rfl,cU⟩;replace hS:=hS.import cU;simp only [aK] at hS;clear cU;obtain⟨C,hC⟩:∃ C,nK (gT es) V.length=C:=⟨_,rfl⟩;simp only [hC] at hS hCl hCv hCe heu;clear hC
 have hN:jZ W1 _ (.slice (some ⟨g,0,none⟩) V.length cr) C:=jZ.mkE (hS.dn 4 rfl) (fun x hx=>by
  obtain⟨j,hj,e⟩:=List.getElem_of_mem hx;have:=hCv j (by omega);rw [bS 0 C j hj,e] at this;omega)
 replace hS:=hS.freeze 4 rfl;simp only [aK] at hS;obtain⟨G1,hG1⟩:∃ G,(Chunk.row (.slice (some ⟨g,0,none⟩) V.length cr) 3 1 V.length (iv (zs C))).has=G:=⟨_,rfl⟩;rw [hG1] at hS hN;clear hG1;obtain⟨mnQ,hmn⟩:∃ mnQ:Nat→Nat,mnQ=cntP (fun v=>nth 0 C v=v):=⟨_,rfl⟩;have wA:mnQ 0=0:=by rw [hmn];rfl
 have qJ:∀ i,nth 0 C i=i→mnQ (i+1)=mnQ i+1:=fun i h=>by rw [hmn];exact cntP_succ_pos h
 have hmf:∀ i,nth 0 C i≠i→mnQ (i+1)=mnQ i:=fun i h=>by rw [hmn];exact cntP_succ_neg h
 have jY:∀ i,mnQ i≤i:=fun i=>by rw [hmn];exact cntP_le_n _ i
 rw [← hmn] at heu;clear hmn hCv;replace wA:=Hd wA;replace qJ:=Hd qJ;replace hmf:=Hd hmf;replace jY:=Hd jY;simp only [];have dVQ:((V.length:Int) != (V.length:Int))=false:=by simp
 go_wp2_with (with_reducible refine aU 1 hS isAgg25 ?_)
 try try simp only [fA]
 go_loopw [13,14] (fun qQ v14 wr=>∃ i:Nat,i≤V.length∧qQ=.int .i64 (mnQ i:Int)∧v14=.int .i64 (i:Int)∧aA (nd w) wr [.aH F3 w3,.aB b7 (.cells #[.slice a1 n1 c1,.slice a2 n2 c2,.slice a3 V.length c3,.slice a4 es.length c4] 28 (0,0)),.aB b8 (.cells #[.slice b1 m1 d1,.slice b2 m2 d2,.slice b3 m3 d3,.slice b4 m4 d4] 32 (0,0)),.aB fo (.cells #[.slice an nn cn,.slice aL nL cL,.slice ao no co,.slice ai ni ci,.slice aa na ca] 37 (0,0)),.aH G1 W1]) (fun _ v14 _=>V.length - (intOf v14).toNat)
 case atStart=>exact⟨0,by omega,by rw [wA.out];rfl,rfl,hS⟩
 case round =>
  clear hS;obtain⟨i,hi,rfl,rfl,hS⟩:=hrel
  by_cases dj:i<V.length
  ·have oO:=jY.out i
   have h1:=qJ.out i;have h2:=hmf.out i;obtain⟨miQ,hmi0⟩:∃ miQ,mnQ i=miQ:=⟨_,rfl⟩;rw [hmi0] at oO h1 h2;rw [hmi0];obtain⟨a,ha⟩:∃ a,nth 0 C i=a:=⟨_,rfl⟩;rw [ha] at h1 h2;have z1:IntKind.i64.wrap ((miQ:Int)+1)=(miQ:Int)+1:=w6;replace hmi0:=Hd hmi0
   by_cases pC:a=i
   ·have h1:=h1 pC
    have t1:((a:Int) == (i:Int))=true:=by simp [pC]
    have t2:(a == i)=true:=by simp [pC]
    replace h1:=Hd h1;replace pC:=Hd pC;clear h2
    go_wp2_with (with_reducible first|refine ixN underlying22 sizeOf3 fun _ _ _=>?_|refine fP hS isAgg3 ?_)
    go_roundw
    case rel=>exact⟨i+1,by omega,by rw [h1.out];simp,by simp,hS⟩
    case measure=>simp [intOf];omega
   ·have h2:=h2 pC
    have t1:((a:Int) == (i:Int))=false:=by simp;omega
    have t2:(a == i)=false:=by simp [pC]
    replace h2:=Hd h2;replace pC:=Hd pC;clear h1
    go_wp2_with (with_reducible first|refine ixN underlying22 sizeOf3 fun _ _ _=>?_|refine fP hS isAgg3 ?_)
    go_roundw
    case rel=>exact⟨i+1,by omega,by rw [h2.out],by simp,hS⟩
    case measure=>simp [intOf];omega
  ·obtain rfl:V.length=i:=by omega
   have jY:=jY.out V.length
   go_wp2_with (fail)
   try try simp only [fA]
   go_loopw [15] (fun qO wr=>∃ i:Nat,i≤es.length∧qO=.int .i64 (i:Int)∧aA (nd w) wr [.aH F3 w3,.aB b7 (.cells #[.slice a1 n1 c1,.slice a2 n2 c2,.slice a3 V.length c3,.slice a4 es.length c4] 28 (0,0)),.aB b8 (.cells #[.slice b1 m1 d1,.slice b2 m2 d2,.slice b3 m3 d3,.slice b4 m4 d4] 32 (0,0)),.aB fo (.cells #[.slice an nn cn,.slice aL nL cL,.slice ao no co,.slice ai ni ci,.slice aa na ca] 37 (0,0)),.aH G1 W1]) (fun qO _=>es.length - (intOf qO).toNat)
   case atStart=>exact⟨0,by omega,rfl,hS⟩
   case round =>
    clear hS;obtain⟨k,hk,rfl,hS⟩:=hrel
    by_cases cW:k<es.length
    ·have dF:=eS sU jk (show k<rs.length by omega)
     have hE:=hEs5.el k cW;obtain⟨r,hr⟩:∃ r,nth jk rs k=r:=⟨_,rfl⟩;rw [hr] at dF hE;have x1:=bV.out _ (cQ ah es k cW);have x2:=(habn _ (cQ ah es k cW)).2;have x3:=hCe.out k cW;rw [← hE.a,← hE.b] at x1 x3;rw [← hE.b] at x2;obtain⟨x,hx⟩:∃ x,nth 0 C r.b=x:=⟨_,rfl⟩;rw [hx] at x3;have t1:decide ((r.a:Int)<0)=false:=decide_eq_false (by omega);have t2:decide ((V.length:Int)≤(r.b:Int))=false:=decide_eq_false (by omega);have t3:decide ((r.b:Int)≤(r.a:Int))=false:=decide_eq_false (by omega);have t5:decide (V.length≤r.b)=false:=decide_eq_false (by omega);have t6:decide (r.b≤r.a)=false:=decide_eq_false (by omega);have t4:((x:Int) != (x:Int))=false:=by simp
     have t7:(x != x)=false:=by simp
     clear hE hr
     go_wp2_with (with_reducible refine aU 1 hS isAgg26 ?_)
     refine dB [.p 0,.r 1,.p 2,.p 3,.p 4,.r 5,.p 6,.p 7,.p 8,.r 9,.p 10,.p 11,.p 12,.r 13,.p 14,.p 15,.p 16,.p 17,.p 18,.p 19,.r 20,.p 21,.p 22,.p 23,.r 24,.p 25,.r 26,.p 27,.p 28,.p 29,.r 30,.p 31,.p 32,.p 33,.p 34,.p 35,.r 36,.p 37,.p 38,.p 39,.r 40,.p 41,.r 42,.p 43,.p 44,.r 45,.p 46,.p 47,.p 48,.r 49,.p 50,.r 51,.p 52,.p 53] [] hS fun w1 hS=>?_
     repeat (with_reducible first|refine gm ?_|refine cZ 1 isAgg26 ?_|refine e9 underlying26 sizeOf45 hE5 dF fun bq oq bO=>?_|refine sixN underlying22 sizeOf3 fun _ _ _=>?_|refine eY isAgg3 ?_|refine pU 1 isAgg3 ?_|refine bU ?_)
     refine bE ?_;go_wp2;go_roundw
     case rel=>exact⟨k+1,by omega,by simp,hS⟩
     case measure=>simp [intOf];omega
    ·obtain rfl:es.length=k:=by omega
     have hE:=heu.out;have dF:=hCl;obtain⟨m,hm⟩:∃ m,mnQ V.length=m:=⟨_,rfl⟩;rw [hm] at hE jY ⊢;clear hm;have z1:IntKind.i64.wrap ((es.length:Int) - (V.length:Int))=(es.length:Int) - (V.length:Int):=w6;have z2:IntKind.i64.wrap ((es.length:Int) - (V.length:Int)+(m:Int))=(es.length:Int) - (V.length:Int)+(m:Int):=w6;have z3:IntKind.i64.wrap ((es.length:Int) - (V.length:Int)+(m:Int)+1)=(no:Int):=w7;have t1:((no:Int) == (no:Int))=true:=by simp
     clear hE dF
     go_wp2_with (with_reducible first|refine aU 3 hS isAgg22 ?_|refine aU 1 hS isAgg26 ?_|refine aU 1 hS isAgg25 ?_)
     refine (lives_any _).mono ?_;rintro e w9 ⟨rfl,hb9⟩;simp only [];go_wp2;have hpf:=hpE.out.step hS dE bM;go_ret;exact⟨rfl,hpf.pf.trans (hb9.mono hpf.pf.size)⟩
end Go.Proofs
namespace Go.Proofs
open Go.RowKit Go.Hp
theorem inI_of_wf {n:Int} (h:(Lit.int .i64 n).wf=true):bQ n:=bounds_i64 h
theorem spot_of_cell {w:World} {a:Addr} {u:Value} (h:w.cell? a=some u):a.spot=none:=by
 unfold World.cell? at h
 split at h
 ·split at h
  ·cases h
  ·rename_i hs
   cases dw:a.spot with
   | none=>rfl
   | some s=>rw [dw] at hs;simp at hs
 ·cases h
theorem ints_of_row {w:World} {a:Option Addr} {len cap:Nat} {zs:List Int}
 (h:(a=none∧len=0∧cap=0∧zs=[])∨∃ x,a=some x∧len≤cap∧cap≤maxLen∧zs.length=cap∧(∀ i,i<zs.length→w.cell? (x.add i)=some (.int .i64 (zs.getD i 0)))∧∀ n ∈ zs,(Lit.int .i64 n).wf=true) :
 Ints w (Old w) (.slice a len cap) (zs.take len):=by
 rcases h with ⟨rfl,rfl,rfl,rfl⟩|⟨x,rfl,hl,hm,hz,hcell,hwf⟩
 ·exact Ints.nil w _
 ·have hlen:(zs.take len).length=len:=by rw [List.length_take];omega
  have xH:0<zs.length→∀ j,x.add j=⟨x.block,x.off+j,none⟩:=fun hp j=>by
   have h0:=spot_of_cell (hcell 0 hp);have h1:x.spot=none:=by simpa [Addr.add] using h0
   unfold Addr.add
   split
   ·rename_i hj;subst hj;cases x;simp_all
   ·rfl
  refine⟨⟨by simp,some x,cap,by rw [hlen],by omega,hm,(fun e=>by cases e),fun ad e=>?_⟩,fun z hz'=>inI_of_wf (hwf z (List.mem_of_mem_take hz'))⟩;cases e
  have bJ:(zs.take len).map (Value.int .i64)≠[]→0<zs.length:=fun bJ=>by
   rcases Nat.eq_zero_or_pos zs.length with h|h
   ·exact absurd (by rw [List.eq_nil_of_length_eq_zero h];simp) bJ
   ·exact h
  refine⟨fun h=>?_,fun h=>?_,fun j u hu=>?_⟩
  ·have h0:=spot_of_cell (hcell 0 (bJ h))
   simpa [Addr.add] using h0
  ·have h0:=World.block_lt_of_cell? w _ (hcell 0 (bJ h))
   have h1:x.block<w.heap.size:=by simpa [Addr.add] using h0
   exact h1
  ·rw [List.getElem?_map,Option.map_eq_some_iff] at hu
   obtain⟨z,gS,rfl⟩:=hu;rw [List.getElem?_take] at gS
   split at gS
   ·have hj:j<zs.length:=(List.getElem?_eq_some_iff.1 gS).1
    have:=hcell j hj;rw [xH (by omega) j] at this;rw [this,List.getD_eq_getElem?_getD,gS]
    rfl
   ·cases gS
end Go.Proofs
namespace Go.Proofs.YtgaejkbkfoaaiaaGreat.facesEuler
open Go.ChangeShapes Go.WideShapes Go.ChangeAt Go.RowKit
open Go.ChangeMaps (open_string shut_string)
open Go.Hp
theorem own:ownKnob Tryz.prog.godebug=none:=by kernel_rfl
theorem laidOut:laidOutB Tryz.prog=true:=by kernel_rfl
def IsRow (k:IntKind) (w:World) (a:Option Addr) (len cap:Nat) (zs:List Int):Prop :=
 (a=none∧len=0∧cap=0∧zs=[]) ∨
 ∃ x,a=some x∧len≤cap∧cap≤maxLen∧zs.length=cap∧(∀ i,i<zs.length→w.cell? (x.add i)=some (.int k (zs.getD i 0)))∧∀ n ∈ zs,(Lit.int k n).wf=true
theorem walk (a0:Option Addr) (len0 cap0:Nat) (z0:List Int) (a1:Option Addr) (len1 cap1:Nat) (z1:List Int) (a2:Option Addr) (len2 cap2:Nat) (z2:List Int) (w:World) (w0:IsRow .i64 w a0 len0 cap0 z0) (w1:IsRow .i64 w a1 len1 cap1 z1) (w2:IsRow .i64 w a2 len2 cap2 z2) :
 Calls Tryz.prog 3 #[.slice a0 len0 cap0,.slice a1 len1 cap1,.slice a2 len2 cap2] w fun e w'=>e=.returned (.bool true)∧Below w.heap.size w w':=by
 exact euler_walk a0 a1 a2 len0 cap0 len1 cap1 len2 cap2 _ _ _ w (ints_of_row w0) (ints_of_row w1) (ints_of_row w2)
theorem lifted (os:Os) (started:os.Started) (H:Type) (enc:TypeId × Value→H) :
 ReturnsInHanded {} Tryz.checked os 3 .any (Rows.facesEulerSpec.pre6 enc Tryz.prog Tryz.f3 Rows.facesEulerRow.domain false) (Rows.facesEulerSpec.post enc Tryz.prog Tryz.f3 false true false false):=by
 refine returnsInHanded_of_change (C:=Tryz.checked) own started (by kernel_rfl) Tryz.func3
  (ChangeSpec.witness6 (enc:=enc) (C:=Tryz.checked) false ⟨#[],#[.slice none 0 0,.slice none 0 0,.slice none 0 0],[]⟩ 8 (by kernel_rfl) (by kernel_rfl) (by kernel_rfl) (by kernel_rfl)) ?_
 intro W base args ds gs before hval0 hW hcnd _;have hval:∀ (j:Nat) t v,Tryz.f3.params[j]? = some t→args[j]? = some v→Value.okWide Tryz.prog W .any base t v:=hval0;have hW':=hW;obtain⟨p,q,hA0,hV,rfl,hfz,hnd⟩:=hW;have hA:DataW.TrodAll enc Tryz.prog W 0 (fun _=>true) true Tryz.f3.params.toList args.toList ds p:=hA0;rw [Tryz.params3] at hA hval;obtain⟨v0,vs0,d0,ds0,p0,q0,hargs,rfl,rfl,h0,r0⟩:=trodAll_cons hA;obtain⟨v1,vs1,d1,ds1,p1,q1,rfl,rfl,rfl,h1,r1⟩:=trodAll_cons r0;obtain⟨v2,vs2,d2,ds2,p2,q2,rfl,rfl,rfl,h2,r2⟩:=trodAll_cons r1;obtain⟨rfl,rfl,rfl⟩:=trodAll_nil r2;obtain rfl:args=#[v0,v1,v2]:=by cases args;simp_all
 obtain⟨rfl,rfl⟩:=trodVars_none hV;obtain⟨a0,len0,cap0,rfl⟩:=okWide_slice Tryz.underlying22 (hval 0 22 v0 rfl rfl);have k0:=h0;have lt0:∀ x ∈ p0,x.block<W.heap.size:=by obtain⟨m,hm⟩:=k0;exact DataW.trod_lt m _ _ _ hm
 obtain⟨z0,w0⟩:∃ zs,IsRow .i64 W a0 len0 cap0 zs:=by
  obtain⟨fuel,hf⟩:=h0
  rcases open_ints Tryz.underlying22 Tryz.underlying3 (by kernel_rfl) hf with ⟨hcs,_⟩|⟨x,l,c,zs,hcs,_,hl,hm,hz,_,hcell,hwz⟩
  ·simp [Value.cells] at hcs
   obtain⟨rfl,rfl,rfl⟩:=hcs;exact⟨[],.inl ⟨rfl,rfl,rfl,rfl⟩⟩
  ·simp [Value.cells] at hcs
   obtain⟨rfl,rfl,rfl⟩:=hcs;exact⟨zs,.inr ⟨_,rfl,hl,hm,by simpa using hz,hcell,hwz⟩⟩
 obtain⟨a1,len1,cap1,rfl⟩:=okWide_slice Tryz.underlying22 (hval 1 22 v1 rfl rfl);have k1:=h1;have lt1:∀ x ∈ p1,x.block<W.heap.size:=by obtain⟨m,hm⟩:=k1;exact DataW.trod_lt m _ _ _ hm
 obtain⟨z1,w1⟩:∃ zs,IsRow .i64 W a1 len1 cap1 zs:=by
  obtain⟨fuel,hf⟩:=h1
  rcases open_ints Tryz.underlying22 Tryz.underlying3 (by kernel_rfl) hf with ⟨hcs,_⟩|⟨x,l,c,zs,hcs,_,hl,hm,hz,_,hcell,hwz⟩
  ·simp [Value.cells] at hcs
   obtain⟨rfl,rfl,rfl⟩:=hcs;exact⟨[],.inl ⟨rfl,rfl,rfl,rfl⟩⟩
  ·simp [Value.cells] at hcs
   obtain⟨rfl,rfl,rfl⟩:=hcs;exact⟨zs,.inr ⟨_,rfl,hl,hm,by simpa using hz,hcell,hwz⟩⟩
 obtain⟨a2,len2,cap2,rfl⟩:=okWide_slice Tryz.underlying22 (hval 2 22 v2 rfl rfl);have k2:=h2;have lK:∀ x ∈ p2,x.block<W.heap.size:=by obtain⟨m,hm⟩:=k2;exact DataW.trod_lt m _ _ _ hm
 obtain⟨z2,w2⟩:∃ zs,IsRow .i64 W a2 len2 cap2 zs:=by
  obtain⟨fuel,hf⟩:=h2
  rcases open_ints Tryz.underlying22 Tryz.underlying3 (by kernel_rfl) hf with ⟨hcs,_⟩|⟨x,l,c,zs,hcs,_,hl,hm,hz,_,hcell,hwz⟩
  ·simp [Value.cells] at hcs
   obtain⟨rfl,rfl,rfl⟩:=hcs;exact⟨[],.inl ⟨rfl,rfl,rfl,rfl⟩⟩
  ·simp [Value.cells] at hcs
   obtain⟨rfl,rfl,rfl⟩:=hcs;exact⟨zs,.inr ⟨_,rfl,hl,hm,by simpa using hz,hcell,hwz⟩⟩
 clear hA0 hval0;refine (walk a0 len0 cap0 z0 a1 len1 cap1 z1 a2 len2 cap2 z2 W w0 w1 w2).mono fun e W' ⟨he,nI⟩=>?_
 subst he;exact⟨_,rfl,_,_,_,[],_,[],hW',trodAll_mk1 (shut_bool Tryz.underlying4 _),(trodAll_cons_mk (Below.trod laidOut (by kernel_rfl) (of_decide_eq_true (by kernel_rfl)) k0 nI lt0) (trodAll_cons_mk (Below.trod laidOut (by kernel_rfl) (of_decide_eq_true (by kernel_rfl)) k1 nI lt1) (trodAll_cons_mk (Below.trod laidOut (by kernel_rfl) (of_decide_eq_true (by kernel_rfl)) k2 nI lK) trodAll_mk0))),rfl,nI.frame _,fun h=>by cases h⟩
theorem over:Rows.facesEulerRow.holds Tryz.pinned (OpenSpec.ofChange Rows.facesEulerSpec) :=
 OpenClaim.holds_of_wide 3 Tryz.f3 rfl rfl rfl rfl rfl rfl rfl ⟨rfl,rfl,rfl,rfl,rfl⟩ rfl rfl rfl rfl rfl (by kernel_rfl) Tryz.func3 (by kernel_rfl)
  (of_decide_eq_true (by kernel_rfl)) (by unfold Func.isWrapper;first|(rw [if_pos (by decide +kernel)];kernel_rfl)|(rw [if_neg (by decide +kernel)];exact⟨rfl,rfl⟩))
  (fun os started H enc _=>lifted os started H enc)
theorem proved:Rows.FacesEulerSaid:=over
#print axioms proved
end Go.Proofs.YtgaejkbkfoaaiaaGreat.facesEuler
