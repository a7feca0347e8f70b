/- Texts for the walk of the law: MU. -/
import Derived.Test.YtjeofihncbegfaaGreatQ51
set_option maxRecDepth 100000
set_option maxHeartbeats 16000000
set_option linter.unusedVariables false
set_option linter.unusedSimpArgs false
namespace Go.Proofs
open Go.Proofs.Tryz
open Go.RowKit Go.Hp
theorem nbs_inI {L:List Int} {m:Nat} (hL:L.length=2*m) (h:∀ x ∈ L,InI x) (f:Int):∀ x ∈ nbs L f,InI x:=fun x hx=>by
 obtain⟨k,hk,_,_,rfl⟩:=(mem_nbs L f x).1 hx;exact h _ (nth_mem 0 L _ (by rw [hL] at hk ⊢;exact tw_lt hk))
theorem mutual_walk (al am ap:Option Addr) (nl cl nm cm np cp:Nat) (xl xm xp:List Int) (w:World) (hl:Ints w (Old w) (.slice al nl cl) xl) (hm:Ints w (Old w) (.slice am nm cm) xm) (hp:Ints w (Old w) (.slice ap np cp) xp) :
 Calls Tryz.prog 5 #[.slice al nl cl,.slice am nm cm,.slice ap np cp] w fun e w'=>e=.returned (.bool true)∧Below w.heap.size w w':=by
 have hS:=Heap.startD w;have hD0:=nd_drawn w;have hp0:=Pure.startD w (Old w);have hO0:=fun k (h:Old w k)=>h
 have hF0:=fun k (h:Old w k)=>h
 go_enter func5,ntmps5
 go_wp2_with (fail)
 refine (made_any al am ap nl cl nm cm np cp xl xm xp _ hl hm hp).mono ?_;rintro e w1 ⟨os,gs,V,es,⟨a1,n1,c1⟩,⟨a2,n2,c2⟩,⟨a3,n3,c3⟩,⟨a4,n4,c4⟩,⟨b1,m1,d1⟩,⟨b2,m2,d2⟩,⟨b3,m3,d3⟩,⟨b4,m4,d4⟩,S1,rfl,hgen,hq,hL1,hA,hP⟩;have hos:∀ t ∈ os,t.ok:=fun t ht=>(hgen.hos t ht).1
 have hgs:∀ g ∈ gs,g.ok:=fun g hg=>(hgen.hgs g hg).1
 obtain⟨rs,prs,hAI⟩:=hP.arrIn hos hgs hL1 hA;obtain⟨hdir,hne⟩:=ArrP.dirs hP hos;have hvl:=hP.vlen;have hel:=hP.elen;have hV:=hP.arr.sv;have hlo:=hgen.lo;have hlg:=hgen.lg
 have hvl2:V.length≤628:=by
  have:os.length*os.length≤24*24:=Nat.mul_le_mul hlo hlo;omega
 have hel2:es.length≤15072:=by
  have:os.length*V.length≤24*628:=Nat.mul_le_mul hlo hvl2;omega
 clear hvl hel hlo hlg hgen hA hP hos hgs;replace hS:=hS.pcl hF0 hO0 hp0 hq;obtain⟨F1,hF1,-,hp1,hO1,hS⟩:=hS;simp only [sv]
 go_wp2_with (with_reducible first|refine alA hS zeroValue28 fun b7 wb7 hS=>?_|refine alA hS zeroValue32 fun b8 wb8 hS=>?_|refine stA 1 hS sizeOf28 fun _ hS=>?_|refine stA 2 hS sizeOf32 fun _ hS=>?_|refine ldA 1 hS isAgg28 sizeOf28 ?_)
 refine (fnew_any a1 a2 a3 a4 n1 c1 n2 c2 n3 c3 n4 c4 rs es prs V 300 _ S1 (hAI.at hS hF1) (by decide) hdir hne hV (by omega) (by omega)).mono ?_;rintro e w3 ⟨RL,⟨an,nn,cn⟩,⟨aL,nL,cL⟩,⟨ao,no,co⟩,⟨ai,ni,ci⟩,⟨aa,na,ca⟩,S3,rfl,hRl,hRL,hq3,hL3,hF⟩;have hxk:=faceIn_ok (out:=fun v=>outL es (nth [] RL v)) hV hAI.ab (RLok.of hne hRl hRL) (fun v _ h=>outL_mem h);have hg:=hxk.good;obtain⟨f,hf⟩:∃ f,(faceIn V es RL fun v=>outL es (nth [] RL v)).fr=f:=⟨_,rfl⟩;rw [hf] at hg hF;replace hg:FGood es.length V.length (orgE es) (fun v=>decide (nth [] RL v≠[])) f:=hg;have hn3:=hAI.n3;have hn4:=hAI.n4;clear hxk hf hRl hRL hAI;have hp2:=(hp1.step hS hO1 hF1).transN hD0 hq3;obtain⟨F3,hF3,hOO3,hS3⟩:=hS.pcallN hD0 hF1 hq3;have hO3:=fun k h=>hOO3 k (hO1 k h)
 clear hS;have hS:=hS3;clear hS3 hOO3 hq3 hp1 hO1 hF1 hq hL1 hp0 hO0 hF0;subst hn3 hn4;simp only [sv];have w2:IntKind.i64.wrap (2*(es.length:Int))=2*(es.length:Int):=Go.Hp.w6
 go_wp2_with (with_reducible first|refine alA hS zeroValue37 fun b10 wb10 hS=>?_|refine stA 3 hS sizeOf37 fun _ hS=>?_|refine ldA 3 hS isAgg37 sizeOf37 ?_|refine ldB 1 hS isAgg26 ?_|refine ldB 1 hS isAgg25 ?_)
 have e2:((2*es.length:Nat):Int)=2*(es.length:Int):=by omega
 have hgd:=good_any (an,nn,cn) (aL,nL,cL) (ao,no,co) (ai,ni,ci) (aa,na,ca) f es.length V.length (2*es.length) _ _ _ ((hF.at hS hF3).old) hg rfl (by omega) (by omega);rw [e2] at hgd;refine hgd.mono ?_;clear hgd e2;rintro e w4 ⟨rfl,hq4⟩;replace hS:=hS.belowD hD0 hq4.below;clear hq4;simp only [];have hLf:Ints w3 F3 (.slice aL nL cL) f.L:=Ints.weaken hF.l hF3;have hOl:no=f.O.length:=Ints.len hF.o;have hnL:nL=2*es.length:=by rw [hLf.len,hg.llen]
 have hLl:=hg.llen;have hole:=hg.olen;have hnb:=fun (face:Int) (w':World) (h0:0≤face) (h1:face<(no:Int)) (h:Ints w' (Old w') (.slice aL nL cL) f.L)=>neighbours_any f.L es.length hLl (by omega) face an aL ao ai aa nn cn nL cL no co ni ci na ca h0 h1 w' h
 have hin:=fun (face:Int)=>nbs_inI hLl hLf.2 face
 have hsy:=fun (a b:Int)=>nbs_symm hLl a b
 have hnr:=fun (a b:Int) (h:a≠b)=>near_iff hLl h
 have hsf:=fun (a:Int)=>nbs_self f.L a
 subst hnL;obtain⟨M,hM⟩:∃ M,es.length=M:=⟨_,rfl⟩;rw [hM] at hS hnr hole hnb hLf hLl hel2 w2;have hpE:=Hd hp2;replace hin:=Hd hin;replace hsy:=Hd hsy;replace hnr:=Hd hnr;replace hsf:=Hd hsf;replace hnb:=Hd hnb;replace hM:=Hd hM;clear hF hg hdir hne hV hp2;obtain⟨L,hL⟩:∃ L,f.L=L:=⟨_,rfl⟩;rw [hL] at hin hsy hnr hsf hnb hLf hLl;rw [← hOl] at hole;clear hL hOl;go_wp2
 go_loopw [12] (fun v12 wr=>∃ i:Nat,v12=.int .i64 (i:Int)∧Heap (nd w) wr [.frz F3 w3,.blk b7 (.cells #[.slice a1 n1 c1,.slice a2 n2 c2,.slice a3 V.length c3,.slice a4 M c4] 28 (0,0)),.blk b8 (.cells #[.slice b1 m1 d1,.slice b2 m2 d2,.slice b3 m3 d3,.slice b4 m4 d4] 32 (0,0)),.blk b10 (.cells #[.slice an nn cn,.slice aL (2*M) cL,.slice ao no co,.slice ai ni ci,.slice aa na ca] 37 (0,0))]) (fun v12 _=>no - (intOf v12).toNat)
 case atStart=>exact⟨0,rfl,hS⟩
 case round =>
  clear hS;obtain⟨i,rfl,hS⟩:=hrel
  by_cases hil:i<no
  ·go_wp2_with (with_reducible first|refine ldB 3 hS isAgg22 ?_|refine ldA 3 hS isAgg37 sizeOf37 ?_)
   refine (hnb.out (i:Int) _ (by omega) (by omega) (Ints.old (hLf.move (hS.keep (fun k h=>h))))).mono ?_;rintro e w5 ⟨ad,c,rfl,hS1⟩;replace hS:=hS.import hS1;simp only [NRH] at hS;clear hS1;have hX:=Ints.intro (hS.rowSl 4 rfl) (hin.out (i:Int));have hd:decide ((i:Int) ∈ nbs L (i:Int))=false:=by simpa using hsf.out (i:Int)
   simp only []
   go_wp2_with (fail)
   refine (has_any ad _ c (nbs L (i:Int)) (i:Int) _ (Ints.old hX)).mono ?_;rintro e w6 ⟨rfl,rfl⟩;simp only [hd];clear hX;go_wp2
   go_loopw [15] (fun v15 wr=>∃ k:Nat,v15=.int .i64 (k:Int)∧Heap (nd w) wr [.frz F3 w3,.blk b7 (.cells #[.slice a1 n1 c1,.slice a2 n2 c2,.slice a3 V.length c3,.slice a4 M c4] 28 (0,0)),.blk b8 (.cells #[.slice b1 m1 d1,.slice b2 m2 d2,.slice b3 m3 d3,.slice b4 m4 d4] 32 (0,0)),.blk b10 (.cells #[.slice an nn cn,.slice aL (2*M) cL,.slice ao no co,.slice ai ni ci,.slice aa na ca] 37 (0,0)),.row (.slice ad (nbs L (i:Int)).length c) 3 1 (nbs L (i:Int)).length (iv (nbs L (i:Int)))]) (fun v15 _=>no - (intOf v15).toNat)
   case atStart=>exact⟨0,rfl,hS⟩
   case round =>
    clear hS;obtain⟨k,rfl,hS⟩:=hrel
    by_cases hkl:k<no
    ·go_wp2_with (with_reducible first|refine ldB 3 hS isAgg22 ?_|refine ldA 3 hS isAgg37 sizeOf37 ?_)
     refine (hnb.out (k:Int) _ (by omega) (by omega) (Ints.old (hLf.move (hS.keep (fun k h=>h))))).mono ?_;rintro e w7 ⟨ad2,c2',rfl,hS1⟩;replace hS:=hS.import hS1;simp only [NRH] at hS;clear hS1;simp only [];go_wp2
     go_loopw [18,19] (fun v18 v19 wr=>∃ e:Nat,e≤M∧v18=.bool (nearTo L (i:Int) (k:Int) e)∧v19=.int .i64 (e:Int)∧Heap (nd w) wr [.frz F3 w3,.blk b7 (.cells #[.slice a1 n1 c1,.slice a2 n2 c2,.slice a3 V.length c3,.slice a4 M c4] 28 (0,0)),.blk b8 (.cells #[.slice b1 m1 d1,.slice b2 m2 d2,.slice b3 m3 d3,.slice b4 m4 d4] 32 (0,0)),.blk b10 (.cells #[.slice an nn cn,.slice aL (2*M) cL,.slice ao no co,.slice ai ni ci,.slice aa na ca] 37 (0,0)),.row (.slice ad (nbs L (i:Int)).length c) 3 1 (nbs L (i:Int)).length (iv (nbs L (i:Int))),.row (.slice ad2 (nbs L (k:Int)).length c2') 3 1 (nbs L (k:Int)).length (iv (nbs L (k:Int)))]) (fun _ v19 _=>M - (intOf v19).toNat)
     case atStart=>exact⟨0,by omega,rfl,rfl,hS⟩
     case round =>
      clear hS;obtain⟨e,he,rfl,rfl,hS⟩:=hrel
      by_cases hel3:e<M
      ·have hst:nearTo L (i:Int) (k:Int) (e+1)=(nearTo L (i:Int) (k:Int) e || (decide (nth 0 L (2*e)=(i:Int)) && decide (nth 0 L (2*e+1)=(k:Int))) || (decide (nth 0 L (2*e)=(k:Int)) && decide (nth 0 L (2*e+1)=(i:Int)))):=rfl
       have z1:(2*(e:Int)).toNat=2*e:=by omega
       have z2:(2*(e:Int)+1).toNat=2*e+1:=by omega
       have z3:IntKind.i64.wrap (2*(e:Int))=2*(e:Int):=Go.Hp.w6;have z4:IntKind.i64.wrap (2*(e:Int)+1)=2*(e:Int)+1:=Go.Hp.w6;obtain⟨nr,hnr0⟩:∃ nr,nearTo L (i:Int) (k:Int) e=nr:=⟨_,rfl⟩;have hbe:∀ x y:Int,decide (x=y)=(x == y):=fun x y=>by by_cases h:x=y <;> simp [h]
       simp only [hbe] at hst;rw [hnr0] at hst;rw [hnr0];replace hnr0:=Hd hnr0;clear hbe;obtain⟨q1,h1⟩:∃ q,(nth 0 L (2*e) == (i:Int))=q:=⟨_,rfl⟩;obtain⟨q2,h2⟩:∃ q,(nth 0 L (2*e+1) == (k:Int))=q:=⟨_,rfl⟩;obtain⟨q3,h3⟩:∃ q,(nth 0 L (2*e) == (k:Int))=q:=⟨_,rfl⟩;obtain⟨q4,h4⟩:∃ q,(nth 0 L (2*e+1) == (i:Int))=q:=⟨_,rfl⟩;rw [h1,h2,h3,h4] at hst;cases nr with
       | true =>
        replace hst:=Hd hst;clear h1 h2 h3 h4
        go_wp2_with (with_reducible refine ldB 1 hS isAgg26 ?_)
        go_roundw
        case rel=>exact⟨e+1,by omega,by rw [hst.out];rfl,by simp,hS⟩
        case measure=>simp [intOf];omega
       | false =>
        cases q1 with
        | true =>
         cases q2 with
         | true =>
          replace hst:=Hd hst
          go_wp2_with (with_reducible first|refine ldB 1 hS isAgg26 ?_|refine ldB 3 hS isAgg22 ?_|refine ixI underlying22 sizeOf3 fun _ _ _=>?_|refine ld0 hS isAgg3 ?_)
          go_roundw
          case rel=>exact⟨e+1,by omega,by rw [hst.out];rfl,by simp,hS⟩
          case measure=>simp [intOf];omega
         | false =>
          cases q3 with
          | true =>
           cases q4 with
           | true =>
            replace hst:=Hd hst
            go_wp2_with (with_reducible first|refine ldB 1 hS isAgg26 ?_|refine ldB 3 hS isAgg22 ?_|refine ixI underlying22 sizeOf3 fun _ _ _=>?_|refine ld0 hS isAgg3 ?_)
            go_roundw
            case rel=>exact⟨e+1,by omega,by rw [hst.out];rfl,by simp,hS⟩
            case measure=>simp [intOf];omega
           | false =>
            replace hst:=Hd hst
            go_wp2_with (with_reducible first|refine ldB 1 hS isAgg26 ?_|refine ldB 3 hS isAgg22 ?_|refine ixI underlying22 sizeOf3 fun _ _ _=>?_|refine ld0 hS isAgg3 ?_)
            go_roundw
            case rel=>exact⟨e+1,by omega,by rw [hst.out];rfl,by simp,hS⟩
            case measure=>simp [intOf];omega
          | false =>
           replace hst:=Hd hst
           go_wp2_with (with_reducible first|refine ldB 1 hS isAgg26 ?_|refine ldB 3 hS isAgg22 ?_|refine ixI underlying22 sizeOf3 fun _ _ _=>?_|refine ld0 hS isAgg3 ?_)
           go_roundw
           case rel=>exact⟨e+1,by omega,by rw [hst.out];rfl,by simp,hS⟩
           case measure=>simp [intOf];omega
        | false =>
         cases q3 with
         | true =>
          cases q4 with
          | true =>
           replace hst:=Hd hst
           go_wp2_with (with_reducible first|refine ldB 1 hS isAgg26 ?_|refine ldB 3 hS isAgg22 ?_|refine ixI underlying22 sizeOf3 fun _ _ _=>?_|refine ld0 hS isAgg3 ?_)
           go_roundw
           case rel=>exact⟨e+1,by omega,by rw [hst.out];rfl,by simp,hS⟩
           case measure=>simp [intOf];omega
          | false =>
           replace hst:=Hd hst
           go_wp2_with (with_reducible first|refine ldB 1 hS isAgg26 ?_|refine ldB 3 hS isAgg22 ?_|refine ixI underlying22 sizeOf3 fun _ _ _=>?_|refine ld0 hS isAgg3 ?_)
           go_roundw
           case rel=>exact⟨e+1,by omega,by rw [hst.out];rfl,by simp,hS⟩
           case measure=>simp [intOf];omega
         | false =>
          replace hst:=Hd hst
          go_wp2_with (with_reducible first|refine ldB 1 hS isAgg26 ?_|refine ldB 3 hS isAgg22 ?_|refine ixI underlying22 sizeOf3 fun _ _ _=>?_|refine ld0 hS isAgg3 ?_)
          go_roundw
          case rel=>exact⟨e+1,by omega,by rw [hst.out];rfl,by simp,hS⟩
          case measure=>simp [intOf];omega
      ·obtain rfl:M=e:=by omega
       have hX:=Ints.intro (hS.rowSl 4 rfl) (hin.out (i:Int));have hY:=Ints.intro (hS.rowSl 5 rfl) (hin.out (k:Int));obtain⟨B,hB⟩:∃ B,decide ((k:Int) ∈ nbs L (i:Int))=B:=⟨_,rfl⟩;have hB2:decide ((i:Int) ∈ nbs L (k:Int))=B:=by rw [← hB];exact decide_eq_decide.2 (hsy.out (k:Int) (i:Int))
       have x1:=fun w' h=>has_any ad (nbs L (i:Int)).length c (nbs L (i:Int)) (k:Int) w' h
       have x2:=fun w' h=>has_any ad2 (nbs L (k:Int)).length c2' (nbs L (k:Int)) (i:Int) w' h
       simp only [hB] at x1;simp only [hB2] at x2;have hnrB:i≠k→nearTo L (i:Int) (k:Int) M=B:=fun h=>by rw [hnr.out _ _ (by omega)];exact hB
       obtain⟨N,hN⟩:∃ N,nearTo L (i:Int) (k:Int) M=N:=⟨_,rfl⟩;rw [hN] at hnrB;rw [hN];clear hB hB2 hN
       go_wp2_with (with_reducible refine ldB 1 hS isAgg26 ?_)
       refine (x1 _ (Ints.old hX)).mono ?_;rintro e w8 ⟨rfl,rfl⟩;simp only []
       go_wp2_with (fail)
       refine (x2 _ (Ints.old hY)).mono ?_;rintro e w8 ⟨rfl,rfl⟩;simp only []
       by_cases hik:i=k
       ·have dk:((i:Int) != (k:Int))=false:=by simp [hik]
        have dk2:(i != k)=false:=by simp [hik]
        have dk3:((i:Int) == (k:Int))=true:=by simp [hik]
        replace hik:=Hd hik;clear hnrB x1 x2;cases B with
        | true =>
         go_wp2;go_roundw
         case rel=>exact⟨k+1,by simp,hS.sb⟩
         case measure=>simp [intOf];omega
        | false =>
         go_wp2;go_roundw
         case rel=>exact⟨k+1,by simp,hS.sb⟩
         case measure=>simp [intOf];omega
       ·have dk:((i:Int) != (k:Int))=true:=by simp;omega
        have dk2:(i != k)=true:=by simp [hik]
        have dk3:((i:Int) == (k:Int))=false:=by simp;omega
        obtain rfl:=hnrB hik;clear hnrB;replace hik:=Hd hik;cases N with
        | true =>
         go_wp2_with (fail)
         refine (x1 _ (Ints.old hX)).mono ?_;rintro e w8 ⟨rfl,rfl⟩;simp only [];go_wp2;go_roundw
         case rel=>exact⟨k+1,by simp,hS.sb⟩
         case measure=>simp [intOf];omega
        | false =>
         go_wp2_with (fail)
         refine (x1 _ (Ints.old hX)).mono ?_;rintro e w8 ⟨rfl,rfl⟩;simp only [];go_wp2;go_roundw
         case rel=>exact⟨k+1,by simp,hS.sb⟩
         case measure=>simp [intOf];omega
    ·go_wp2_with (with_reducible refine ldB 3 hS isAgg22 ?_)
     go_roundw
     case rel=>exact⟨i+1,by simp,hS.sb⟩
     case measure=>simp [intOf];omega
  ·go_wp2_with (with_reducible refine ldB 3 hS isAgg22 ?_)
   refine (lives_any _).mono ?_;rintro e w9 ⟨rfl,hb9⟩;simp only [];go_wp2;have hpf:=hpE.out.step hS hO3 hF3;go_ret;exact⟨rfl,hpf.below0.trans (hb9.mono hpf.below0.size)⟩
end Go.Proofs
