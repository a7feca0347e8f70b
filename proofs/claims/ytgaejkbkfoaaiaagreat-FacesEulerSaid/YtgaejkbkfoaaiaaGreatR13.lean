/- Texts for the walk of the law: M12 M14 MG MH KC2 KRb FV FU NB LW GE GF M1 M2 M3 M4 M5. -/
import Derived.Deep.DeepCutAuto
import Derived.Test.YtgaejkbkfoaaiaaGreatR12
import Derived.Shelf.Slices.CompactI
import Derived.Ground.Names2Prog
set_option maxRecDepth 100000
set_option maxHeartbeats 16000000
set_option linter.unusedVariables false
set_option linter.unusedSimpArgs false
namespace Go.Hp
open Go Go.RowKit Go.Proofs.Tryz
def Gp.gP (b:Int) (g:Gp):Prop:=(0≤g.x∧g.x≤b)∧0≤g.y∧g.y≤b
def a9G (os:List Sz):Prop:=∀ s ∈ os,s.a.gP (32+2*os.length)∧s.b.gP (32+2*os.length)∧s.a≠s.b
theorem aKy {os:List Sz} {i:Nat} {s:Sz} (hi:i<os.length) (hs:nth s0 os i=s):((os.flatMap sc).drop (i*4)).take 4=sc s∧((os.flatMap sc).drop (i*4)).take 2=gc s.a∧((os.flatMap sc).drop (i*4+2)).take 2=gc s.b:=by
 have hc:=eS tc s0 hi;rw [hs] at hc;refine⟨hc,?_,?_⟩
 ·have:((os.flatMap sc).drop (i*4)).take 2=(((os.flatMap sc).drop (i*4)).take 4).take 2:=by rw [List.take_take];rfl
  rw [this,hc];rfl
 ·have:((os.flatMap sc).drop (i*4+2)).take 2=((((os.flatMap sc).drop (i*4)).take 4).drop 2).take 2:=by
   rw [List.drop_take,List.drop_drop,List.take_take];rfl
  rw [this,hc];rfl
theorem aR3 (a:Option Addr) (n c m:Nat) (xs:List Int) (w:World) (hx:Ints w (Old w) (.slice a n c) xs) (hm:m≤10) :
 Calls prog 16 #[.slice a n c,.int .i64 (m:Int)] w fun e w'=>∃ (os:List Sz) (ad:Option Addr) (c2:Nat),e=.returned (.slice ad os.length c2)∧a9G os∧os.length≤m∧aA w w' [.aH (Old w) w,.row (.slice ad os.length c2) 94 4 os.length (os.flatMap sc)]:=by
 have hn:=hx.len;subst hn;have hle:=hx.le;have hS:=(aA.start w).iB 94 4;simp only [aK] at hS
 go_enter func16,ntmps16
 go_wp2
 go_loopw [5,6] (fun v5 v6 wr=>∃ (k:Nat) (os:List Sz) (ad:Option Addr) (c2:Nat),k≤xs.length∧os.length≤m∧v6=.int .i64 (k:Int)∧v5=.slice ad os.length c2∧a9G os∧aA w wr [.aH (Old w) w,.row (.slice ad os.length c2) 94 4 os.length (os.flatMap sc)]) (fun _ v6 _=>xs.length - (intOf v6).toNat)
 case atStart=>exact⟨0,[],none,0,by omega,by simp,rfl,rfl,(by intro s hs;cases hs),hS⟩
 case round =>
  clear hS;obtain⟨k,os,ad,c2,hk,hom,rfl,rfl,db,hS⟩:=hrel
  by_cases aW:k<xs.length
  ·by_cases hlm:os.length<m
   ·have hg:=hx.getD k
    have ar:=fun w=>a2Z (nth 0 xs k) 1048576 w (by decide) (by decide) hg
    have bV:=a3d (nth 0 xs k) (show (1:Int)≤1048576 by decide);obtain⟨z,hz⟩:∃ z,o5 (nth 0 xs k) 1048576=z:=⟨_,rfl⟩;simp only [hz] at ar;rw [hz] at bV;obtain⟨z0,z1⟩:=bV;clear hz hg;have q1:z.tdiv 16=z / 16:=Int.tdiv_eq_ediv_of_nonneg z0;have q2:z.tmod 4096=z % 4096:=Int.tmod_eq_emod_of_nonneg z0;have w1:IntKind.i64.wrap (z / 16)=z / 16:=w6;have w2:IntKind.i64.wrap (z % 4096)=z % 4096:=w6;have w3:IntKind.i64.wrap (z / 16+z % 4096)=z / 16+z % 4096:=w6;have g1:=fun w=>a4e (z / 16) w (by unfold bQ;omega)
    have g2:=fun w=>a4e (z / 16+z % 4096) w (by unfold bQ;omega)
    have u1:=a7k (z / 16);have u2:=a7k (z / 16+z % 4096);obtain⟨p,hp⟩:∃ p,og (z / 16)=p:=⟨_,rfl⟩;obtain⟨q,hq⟩:∃ q,og (z / 16+z % 4096)=q:=⟨_,rfl⟩;simp only [hp] at g1 u1;simp only [hq] at g2 u2;clear hp hq
    go_wp2_with (with_reducible first|refine sV underlying22 sizeOf3 fun _ _ _=>?_|refine fP hS isAgg3 ?_)
    refine (ar _).mono ?_;rintro e w5 ⟨rfl,rfl⟩;simp only []
    go_wp2_with (fail)
    refine (g1 _).mono ?_;rintro e w5 ⟨rfl,hq⟩;have hS:=hS.below hq.below hq.drawn;simp only []
    go_wp2_with (with_reducible first|refine bH hS zeroValue43 fun b8 xe hS=>?_|refine aJ (u:=.agg #[_,_]) 2 hS sizeOf43 fun _ hS=>?_)
    refine (g2 _).mono ?_;rintro e w5 ⟨rfl,hq⟩;have hS:=hS.below hq.below hq.drawn;simp only [];obtain⟨N,hN⟩:∃ N,os.length=N:=⟨_,rfl⟩;rw [hN] at hS hlm hom;rw [hN];obtain⟨B,hB⟩:∃ B:Int,B=32+2*(N:Int):=⟨_,rfl⟩;have aYX:32≤B∧B≤100:=by omega
    replace db:=Hd db;have r16:z.tmod 16=z % 16:=Int.tmod_eq_emod_of_nonneg z0;have r8:z.tmod 8=z % 8:=Int.tmod_eq_emod_of_nonneg z0;have r4:z.tmod 4=z % 4:=Int.tmod_eq_emod_of_nonneg z0;have v16:IntKind.i64.wrap (z % 16)=z % 16:=w6;have v8:IntKind.i64.wrap (z % 8)=z % 8:=w6;have v4:IntKind.i64.wrap (z % 4)=z % 4:=w6;have hp:p.gP B:=by unfold Gp.gP;omega
    have hq:q.gP B:=by unfold Gp.gP;omega
    by_cases l0:N=0
    ·subst l0
     go_upto_if 113 with (with_reducible first|refine bH hS zeroValue43 fun b9 xX hS=>?_|refine aJ (u:=.agg #[_,_]) 3 hS sizeOf43 fun _ hS=>?_)
     go_cut [] (fun wx=>∃ p q:Gp,p.gP B∧q.gP B∧aA w wx [.aH (Old w) w,.row (.slice (ad) (0) c2) 94 4 (0) (os.flatMap sc),.aB b8 (.cells #[.int .i64 p.x,.int .i64 p.y] 43 (0,0)),.aB b9 (.cells #[.int .i64 q.x,.int .i64 q.y] 43 (0,0))])
     case first =>
      by_cases c7:z % 16=7
      ·have c7b:(z % 16 == 7)=true:=by simpa using c7
       go_wp2_with (with_reducible first|refine aU 2 hS isAgg3 ?_|refine aJ (u:=.int .i64 _) 3 hS sizeOf3 fun _ hS=>?_)
       go_meet
       case rel=>exact⟨p,⟨q.x,p.y⟩,hp,⟨hq.1,hp.2⟩,hS⟩
      ·have c7b:(z % 16 == 7)=false:=by simpa using c7
       go_wp2_with (fail)
       go_meet
       case rel=>exact⟨p,q,hp,hq,hS⟩
     case rest =>
      clear hS;obtain⟨p,q,hp,hq,hS⟩:=hcut;have HE:∀ w,(Op.equalIn 10000 43 (.agg #[.int .i64 p.x,.int .i64 p.y]) (.agg #[.int .i64 q.x,.int .i64 q.y])).run prog w=.ok (decide (p=q)) w:=fun w=>pv p q w
      go_upto_if 119 with (with_reducible first|refine bA 2 hS isAgg43 sizeOf43 ?_|refine bA 3 hS isAgg43 sizeOf43 ?_)
      go_cut [] (fun wx=>∃ p q:Gp,p.gP (B+2)∧q.gP (B+2)∧p≠q∧aA w wx [.aH (Old w) w,.row (.slice (ad) (0) c2) 94 4 (0) (os.flatMap sc),.aB b8 (.cells #[.int .i64 p.x,.int .i64 p.y] 43 (0,0)),.aB b9 (.cells #[.int .i64 q.x,.int .i64 q.y] 43 (0,0))])
      case first =>
       unfold Gp.gP at hp hq
       by_cases ce:p=q
       ·subst ce
        have cb:decide (p=p)=true:=by simp
        have x1:IntKind.i64.wrap (p.x+1)=p.x+1:=w6;have x2:z.tmod 3=z % 3:=Int.tmod_eq_emod_of_nonneg z0;have x3:IntKind.i64.wrap (z % 3)=z % 3:=w6;have x4:IntKind.i64.wrap (p.y+z % 3)=p.y+z % 3:=w6
        go_wp2_with (with_reducible first|refine aU 2 hS isAgg3 ?_|refine aJ (u:=.agg #[_,_]) 3 hS sizeOf43 fun _ hS=>?_)
        go_meet
        case rel=>exact⟨p,⟨p.x+1,p.y+z % 3⟩,by unfold Gp.gP;omega,by unfold Gp.gP;simp only;omega,fun e=>by have:=congrArg Gp.x e;simp only at this;omega,hS⟩
       ·have cb:decide (p=q)=false:=by simpa using ce
        replace ce:=Hd ce
        go_wp2_with (fail)
        go_meet
        case rel=>exact⟨p,q,by unfold Gp.gP;omega,by unfold Gp.gP;omega,ce.out,hS⟩
      case rest =>
       clear hS HE;obtain⟨p,q,hp,hq,bJ,hS⟩:=hcut;replace bJ:=Hd bJ
       go_wp2_with (first|(with_reducible first|refine bA 2 hS isAgg43 sizeOf43 ?_|refine bA 3 hS isAgg43 sizeOf43 ?_)|((with_reducible refine dV (T:=23) ?_);refine fZ (T:=23) (v:=.agg #[.int .i64 _,.int .i64 _,.int .i64 _,.int .i64 _]) hS underlying23 sizeOf94 zeroValue94 rfl rfl rfl (by decide) (by decide) rfl (fun bl fX hS=>?_);simp only [aD];simp only [Value.cells] at hS)|((with_reducible refine eG ?_);refine fw (t:=23) 1 hS underlying23 sM rfl (by decide) rfl rfl rfl rfl (by simp [Value.oneCell']) (by omega) (by unfold maxLen;omega) (fun dU gL _ hS=>?_);simp only [aD];simp only [aK] at hS))
       have wj:a9G (os++[⟨p,q⟩]):=by
        have e:(32:Int)+2*((os++[(⟨p,q⟩:Sz)]).length:Nat)=B+2:=by rw [hB];simp;omega
        intro s hs;rw [e]
        rcases List.mem_append.1 hs with h|h
        ·obtain⟨h1,h2,h3⟩:=db.out s h
         have e2:(32:Int)+2*(os.length:Nat)=B:=by rw [hB];omega
         rw [e2] at h1 h2;unfold Gp.gP at h1 h2 ⊢;exact⟨by omega,by omega,h3⟩
        ·rw [List.mem_singleton] at h
         subst h;exact⟨hp,hq,bJ.out⟩
       have eJ:(os++[(⟨p,q⟩:Sz)]).length=(0)+1:=by rw [List.length_append,List.length_singleton,hN]
       have j7:(os++[(⟨p,q⟩:Sz)]).flatMap sc=os.flatMap sc++[.int .i64 p.x,.int .i64 p.y,.int .i64 q.x,.int .i64 q.y]:=by simp [sc]
       replace wj:=Hd wj;replace eJ:=Hd eJ;replace j7:=Hd j7;go_roundw
       case rel=>exact⟨k+1,os++[⟨p,q⟩],dU,gL,by omega,by rw [eJ.out];omega,by simp,by rw [eJ.out],wj.out,by rw [eJ.out,j7.out];exact hS.sb⟩
       case measure=>simp [intOf];omega
    ·obtain⟨g,hg⟩:=hS.rowAt 1 rfl (by omega)
     subst hg;obtain⟨M,hM⟩:∃ M,M+1=N:=⟨N - 1,by omega⟩;have hMI:M<N:=by omega
     have hMl:M<os.length:=by omega
     have wN:IntKind.i64.wrap ((N:Int) - 1)=(M:Int):=w7;obtain⟨s,hs⟩:∃ s,nth s0 os M=s:=⟨_,rfl⟩;obtain⟨ef,iu,hc3⟩:=aKy hMl hs;obtain⟨sa1,sb1,_⟩:=db.out s (by rw [← hs];exact cQ s0 os M hMl)
     obtain⟨I,hI⟩:∃ I:Nat,z / 16 % (N:Int)=(I:Int):=⟨(z / 16 % (N:Int)).toNat,by
      have:=Int.emod_nonneg (z / 16) (show (N:Int)≠0 by omega);omega⟩
     have hIN:I<N:=by have:=Int.emod_lt_of_pos (z / 16) (show (0:Int)<N by omega);omega
     have hIl:I<os.length:=by omega
     have hIt:(z / 16).tmod (N:Int)=(I:Int):=by rw [Int.tmod_eq_emod_of_nonneg (by omega)];exact hI
     have wI:IntKind.i64.wrap (I:Int)=(I:Int):=w6;have nz:((N:Int) == 0)=false:=by rw [beq_eq_false_iff_ne];omega
     obtain⟨t,ht⟩:∃ t,nth s0 os I=t:=⟨_,rfl⟩;obtain⟨eo,fH,jI⟩:=aKy hIl ht;obtain⟨ta1,tb1,_⟩:=db.out t (by rw [← ht];exact cQ s0 os I hIl);have eB:(32:Int)+2*(os.length:Nat)=B:=by rw [hB];omega
     rw [eB] at sa1 sb1 ta1 tb1;have tF:=ta1;have lZ:=tb1;unfold Gp.gP at tF lZ;have y1:IntKind.i64.wrap (t.a.x+t.b.x)=t.a.x+t.b.x:=w6;have y2:IntKind.i64.wrap (t.a.y+t.b.y)=t.a.y+t.b.y:=w6;have y3:(t.a.x+t.b.x).tdiv 2=(t.a.x+t.b.x) / 2:=Int.tdiv_eq_ediv_of_nonneg (by omega);have y4:(t.a.y+t.b.y).tdiv 2=(t.a.y+t.b.y) / 2:=Int.tdiv_eq_ediv_of_nonneg (by omega);have y5:IntKind.i64.wrap ((t.a.x+t.b.x) / 2)=(t.a.x+t.b.x) / 2:=w6;have y6:IntKind.i64.wrap ((t.a.y+t.b.y) / 2)=(t.a.y+t.b.y) / 2:=w6;have aCT:(⟨(t.a.x+t.b.x) / 2,(t.a.y+t.b.y) / 2⟩:Gp).gP B:=by unfold Gp.gP;simp only;omega
     clear hs ht hM eB;have e0:decide (0<N)=true:=by rw [decide_eq_true_iff];omega
     go_upto_if 44 with (with_reducible first|refine bH hS zeroValue43 fun b9 xX hS=>?_|refine aJ (u:=.agg #[_,_]) 3 hS sizeOf43 fun _ hS=>?_)
     go_cut [] (fun wx=>∃ p q:Gp,p.gP B∧q.gP B∧aA w wx [.aH (Old w) w,.row (.slice (some ⟨g,0,none⟩) (N) c2) 94 4 (N) (os.flatMap sc),.aB b8 (.cells #[.int .i64 p.x,.int .i64 p.y] 43 (0,0)),.aB b9 (.cells #[.int .i64 q.x,.int .i64 q.y] 43 (0,0))])
     case first =>
      by_cases c1:z % 4=1
      ·have cb:(z % 4 == 1)=true:=by simpa using c1
       replace c1:=Hd c1
       go_wp2_with (first|((with_reducible refine du (T:=23) ?_);refine ck rfl (yZ (T:=23) underlying23 sizeOf94 rfl rfl (by omega) (by omega) ?_);simp only [aD];try simp only [Nat.zero_add,Int.toNat_natCast])|((with_reducible refine dq (T:=43) ?_);refine dI hS rfl (a0g (T:=43) 1 isAgg43 sizeOf43 rfl rfl hc3 rfl ?_);simp only [aD])|(with_reducible refine aJ (u:=.agg #[_,_]) 2 hS sizeOf43 fun _ hS=>?_))
       go_meet
       case rel=>exact⟨s.b,q,sb1,hq,hS⟩
      ·have cb:(z % 4 == 1)=false:=by simpa using c1
       replace c1:=Hd c1
       go_wp2_with (fail)
       go_meet
       case rel=>exact⟨p,q,hp,hq,hS⟩
     case rest =>
      clear hS;obtain⟨p,q,hp,hq,hS⟩:=hcut
      go_upto_region 10 with (fail)
      go_cut [59] (fun v wx=>∃ b:Bool,v=.bool b∧aA w wx [.aH (Old w) w,.row (.slice (some ⟨g,0,none⟩) N c2) 94 4 N (os.flatMap sc),.aB b8 (.cells #[.int .i64 p.x,.int .i64 p.y] 43 (0,0)),.aB b9 (.cells #[.int .i64 q.x,.int .i64 q.y] 43 (0,0))])
      case first =>
       by_cases l2:2<N
       ·have e2:decide (2<N)=true:=by rw [decide_eq_true_iff];omega
        go_wp2_with (fail)
        go_meet
        case rel=>exact⟨_,rfl,hS⟩
       ·have e2:decide (2<N)=false:=by rw [decide_eq_false_iff_not];omega
        go_wp2_with (fail)
        go_meet
        case rel=>exact⟨_,rfl,hS⟩
      case rest =>
       clear hS;obtain⟨b,rfl,hS⟩:=hcut
       go_upto_if 59 with (fail)
       go_cut [] (fun wx=>∃ p q:Gp,p.gP B∧q.gP B∧aA w wx [.aH (Old w) w,.row (.slice (some ⟨g,0,none⟩) (N) c2) 94 4 (N) (os.flatMap sc),.aB b8 (.cells #[.int .i64 p.x,.int .i64 p.y] 43 (0,0)),.aB b9 (.cells #[.int .i64 q.x,.int .i64 q.y] 43 (0,0))])
       case first =>
        cases b with
        | true =>
         go_wp2_with (first|((with_reducible refine du (T:=23) ?_);refine ck rfl (yZ (T:=23) underlying23 sizeOf94 rfl rfl (by omega) (by omega) ?_);simp only [aD];try simp only [Nat.zero_add,Int.toNat_natCast])|((with_reducible refine dq (T:=43) ?_);refine dI hS rfl (a0g (T:=43) 1 isAgg43 sizeOf43 rfl rfl hc3 rfl ?_);simp only [aD])|((with_reducible refine dq (T:=43) ?_);refine dI hS rfl (a0g (T:=43) 1 isAgg43 sizeOf43 rfl rfl fH rfl ?_);simp only [aD])|(with_reducible first|refine aJ (u:=.agg #[_,_]) 2 hS sizeOf43 fun _ hS=>?_|refine aJ (u:=.agg #[_,_]) 3 hS sizeOf43 fun _ hS=>?_))
         go_meet
         case rel=>exact⟨s.b,t.a,sb1,ta1,hS⟩
        | false =>
         go_wp2_with (fail)
         go_meet
         case rel=>exact⟨p,q,hp,hq,hS⟩
       case rest =>
        clear hS;obtain⟨p,q,hp,hq,hS⟩:=hcut
        go_upto_if 83 with (fail)
        go_cut [] (fun wx=>∃ p q:Gp,p.gP B∧q.gP B∧aA w wx [.aH (Old w) w,.row (.slice (some ⟨g,0,none⟩) (N) c2) 94 4 (N) (os.flatMap sc),.aB b8 (.cells #[.int .i64 p.x,.int .i64 p.y] 43 (0,0)),.aB b9 (.cells #[.int .i64 q.x,.int .i64 q.y] 43 (0,0))])
        case first =>
         by_cases c1:z % 16=3
         ·have cb:(z % 16 == 3)=true:=by simpa using c1
          replace c1:=Hd c1
          go_wp2_with (first|((with_reducible refine du (T:=23) ?_);refine ck rfl (yZ (T:=23) underlying23 sizeOf94 rfl rfl (by omega) (by omega) ?_);simp only [aD];try simp only [Nat.zero_add,Int.toNat_natCast])|((with_reducible refine dq (T:=94) ?_);refine dI hS rfl (a0g (T:=94) 1 isAgg94 sizeOf94 rfl rfl eo rfl ?_);simp only [aD])|(with_reducible first|refine bH hS zeroValue94 fun fo qM hS=>?_|refine aJ (u:=.agg #[_,_,_,_]) 4 hS sizeOf94 fun _ hS=>?_|refine eW 4 hS isAgg43 sizeOf43 ?_|refine aU 4 hS isAgg3 ?_|refine aJ (u:=.agg #[_,_]) 2 hS sizeOf43 fun _ hS=>?_|refine aJ (u:=.agg #[_,_]) 3 hS sizeOf43 fun _ hS=>?_))
          go_meet
          case rel=>exact⟨t.a,_,ta1,aCT,hS.sb⟩
         ·have cb:(z % 16 == 3)=false:=by simpa using c1
          replace c1:=Hd c1
          go_wp2_with (fail)
          go_meet
          case rel=>exact⟨p,q,hp,hq,hS⟩
        case rest =>
         clear hS;obtain⟨p,q,hp,hq,hS⟩:=hcut
         go_upto_if 113 with (fail)
         go_cut [] (fun wx=>∃ p q:Gp,p.gP B∧q.gP B∧aA w wx [.aH (Old w) w,.row (.slice (some ⟨g,0,none⟩) (N) c2) 94 4 (N) (os.flatMap sc),.aB b8 (.cells #[.int .i64 p.x,.int .i64 p.y] 43 (0,0)),.aB b9 (.cells #[.int .i64 q.x,.int .i64 q.y] 43 (0,0))])
         case first =>
          by_cases c7:z % 16=7
          ·have c7b:(z % 16 == 7)=true:=by simpa using c7
           go_wp2_with (with_reducible first|refine aU 2 hS isAgg3 ?_|refine aJ (u:=.int .i64 _) 3 hS sizeOf3 fun _ hS=>?_)
           go_meet
           case rel=>exact⟨p,⟨q.x,p.y⟩,hp,⟨hq.1,hp.2⟩,hS⟩
          ·have c7b:(z % 16 == 7)=false:=by simpa using c7
           go_wp2_with (fail)
           go_meet
           case rel=>exact⟨p,q,hp,hq,hS⟩
         case rest =>
          clear hS;obtain⟨p,q,hp,hq,hS⟩:=hcut;have HE:∀ w,(Op.equalIn 10000 43 (.agg #[.int .i64 p.x,.int .i64 p.y]) (.agg #[.int .i64 q.x,.int .i64 q.y])).run prog w=.ok (decide (p=q)) w:=fun w=>pv p q w
          go_upto_if 119 with (with_reducible first|refine bA 2 hS isAgg43 sizeOf43 ?_|refine bA 3 hS isAgg43 sizeOf43 ?_)
          go_cut [] (fun wx=>∃ p q:Gp,p.gP (B+2)∧q.gP (B+2)∧p≠q∧aA w wx [.aH (Old w) w,.row (.slice (some ⟨g,0,none⟩) (N) c2) 94 4 (N) (os.flatMap sc),.aB b8 (.cells #[.int .i64 p.x,.int .i64 p.y] 43 (0,0)),.aB b9 (.cells #[.int .i64 q.x,.int .i64 q.y] 43 (0,0))])
          case first =>
           unfold Gp.gP at hp hq
           by_cases ce:p=q
           ·subst ce
            have cb:decide (p=p)=true:=by simp
            have x1:IntKind.i64.wrap (p.x+1)=p.x+1:=w6;have x2:z.tmod 3=z % 3:=Int.tmod_eq_emod_of_nonneg z0;have x3:IntKind.i64.wrap (z % 3)=z % 3:=w6;have x4:IntKind.i64.wrap (p.y+z % 3)=p.y+z % 3:=w6
            go_wp2_with (with_reducible first|refine aU 2 hS isAgg3 ?_|refine aJ (u:=.agg #[_,_]) 3 hS sizeOf43 fun _ hS=>?_)
            go_meet
            case rel=>exact⟨p,⟨p.x+1,p.y+z % 3⟩,by unfold Gp.gP;omega,by unfold Gp.gP;simp only;omega,fun e=>by have:=congrArg Gp.x e;simp only at this;omega,hS⟩
           ·have cb:decide (p=q)=false:=by simpa using ce
            replace ce:=Hd ce
            go_wp2_with (fail)
            go_meet
            case rel=>exact⟨p,q,by unfold Gp.gP;omega,by unfold Gp.gP;omega,ce.out,hS⟩
          case rest =>
           clear hS HE;obtain⟨p,q,hp,hq,bJ,hS⟩:=hcut;replace bJ:=Hd bJ
           go_wp2_with (first|(with_reducible first|refine bA 2 hS isAgg43 sizeOf43 ?_|refine bA 3 hS isAgg43 sizeOf43 ?_)|((with_reducible refine dV (T:=23) ?_);refine fZ (T:=23) (v:=.agg #[.int .i64 _,.int .i64 _,.int .i64 _,.int .i64 _]) hS underlying23 sizeOf94 zeroValue94 rfl rfl rfl (by decide) (by decide) rfl (fun bl fX hS=>?_);simp only [aD];simp only [Value.cells] at hS)|((with_reducible refine eG ?_);refine fw (t:=23) 1 hS underlying23 sM rfl (by decide) rfl rfl rfl rfl (by simp [Value.oneCell']) (by omega) (by unfold maxLen;omega) (fun dU gL _ hS=>?_);simp only [aD];simp only [aK] at hS))
           have wj:a9G (os++[⟨p,q⟩]):=by
            have e:(32:Int)+2*((os++[(⟨p,q⟩:Sz)]).length:Nat)=B+2:=by rw [hB];simp;omega
            intro s hs;rw [e]
            rcases List.mem_append.1 hs with h|h
            ·obtain⟨h1,h2,h3⟩:=db.out s h
             have e2:(32:Int)+2*(os.length:Nat)=B:=by rw [hB];omega
             rw [e2] at h1 h2;unfold Gp.gP at h1 h2 ⊢;exact⟨by omega,by omega,h3⟩
            ·rw [List.mem_singleton] at h
             subst h;exact⟨hp,hq,bJ.out⟩
           have eJ:(os++[(⟨p,q⟩:Sz)]).length=(N)+1:=by rw [List.length_append,List.length_singleton,hN]
           have j7:(os++[(⟨p,q⟩:Sz)]).flatMap sc=os.flatMap sc++[.int .i64 p.x,.int .i64 p.y,.int .i64 q.x,.int .i64 q.y]:=by simp [sc]
           replace wj:=Hd wj;replace eJ:=Hd eJ;replace j7:=Hd j7;go_roundw
           case rel=>exact⟨k+1,os++[⟨p,q⟩],dU,gL,by omega,by rw [eJ.out];omega,by simp,by rw [eJ.out],wj.out,by rw [eJ.out,j7.out];exact hS.sb⟩
           case measure=>simp [intOf];omega
   ·replace db:=Hd db
    have aBJ:decide (os.length<m)=false:=by rw [decide_eq_false_iff_not];omega
    go_wp2;go_ret;exact⟨os,ad,c2,rfl,db.out,hom,hS⟩
  ·obtain rfl:k=xs.length:=by omega
   replace db:=Hd db;go_wp2;go_ret;exact⟨os,ad,c2,rfl,db.out,hom,hS⟩
theorem aQn (a b c d e f g h i j:Value):Instr.fill (fun i=>some (i*2,2)) ((Array.range (5*2)).map ((Value.agg #[.int .i64 0,.int .i64 0]).cells[· % (Value.agg #[.int .i64 0,.int .i64 0]).cells.size]!)) [(0,.agg #[a,b]),(1,.agg #[c,d]),(2,.agg #[e,f]),(3,.agg #[g,h]),(4,.agg #[i,j])]=some #[a,b,c,d,e,f,g,h,i,j]:=by
 have hh:((Array.range (5*2)).map ((Value.agg #[.int .i64 0,.int .i64 0]).cells[· % (Value.agg #[.int .i64 0,.int .i64 0]).cells.size]!))=#[.int .i64 0,.int .i64 0,.int .i64 0,.int .i64 0,.int .i64 0,.int .i64 0,.int .i64 0,.int .i64 0,.int .i64 0,.int .i64 0]:=by
  apply Array.ext';simp [Array.range,List.ofFn_succ,Value.cells]
 rw [hh];simp [Instr.fill,Value.cells]
def Gp.mV (g:Gp):Prop:=(-12≤g.x∧g.x≤44)∧-12≤g.y∧g.y≤44
def a3e (os:List Sz):Prop:=∀ s ∈ os,s.a.mV∧s.b.mV∧s.a≠s.b
theorem aV7 {os:List Sz} {p q:Gp} (h:a3e os) (hp:p.mV) (hq:q.mV) (bJ:p≠q):a3e (os++[⟨p,q⟩]):=by
 intro s hs
 rcases List.mem_append.1 hs with h1|h1
 ·exact h s h1
 ·rw [List.mem_singleton] at h1;subst h1;exact⟨hp,hq,bJ⟩
theorem a4c {n m:Int} (h0:0≤n) (h1:n<1048576) (hm:0<m) (r:Int) (hr:1≤r∧r≤12):n.tdiv m=n / m∧IntKind.i64.wrap (n / m)=n / m∧(n / m).tmod r=n / m % r∧IntKind.i64.wrap (n / m % r)=n / m % r∧0≤n / m % r∧n / m % r<r∧0≤n / m:=by
 have e1:=Int.ediv_nonneg h0 (Int.le_of_lt hm);have e2:=Int.ediv_le_self m h0;have e3:=Int.emod_nonneg (n / m) (show r≠0 by omega);have e4:=Int.emod_lt_of_pos (n / m) (show 0<r by omega);exact⟨Int.tdiv_eq_ediv_of_nonneg h0,w6,Int.tmod_eq_emod_of_nonneg e1,w6,e3,e4,e1⟩
theorem aS1 (a:Option Addr) (n c:Nat) (xs:List Int) (w:World) (hx:Ints w (Old w) (.slice a n c) xs) :
 Calls prog 15 #[.slice a n c] w fun e w'=>∃ (os:List Sz) (ad:Option Addr) (c2:Nat),e=.returned (.slice ad os.length c2)∧a3e os∧os.length≤20∧aA w w' [.aH (Old w) w,.row (.slice ad os.length c2) 94 4 os.length (os.flatMap sc)]:=by
 have hn:=hx.len;subst hn;have hle:=hx.le;have hS:=(aA.start w).iB 94 4;simp only [aK] at hS
 go_enter func15,ntmps15
 go_wp2
 go_loopw [3,4] (fun v3 v4 wr=>∃ (k:Nat) (os:List Sz) (ad:Option Addr) (N c2:Nat),k≤4∧os.length=N∧N≤5*k∧v4=.int .i64 (k:Int)∧v3=.slice ad N c2∧a3e os∧aA w wr [.aH (Old w) w,.row (.slice ad N c2) 94 4 N (os.flatMap sc)]) (fun _ v4 _=>4 - (intOf v4).toNat)
 case atStart=>exact⟨0,[],none,0,0,by omega,rfl,by omega,rfl,rfl,(by intro s hs;cases hs),hS⟩
 case round =>
  clear hS;obtain⟨k,os,ad,N,c2,hk,hN,hN5,rfl,rfl,bG,hS⟩:=hrel;replace bG:=Hd bG;replace hN:=Hd hN
  by_cases hk4:k<4
  ·have d1:decide (k<4)=true:=by simpa using hk4
   have w1:IntKind.i64.wrap (3*(k:Int))=3*(k:Int):=w6;have w2:IntKind.i64.wrap (3*(k:Int)+1)=3*(k:Int)+1:=w6
   by_cases cW:3*(k:Int)<(xs.length:Int)
   ·have d2:decide (3*(k:Int)<(xs.length:Int))=true:=by simpa using cW
    have p1:=fun w' (h:Ints w' (Old w') (.slice a xs.length c) xs)=>a3r a xs.length c xs (3*(k:Int)) 1048576 w' h (by decide) (by decide)
    have p2:=fun w' (h:Ints w' (Old w') (.slice a xs.length c) xs)=>a3r a xs.length c xs (3*(k:Int)+1) 1048576 w' h (by decide) (by decide)
    have b1:=a9e xs (3*(k:Int)) (show (1:Int)≤1048576 by decide);have b2:=a9e xs (3*(k:Int)+1) (show (1:Int)≤1048576 by decide);obtain⟨z,hz⟩:∃ z,rJ xs (3*(k:Int)) 1048576=z:=⟨_,rfl⟩;obtain⟨y,hy⟩:∃ y,rJ xs (3*(k:Int)+1) 1048576=y:=⟨_,rfl⟩;rw [hz] at b1;rw [hy] at b2;simp only [hz] at p1;simp only [hy] at p2;clear hz hy;obtain⟨z0,z1⟩:=b1;have gd:=fun w=>a4e y w (by unfold bQ;omega)
    have gb:=a7k y;obtain⟨C,hC⟩:∃ C,og y=C:=⟨_,rfl⟩;simp only [hC] at gd;rw [hC] at gb;clear hC b2;obtain⟨⟨cx0,cx1⟩,cy0,cy1⟩:=gb;obtain⟨r,hr⟩:∃ r,1+z % 12=r:=⟨_,rfl⟩;have xw:1≤r∧r≤12:=by omega
    have r1:z.tmod 12=z % 12:=Int.tmod_eq_emod_of_nonneg z0;have r2:IntKind.i64.wrap (z % 12)=z % 12:=w6;have r3:IntKind.i64.wrap (1+z % 12)=r:=by rw [w6];exact hr
    replace hr:=Hd hr
    go_wp2_with (fail)
    refine (p1 _ (hx.arg hS (by simp))).mono ?_;rintro e w5 ⟨rfl,rfl⟩;simp only []
    go_wp2_with (fail)
    refine (p2 _ (hx.arg hS (by simp))).mono ?_;rintro e w5 ⟨rfl,rfl⟩;simp only []
    go_wp2_with (fail)
    refine (gd _).mono ?_;rintro e w5 ⟨rfl,hq⟩;have hS:=hS.below hq.below hq.drawn;simp only []
    go_wp2_with (with_reducible first|refine bH hS zeroValue43 fun b6 xz hS=>?_|refine aJ (u:=.agg #[_,_]) 2 hS sizeOf43 fun _ hS=>?_)
    clear p1 p2 gd r1 r2 r3 w1 w2 d1 d2;have rz:(r == 0)=false:=by rw [beq_eq_false_iff_ne];omega
    obtain⟨q1,q2,q3,q4,q5,q6,q7⟩:=a4c z0 z1 (show (0:Int)<12 by decide) r xw;obtain⟨s1,s2,s3,s4,s5,s6,s7⟩:=a4c z0 z1 (show (0:Int)<144 by decide) r xw;obtain⟨t1,t2,t3,t4,t5,t6,t7⟩:=a4c z0 z1 (show (0:Int)<1728 by decide) r xw;obtain⟨u1,u2,u3,u4,u5,u6,u7⟩:=a4c z0 z1 (show (0:Int)<36 by decide) r xw;obtain⟨v1,v2,v3,v4,v5,v6,v7⟩:=a4c z0 z1 (show (0:Int)<500 by decide) r xw;have f1:z.tdiv 7=z / 7:=Int.tdiv_eq_ediv_of_nonneg z0;have f2:IntKind.i64.wrap (z / 7)=z / 7:=w6;have f3:(z / 7).tmod 3=z / 7 % 3:=Int.tmod_eq_emod_of_nonneg (by omega);have f4:IntKind.i64.wrap (z / 7 % 3)=z / 7 % 3:=w6;obtain⟨K,hK⟩:∃ K:Nat,3+z / 7 % 3=(K:Int):=⟨(3+z / 7 % 3).toNat,by omega⟩;have hKb:3≤K∧K≤5:=by omega
    have f5:IntKind.i64.wrap (3+z / 7 % 3)=(K:Int):=by rw [w6];exact hK
    replace hK:=Hd hK;obtain⟨D1,gD1⟩:∃ D,z / 12 % r=D:=⟨_,rfl⟩;rw [gD1] at q3 q4 q5 q6;obtain⟨D2,gD2⟩:∃ D,z / 144 % r=D:=⟨_,rfl⟩;rw [gD2] at s3 s4 s5 s6;obtain⟨D3,gD3⟩:∃ D,z / 1728 % r=D:=⟨_,rfl⟩;rw [gD3] at t3 t4 t5 t6;obtain⟨D4,gD4⟩:∃ D,z / 36 % r=D:=⟨_,rfl⟩;rw [gD4] at u3 u4 u5 u6;obtain⟨D5,gD5⟩:∃ D,z / 500 % r=D:=⟨_,rfl⟩;rw [gD5] at v3 v4 v5 v6;have h1:IntKind.i64.wrap (C.x - r)=C.x - r:=w6;have h2:IntKind.i64.wrap (C.y - D1)=C.y - D1:=w6;have h3:IntKind.i64.wrap (C.x+D2)=C.x+D2:=w6;have h4:IntKind.i64.wrap (C.y - r)=C.y - r:=w6;have h5:IntKind.i64.wrap (C.x+r)=C.x+r:=w6;have h6:IntKind.i64.wrap (C.y+D3)=C.y+D3:=w6;have h7:IntKind.i64.wrap (C.x - D4)=C.x - D4:=w6;have h8:IntKind.i64.wrap (C.y+r)=C.y+r:=w6;have h9:IntKind.i64.wrap (C.y+D5)=C.y+D5:=w6;obtain⟨ps,dL⟩:∃ ps:List Gp,ps=[⟨C.x - r,C.y - D1⟩,⟨C.x+D2,C.y - r⟩,⟨C.x+r,C.y+D3⟩,⟨C.x - D4,C.y+r⟩,⟨C.x - r,C.y+D5⟩]:=⟨_,rfl⟩;have hpf:ps.flatMap gc=[.int .i64 (C.x - r),.int .i64 (C.y - D1),.int .i64 (C.x+D2),.int .i64 (C.y - r),.int .i64 (C.x+r),.int .i64 (C.y+D3),.int .i64 (C.x - D4),.int .i64 (C.y+r),.int .i64 (C.x - r),.int .i64 (C.y+D5)]:=by rw [dL];rfl
    have jP:ps.length=5:=by rw [dL];rfl
    have oW:∀ p ∈ ps,p.mV:=by
     rw [dL];intro p hp;simp only [List.mem_cons,List.not_mem_nil,or_false] at hp;unfold Gp.mV
     rcases hp with rfl|rfl|rfl|rfl|rfl <;> (simp only;omega)
    replace dL:=Hd dL;replace hpf:=Hd hpf;replace jP:=Hd jP;replace oW:=Hd oW;obtain⟨il,aXn⟩:=xw;have pK:r≠0:=by omega
    refine gI [.p 0,.r 1,.p 2,.p 3,.p 4,.r 5,.p 6,.p 7,.p 8,.p 9,.p 10,.p 11,.p 12,.r 13,.p 14,.p 15,.p 16,.p 17,.p 18,.p 19,.r 20,.p 21,.p 22,.p 23,.p 24,.r 25,.p 26,.p 27,.p 28,.r 29,.p 30,.p 31,.p 32,.p 33,.p 34,.p 35,.p 36,.r 37,.p 38,.p 39,.p 40,.p 41,.p 42,.p 43,.r 44,.p 45,.p 46,.p 47,.p 48,.r 49,.p 50,.p 51,.p 52,.r 53,.p 54,.p 55,.p 56,.p 57,.p 58,.p 59,.e 60,.p 61] [] (fun w'=>aA w w' _) (by kernel_rfl) (by as_aux_lemma=>kernel_rfl) hS.drew (fun w1 hS=>?_)
    repeat (with_reducible first|refine cZ 2 isAgg3 ?_|refine bU ?_)
    refine aZ ?_
    ((with_reducible refine dV (T:=24) ?_);refine aMo (n:=5) (k:=2) (z:=.agg #[.int .i64 0,.int .i64 0]) (T:=24) hS underlying24 sizeOf43 zeroValue43 (by decide) (by decide) (aQn _ _ _ _ _ _ _ _ _ _) rfl rfl (fun bl fX hS=>?_);simp only [aD];simp only [aK] at hS)
    refine aX hS.sb ?_;refine aM ?_;refine bE ?_;have hS:=hS.uj (m:=5) (k:=2) 3 rfl rfl (by decide);simp only [aK] at hS;rw [← hpf.out] at hS;have hS:=hS.order [0,1,3,2] rfl;simp only [iw] at hS
    have e1:sG (some ⟨bl,0,none⟩) 5 0 K 2=.slice (some ⟨bl,0,none⟩) K 5:=by
     unfold sG;simp [Addr.add]
    replace e1:=Hd e1;clear gD1 gD2 gD3 gD4 gD5 q1 q2 q3 q4 q5 q6 q7 s1 s2 s3 s4 s5 s6 s7 t1 t2 t3 t4 t5 t6 t7 u1 u2 u3 u4 u5 u6 u7 v1 v2 v3 v4 v5 v6 v7 h1 h2 h3 h4 h5 h6 h7 h8 h9 rz
    go_wp2_with (first|((with_reducible refine tD (T:=24) ?_);refine ck rfl (aGn (T:=24) (m:=K) underlying24 sizeOf43 rfl rfl rfl (by omega) e1.out ?_);simp only [aD]))
    try try simp only [fA]
    have hS:=hS.sub (H':=[.aH (Old w) w,.row (.slice ad N c2) 94 4 N (os.flatMap sc),.row (.slice (some ⟨bl,0,none⟩) 5 5) 43 2 5 (ps.flatMap gc)]) (by repeat (first|exact List.Sublist.refl _|apply List.Sublist.cons_cons|apply List.Sublist.cons))
    go_loopw [3,9] (fun v3 v9 wr=>∃ (j:Nat) (os:List Sz) (ad:Option Addr) (N c2:Nat),j≤K∧Hid (os.length=N)∧N≤5*k+j∧v9=.int .i64 (j:Int)∧v3=.slice ad N c2∧Hid (a3e os)∧aA w wr [.aH (Old w) w,.row (.slice ad N c2) 94 4 N (os.flatMap sc),.row (.slice (some ⟨bl,0,none⟩) 5 5) 43 2 5 (ps.flatMap gc)]) (fun _ v9 _=>K - (intOf v9).toNat)
    case atStart=>exact⟨0,os,ad,N,c2,by omega,hN,by omega,rfl,rfl,bG,hS⟩
    case round =>
     clear hS bG hN hN5;obtain⟨j,os,ad,N,c2,hj,hN,hN5,rfl,rfl,bG,hS⟩:=hrel
     by_cases hjK:j<K
     ·have c1:=eS yT g0 (show j<ps.length by rw [jP.out];omega)
      obtain⟨i,hi⟩:∃ i,(j+1) % K=i:=⟨_,rfl⟩;have hiK:i<K:=by rw [← hi];exact Nat.mod_lt _ (by omega)
      have mg:((j:Int)+1) % (K:Int)=(i:Int):=by rw [← hi,Int.natCast_emod];simp
      have hi3:((j:Int)+1).tmod (K:Int)=(i:Int):=by rw [Int.tmod_eq_emod_of_nonneg (by omega)];exact mg
      have hi4:IntKind.i64.wrap (i:Int)=(i:Int):=w6;have hi5:IntKind.i64.wrap ((j:Int)+1)=(j:Int)+1:=w6;have lX:((K:Int) == 0)=false:=by rw [beq_eq_false_iff_ne];omega
      have c2':=eS yT g0 (show i<ps.length by rw [jP.out];omega);have np:=oW.out _ (cQ g0 ps j (by rw [jP.out];omega));have nq:=oW.out _ (cQ g0 ps i (by rw [jP.out];omega));obtain⟨p,hp⟩:∃ p,nth g0 ps j=p:=⟨_,rfl⟩;obtain⟨q,hq⟩:∃ q,nth g0 ps i=q:=⟨_,rfl⟩;rw [hp] at c1 np;rw [hq] at c2' nq;replace c1:((ps.flatMap gc).drop (j*2)).take 2=[.int .i64 p.x,.int .i64 p.y]:=c1;replace c2':((ps.flatMap gc).drop (i*2)).take 2=[.int .i64 q.x,.int .i64 q.y]:=c2';replace np:=Hd np;replace nq:=Hd nq;have HE:∀ w,(Op.equalIn 10000 43 (.agg #[.int .i64 p.x,.int .i64 p.y]) (.agg #[.int .i64 q.x,.int .i64 q.y])).run prog w=.ok (decide (p=q)) w:=fun w=>pv p q w
      clear hp hq hi
      by_cases ce:p=q
      ·subst ce
       have cb:decide (p=p)=true:=by simp
       go_wp2_with (first|((with_reducible refine du (T:=24) ?_);refine ck rfl (yZ (T:=24) underlying24 sizeOf43 rfl rfl (by omega) (by omega) ?_);simp only [aD];try simp only [Nat.zero_add,Int.toNat_natCast])|((with_reducible refine dq (T:=43) ?_);refine dI hS rfl (a0g (T:=43) 2 isAgg43 sizeOf43 rfl rfl c1 rfl ?_);simp only [aD])|((with_reducible refine dq (T:=43) ?_);refine dI hS rfl (a0g (T:=43) 2 isAgg43 sizeOf43 rfl rfl c2' rfl ?_);simp only [aD])|(with_reducible first|refine bH hS zeroValue43 fun fo qM hS=>?_|refine aJ (u:=.agg #[_,_]) 3 hS sizeOf43 fun _ hS=>?_|refine aJ (u:=.agg #[_,_]) 4 hS sizeOf43 fun _ hS=>?_|refine bA 3 hS isAgg43 sizeOf43 ?_|refine bA 4 hS isAgg43 sizeOf43 ?_))
       go_roundw
       case rel=>exact⟨j+1,os,ad,N,c2,by omega,hN,by omega,by simp,rfl,bG,hS.sb⟩
       case measure=>simp [intOf];omega
      ·have cb:decide (p=q)=false:=by simpa using ce
       have kS:a3e (os++[⟨p,q⟩]):=aV7 bG.out np.out nq.out ce;have eJ:(os++[(⟨p,q⟩:Sz)]).length=N+1:=by rw [List.length_append,List.length_singleton,hN.out]
       have j7:(os++[(⟨p,q⟩:Sz)]).flatMap sc=os.flatMap sc++[.int .i64 p.x,.int .i64 p.y,.int .i64 q.x,.int .i64 q.y]:=by simp [sc]
       replace kS:=Hd kS;replace eJ:=Hd eJ;replace j7:=Hd j7;replace ce:=Hd ce
       go_wp2_with (first|((with_reducible refine du (T:=24) ?_);refine ck rfl (yZ (T:=24) underlying24 sizeOf43 rfl rfl (by omega) (by omega) ?_);simp only [aD];try simp only [Nat.zero_add,Int.toNat_natCast])|((with_reducible refine dq (T:=43) ?_);refine dI hS rfl (a0g (T:=43) 2 isAgg43 sizeOf43 rfl rfl c1 rfl ?_);simp only [aD])|((with_reducible refine dq (T:=43) ?_);refine dI hS rfl (a0g (T:=43) 2 isAgg43 sizeOf43 rfl rfl c2' rfl ?_);simp only [aD])|(with_reducible first|refine bH hS zeroValue43 fun fo qM hS=>?_|refine aJ (u:=.agg #[_,_]) 3 hS sizeOf43 fun _ hS=>?_|refine aJ (u:=.agg #[_,_]) 4 hS sizeOf43 fun _ hS=>?_|refine bA 3 hS isAgg43 sizeOf43 ?_|refine bA 4 hS isAgg43 sizeOf43 ?_)|((with_reducible refine dV (T:=23) ?_);refine fZ (T:=23) (v:=.agg #[.int .i64 _,.int .i64 _,.int .i64 _,.int .i64 _]) hS underlying23 sizeOf94 zeroValue94 rfl rfl rfl (by decide) (by decide) rfl (fun bq wbq hS=>?_);simp only [aD];simp only [Value.cells] at hS)|((with_reducible refine eG ?_);refine fw (t:=23) 1 hS underlying23 sM rfl (by decide) rfl rfl rfl rfl (by simp [Value.oneCell']) (by omega) (by unfold maxLen;omega) (fun dU gL _ hS=>?_);simp only [aD];simp only [aK] at hS))
       go_roundw
       case rel=>exact⟨j+1,os++[⟨p,q⟩],dU,N+1,gL,by omega,eJ,by omega,by simp,rfl,kS,by rw [j7.out];exact hS.sb⟩
       case measure=>simp [intOf];omega
     ·obtain rfl:K=j:=by omega
      go_wp2;go_roundw
      case rel=>exact⟨k+1,os,ad,N,c2,by omega,hN.out,by omega,by simp,rfl,bG.out,hS.sb⟩
      case measure=>simp [intOf];omega
   ·have d2:decide (3*(k:Int)<(xs.length:Int))=false:=by simpa using cW
    go_wp2;go_ret;exact⟨os,ad,c2,by rw [hN.out];rfl,bG.out,by rw [hN.out];omega,by rw [hN.out];exact hS⟩
  ·obtain rfl:k=4:=by omega
   go_wp2;go_ret;exact⟨os,ad,c2,by rw [hN.out];rfl,bG.out,by rw [hN.out];omega,by rw [hN.out];exact hS⟩
end Go.Hp
