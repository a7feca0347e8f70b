/- Texts for the walk of the law: M12. -/
import Derived.Deep.DeepCutAuto
import Derived.Test.YtihpoboahbpaiaaGreatQ39
set_option maxRecDepth 100000
set_option maxHeartbeats 16000000
set_option linter.unusedVariables false
set_option linter.unusedSimpArgs false
namespace Go.Hp
open Go.Proofs.Tryz
open Go Go.RowKit
def Gp.upto (b:Int) (g:Gp):Prop:=(0≤g.x∧g.x≤b)∧0≤g.y∧g.y≤b
def SegsUp (os:List Sz):Prop:=∀ s ∈ os,s.a.upto (32+2*os.length)∧s.b.upto (32+2*os.length)∧s.a≠s.b
theorem sc_half {os:List Sz} {i:Nat} {s:Sz} (hi:i<os.length) (hs:nth s0 os i=s):((os.flatMap sc).drop (i*4)).take 4=sc s∧((os.flatMap sc).drop (i*4)).take 2=gc s.a∧((os.flatMap sc).drop (i*4+2)).take 2=gc s.b:=by
 have hc:=flat_cell sc_len s0 hi;rw [hs] at hc;refine⟨hc,?_,?_⟩
 ·have:((os.flatMap sc).drop (i*4)).take 2=(((os.flatMap sc).drop (i*4)).take 4).take 2:=by rw [List.take_take];rfl
  rw [this,hc];rfl
 ·have:((os.flatMap sc).drop (i*4+2)).take 2=((((os.flatMap sc).drop (i*4)).take 4).drop 2).take 2:=by
   rw [List.drop_take,List.drop_drop,List.take_take];rfl
  rw [this,hc];rfl
end Go.Hp
namespace Go.Proofs
open Go.Proofs.Tryz
open Go.RowKit Go.Hp
theorem segs08_any (a:Option Addr) (n c m:Nat) (xs:List Int) (w:World) (hx:Ints w (Old w) (.slice a n c) xs) (hm:m≤10) :
 Calls Tryz.prog 31 #[.slice a n c,.int .i64 (m:Int)] w fun e w'=>∃ (os:List Sz) (ad:Option Addr) (c2:Nat),e=.returned (.slice ad os.length c2)∧SegsUp os∧os.length≤m∧Heap w w' [.frz (Old w) w,.row (.slice ad os.length c2) 95 4 os.length (os.flatMap sc)]:=by
 have hn:=hx.len;subst hn;have hle:=hx.le;have hS:=(Heap.start w).addNil 95 4;simp only [NRH] at hS
 go_enter func31,ntmps31
 go_wp2
 go_loopw [5,6] (fun v5 v6 wr=>∃ (k:Nat) (os:List Sz) (ad:Option Addr) (c2:Nat),k≤xs.length∧os.length≤m∧v6=.int .i64 (k:Int)∧v5=.slice ad os.length c2∧SegsUp os∧Heap w wr [.frz (Old w) w,.row (.slice ad os.length c2) 95 4 os.length (os.flatMap sc)]) (fun _ v6 _=>xs.length - (intOf v6).toNat)
 case atStart=>exact⟨0,[],none,0,by omega,by simp,rfl,rfl,(by intro s hs;cases hs),hS⟩
 case round =>
  clear hS;obtain⟨k,os,ad,c2,hk,hom,rfl,rfl,hup,hS⟩:=hrel
  by_cases hlt:k<xs.length
  ·by_cases hlm:os.length<m
   ·have hg:=hx.getD k
    have ar:=fun w=>aro_any (nth 0 xs k) 1048576 w (by decide) (by decide) hg
    have hab:=aro_lt (nth 0 xs k) (show (1:Int)≤1048576 by decide);obtain⟨z,hz⟩:∃ z,aro (nth 0 xs k) 1048576=z:=⟨_,rfl⟩;simp only [hz] at ar;rw [hz] at hab;obtain⟨z0,z1⟩:=hab;clear hz hg;have q1:z.tdiv 16=z / 16:=Int.tdiv_eq_ediv_of_nonneg z0;have q2:z.tmod 4096=z % 4096:=Int.tmod_eq_emod_of_nonneg z0;have w1:IntKind.i64.wrap (z / 16)=z / 16:=w6;have w2:IntKind.i64.wrap (z % 4096)=z % 4096:=w6;have w3:IntKind.i64.wrap (z / 16+z % 4096)=z / 16+z % 4096:=w6;have g1:=fun w=>grid05_any (z / 16) w (by unfold InI;omega)
    have g2:=fun w=>grid05_any (z / 16+z % 4096) w (by unfold InI;omega)
    have u1:=gridZ_bd (z / 16);have u2:=gridZ_bd (z / 16+z % 4096);obtain⟨p,hp⟩:∃ p,gridZ (z / 16)=p:=⟨_,rfl⟩;obtain⟨q,hq⟩:∃ q,gridZ (z / 16+z % 4096)=q:=⟨_,rfl⟩;simp only [hp] at g1 u1;simp only [hq] at g2 u2;clear hp hq
    go_wp2_with (with_reducible first|refine ixI underlying22 sizeOf3 fun _ _ _=>?_|refine ld0 hS isAgg3 ?_)
    refine (ar _).mono ?_;rintro e w5 ⟨rfl,rfl⟩;simp only []
    go_wp2_with (fail)
    refine (g1 _).mono ?_;rintro e w5 ⟨rfl,hq⟩;have hS:=hS.below hq.below hq.drawn;simp only []
    go_wp2_with (with_reducible first|refine alA hS zeroValue29 fun b8 wb8 hS=>?_|refine stA (u:=.agg #[_,_]) 2 hS sizeOf29 fun _ hS=>?_)
    refine (g2 _).mono ?_;rintro e w5 ⟨rfl,hq⟩;have hS:=hS.below hq.below hq.drawn;simp only [];obtain⟨N,hN⟩:∃ N,os.length=N:=⟨_,rfl⟩;rw [hN] at hS hlm hom;rw [hN];obtain⟨B,hB⟩:∃ B:Int,B=32+2*(N:Int):=⟨_,rfl⟩;have hB32:32≤B∧B≤100:=by omega
    replace hup:=Hd hup;have r16:z.tmod 16=z % 16:=Int.tmod_eq_emod_of_nonneg z0;have r8:z.tmod 8=z % 8:=Int.tmod_eq_emod_of_nonneg z0;have r4:z.tmod 4=z % 4:=Int.tmod_eq_emod_of_nonneg z0;have v16:IntKind.i64.wrap (z % 16)=z % 16:=w6;have v8:IntKind.i64.wrap (z % 8)=z % 8:=w6;have v4:IntKind.i64.wrap (z % 4)=z % 4:=w6;have hp:p.upto B:=by unfold Gp.upto;omega
    have hq:q.upto B:=by unfold Gp.upto;omega
    by_cases l0:N=0
    ·subst l0
     go_upto_if 113 with (with_reducible first|refine alA hS zeroValue29 fun b9 wb9 hS=>?_|refine stA (u:=.agg #[_,_]) 3 hS sizeOf29 fun _ hS=>?_)
     go_cut [] (fun wx=>∃ p q:Gp,p.upto B∧q.upto B∧Heap w wx [.frz (Old w) w,.row (.slice (ad) (0) c2) 95 4 (0) (os.flatMap sc),.blk b8 (.cells #[.int .i64 p.x,.int .i64 p.y] 29 (0,0)),.blk b9 (.cells #[.int .i64 q.x,.int .i64 q.y] 29 (0,0))])
     case first =>
      by_cases c7:z % 16=7
      ·have c7b:(z % 16 == 7)=true:=by simpa using c7
       go_wp2_with (with_reducible first|refine ldB 2 hS isAgg3 ?_|refine stA (u:=.int .i64 _) 3 hS sizeOf3 fun _ hS=>?_)
       go_meet
       case rel=>exact⟨p,⟨q.x,p.y⟩,hp,⟨hq.1,hp.2⟩,hS⟩
      ·have c7b:(z % 16 == 7)=false:=by simpa using c7
       go_wp2_with (fail)
       go_meet
       case rel=>exact⟨p,q,hp,hq,hS⟩
     case rest =>
      clear hS;obtain⟨p,q,hp,hq,hS⟩:=hcut;have HE:∀ w,(Op.equalIn 10000 29 (.agg #[.int .i64 p.x,.int .i64 p.y]) (.agg #[.int .i64 q.x,.int .i64 q.y])).run Tryz.prog w=.ok (decide (p=q)) w:=fun w=>equalG p q w
      go_upto_if 119 with (with_reducible first|refine ldA 2 hS isAgg29 sizeOf29 ?_|refine ldA 3 hS isAgg29 sizeOf29 ?_)
      go_cut [] (fun wx=>∃ p q:Gp,p.upto (B+2)∧q.upto (B+2)∧p≠q∧Heap w wx [.frz (Old w) w,.row (.slice (ad) (0) c2) 95 4 (0) (os.flatMap sc),.blk b8 (.cells #[.int .i64 p.x,.int .i64 p.y] 29 (0,0)),.blk b9 (.cells #[.int .i64 q.x,.int .i64 q.y] 29 (0,0))])
      case first =>
       unfold Gp.upto at hp hq
       by_cases ce:p=q
       ·subst ce
        have cb:decide (p=p)=true:=by simp
        have x1:IntKind.i64.wrap (p.x+1)=p.x+1:=w6;have x2:z.tmod 3=z % 3:=Int.tmod_eq_emod_of_nonneg z0;have x3:IntKind.i64.wrap (z % 3)=z % 3:=w6;have x4:IntKind.i64.wrap (p.y+z % 3)=p.y+z % 3:=w6
        go_wp2_with (with_reducible first|refine ldB 2 hS isAgg3 ?_|refine stA (u:=.agg #[_,_]) 3 hS sizeOf29 fun _ hS=>?_)
        go_meet
        case rel=>exact⟨p,⟨p.x+1,p.y+z % 3⟩,by unfold Gp.upto;omega,by unfold Gp.upto;simp only;omega,fun e=>by have:=congrArg Gp.x e;simp only at this;omega,hS⟩
       ·have cb:decide (p=q)=false:=by simpa using ce
        replace ce:=Hd ce
        go_wp2_with (fail)
        go_meet
        case rel=>exact⟨p,q,by unfold Gp.upto;omega,by unfold Gp.upto;omega,ce.out,hS⟩
      case rest =>
       clear hS HE;obtain⟨p,q,hp,hq,hne,hS⟩:=hcut;replace hne:=Hd hne
       go_wp2_with (first|(with_reducible first|refine ldA 2 hS isAgg29 sizeOf29 ?_|refine ldA 3 hS isAgg29 sizeOf29 ?_)|((with_reducible refine g_bs (T:=23) ?_);refine seq_bs1 (T:=23) (v:=.agg #[.int .i64 _,.int .i64 _,.int .i64 _,.int .i64 _]) hS underlying23 sizeOf95 zeroValue95 rfl rfl rfl (by decide) (by decide) rfl (fun bl wbl hS=>?_);simp only [NRM];simp only [Value.cells] at hS)|((with_reducible refine g_app ?_);refine seq_append_lit (t:=23) 1 hS underlying23 infoS rfl (by decide) rfl rfl rfl rfl (by simp [Value.oneCell']) (by omega) (by unfold maxLen;omega) (fun ad2 cp2 _ hS=>?_);simp only [NRM];simp only [NRH] at hS))
       have hup2:SegsUp (os++[⟨p,q⟩]):=by
        have e:(32:Int)+2*((os++[(⟨p,q⟩:Sz)]).length:Nat)=B+2:=by rw [hB];simp;omega
        intro s hs;rw [e]
        rcases List.mem_append.1 hs with h|h
        ·obtain⟨h1,h2,h3⟩:=hup.out s h
         have e2:(32:Int)+2*(os.length:Nat)=B:=by rw [hB];omega
         rw [e2] at h1 h2;unfold Gp.upto at h1 h2 ⊢;exact⟨by omega,by omega,h3⟩
        ·rw [List.mem_singleton] at h
         subst h;exact⟨hp,hq,hne.out⟩
       have hl2:(os++[(⟨p,q⟩:Sz)]).length=(0)+1:=by rw [List.length_append,List.length_singleton,hN]
       have hf2:(os++[(⟨p,q⟩:Sz)]).flatMap sc=os.flatMap sc++[.int .i64 p.x,.int .i64 p.y,.int .i64 q.x,.int .i64 q.y]:=by simp [sc]
       replace hup2:=Hd hup2;replace hl2:=Hd hl2;replace hf2:=Hd hf2;go_roundw
       case rel=>exact⟨k+1,os++[⟨p,q⟩],ad2,cp2,by omega,by rw [hl2.out];omega,by simp,by rw [hl2.out],hup2.out,by rw [hl2.out,hf2.out];exact hS.sb⟩
       case measure=>simp [intOf];omega
    ·obtain⟨g,hg⟩:=hS.rowAt 1 rfl (by omega)
     subst hg;obtain⟨M,hM⟩:∃ M,M+1=N:=⟨N - 1,by omega⟩;have hMI:M<N:=by omega
     have hMl:M<os.length:=by omega
     have wN:IntKind.i64.wrap ((N:Int) - 1)=(M:Int):=w7;obtain⟨s,hs⟩:∃ s,nth s0 os M=s:=⟨_,rfl⟩;obtain⟨hc1,hc2,hc3⟩:=sc_half hMl hs;obtain⟨sa1,sb1,_⟩:=hup.out s (by rw [← hs];exact nth_mem s0 os M hMl)
     obtain⟨I,hI⟩:∃ I:Nat,z / 16 % (N:Int)=(I:Int):=⟨(z / 16 % (N:Int)).toNat,by
      have:=Int.emod_nonneg (z / 16) (show (N:Int)≠0 by omega);omega⟩
     have hIN:I<N:=by have:=Int.emod_lt_of_pos (z / 16) (show (0:Int)<N by omega);omega
     have hIl:I<os.length:=by omega
     have hIt:(z / 16).tmod (N:Int)=(I:Int):=by rw [Int.tmod_eq_emod_of_nonneg (by omega)];exact hI
     have wI:IntKind.i64.wrap (I:Int)=(I:Int):=w6;have nz:((N:Int) == 0)=false:=by rw [beq_eq_false_iff_ne];omega
     obtain⟨t,ht⟩:∃ t,nth s0 os I=t:=⟨_,rfl⟩;obtain⟨hd1,hd2,hd3⟩:=sc_half hIl ht;obtain⟨ta1,tb1,_⟩:=hup.out t (by rw [← ht];exact nth_mem s0 os I hIl);have eB:(32:Int)+2*(os.length:Nat)=B:=by rw [hB];omega
     rw [eB] at sa1 sb1 ta1 tb1;have hta:=ta1;have htb:=tb1;unfold Gp.upto at hta htb;have y1:IntKind.i64.wrap (t.a.x+t.b.x)=t.a.x+t.b.x:=w6;have y2:IntKind.i64.wrap (t.a.y+t.b.y)=t.a.y+t.b.y:=w6;have y3:(t.a.x+t.b.x).tdiv 2=(t.a.x+t.b.x) / 2:=Int.tdiv_eq_ediv_of_nonneg (by omega);have y4:(t.a.y+t.b.y).tdiv 2=(t.a.y+t.b.y) / 2:=Int.tdiv_eq_ediv_of_nonneg (by omega);have y5:IntKind.i64.wrap ((t.a.x+t.b.x) / 2)=(t.a.x+t.b.x) / 2:=w6;have y6:IntKind.i64.wrap ((t.a.y+t.b.y) / 2)=(t.a.y+t.b.y) / 2:=w6;have hmid:(⟨(t.a.x+t.b.x) / 2,(t.a.y+t.b.y) / 2⟩:Gp).upto B:=by unfold Gp.upto;simp only;omega
     clear hs ht hM eB;have e0:decide (0<N)=true:=by rw [decide_eq_true_iff];omega
     go_upto_if 44 with (with_reducible first|refine alA hS zeroValue29 fun b9 wb9 hS=>?_|refine stA (u:=.agg #[_,_]) 3 hS sizeOf29 fun _ hS=>?_)
     go_cut [] (fun wx=>∃ p q:Gp,p.upto B∧q.upto B∧Heap w wx [.frz (Old w) w,.row (.slice (some ⟨g,0,none⟩) (N) c2) 95 4 (N) (os.flatMap sc),.blk b8 (.cells #[.int .i64 p.x,.int .i64 p.y] 29 (0,0)),.blk b9 (.cells #[.int .i64 q.x,.int .i64 q.y] 29 (0,0))])
     case first =>
      by_cases c1:z % 4=1
      ·have cb:(z % 4 == 1)=true:=by simpa using c1
       replace c1:=Hd c1
       go_wp2_with (first|((with_reducible refine g_idx (T:=23) ?_);refine seq_any rfl (any_index_atk (T:=23) underlying23 sizeOf95 rfl rfl (by omega) (by omega) ?_);simp only [NRM];try simp only [Nat.zero_add,Int.toNat_natCast])|((with_reducible refine g_load (T:=29) ?_);refine seq_of hS rfl (stp_loadk_rowc (T:=29) 1 isAgg29 sizeOf29 rfl rfl hc3 rfl ?_);simp only [NRM])|(with_reducible refine stA (u:=.agg #[_,_]) 2 hS sizeOf29 fun _ hS=>?_))
       go_meet
       case rel=>exact⟨s.b,q,sb1,hq,hS⟩
      ·have cb:(z % 4 == 1)=false:=by simpa using c1
       replace c1:=Hd c1
       go_wp2_with (fail)
       go_meet
       case rel=>exact⟨p,q,hp,hq,hS⟩
     case rest =>
      clear hS;obtain⟨p,q,hp,hq,hS⟩:=hcut
      go_upto_region 10 with (fail)
      go_cut [59] (fun v wx=>∃ b:Bool,v=.bool b∧Heap w wx [.frz (Old w) w,.row (.slice (some ⟨g,0,none⟩) N c2) 95 4 N (os.flatMap sc),.blk b8 (.cells #[.int .i64 p.x,.int .i64 p.y] 29 (0,0)),.blk b9 (.cells #[.int .i64 q.x,.int .i64 q.y] 29 (0,0))])
      case first =>
       by_cases l2:2<N
       ·have e2:decide (2<N)=true:=by rw [decide_eq_true_iff];omega
        go_wp2_with (fail)
        go_meet
        case rel=>exact⟨_,rfl,hS⟩
       ·have e2:decide (2<N)=false:=by rw [decide_eq_false_iff_not];omega
        go_wp2_with (fail)
        go_meet
        case rel=>exact⟨_,rfl,hS⟩
      case rest =>
       clear hS;obtain⟨b,rfl,hS⟩:=hcut
       go_upto_if 59 with (fail)
       go_cut [] (fun wx=>∃ p q:Gp,p.upto B∧q.upto B∧Heap w wx [.frz (Old w) w,.row (.slice (some ⟨g,0,none⟩) (N) c2) 95 4 (N) (os.flatMap sc),.blk b8 (.cells #[.int .i64 p.x,.int .i64 p.y] 29 (0,0)),.blk b9 (.cells #[.int .i64 q.x,.int .i64 q.y] 29 (0,0))])
       case first =>
        cases b with
        | true =>
         go_wp2_with (first|((with_reducible refine g_idx (T:=23) ?_);refine seq_any rfl (any_index_atk (T:=23) underlying23 sizeOf95 rfl rfl (by omega) (by omega) ?_);simp only [NRM];try simp only [Nat.zero_add,Int.toNat_natCast])|((with_reducible refine g_load (T:=29) ?_);refine seq_of hS rfl (stp_loadk_rowc (T:=29) 1 isAgg29 sizeOf29 rfl rfl hc3 rfl ?_);simp only [NRM])|((with_reducible refine g_load (T:=29) ?_);refine seq_of hS rfl (stp_loadk_rowc (T:=29) 1 isAgg29 sizeOf29 rfl rfl hd2 rfl ?_);simp only [NRM])|(with_reducible first|refine stA (u:=.agg #[_,_]) 2 hS sizeOf29 fun _ hS=>?_|refine stA (u:=.agg #[_,_]) 3 hS sizeOf29 fun _ hS=>?_))
         go_meet
         case rel=>exact⟨s.b,t.a,sb1,ta1,hS⟩
        | false =>
         go_wp2_with (fail)
         go_meet
         case rel=>exact⟨p,q,hp,hq,hS⟩
       case rest =>
        clear hS;obtain⟨p,q,hp,hq,hS⟩:=hcut
        go_upto_if 83 with (fail)
        go_cut [] (fun wx=>∃ p q:Gp,p.upto B∧q.upto B∧Heap w wx [.frz (Old w) w,.row (.slice (some ⟨g,0,none⟩) (N) c2) 95 4 (N) (os.flatMap sc),.blk b8 (.cells #[.int .i64 p.x,.int .i64 p.y] 29 (0,0)),.blk b9 (.cells #[.int .i64 q.x,.int .i64 q.y] 29 (0,0))])
        case first =>
         by_cases c1:z % 16=3
         ·have cb:(z % 16 == 3)=true:=by simpa using c1
          replace c1:=Hd c1
          go_wp2_with (first|((with_reducible refine g_idx (T:=23) ?_);refine seq_any rfl (any_index_atk (T:=23) underlying23 sizeOf95 rfl rfl (by omega) (by omega) ?_);simp only [NRM];try simp only [Nat.zero_add,Int.toNat_natCast])|((with_reducible refine g_load (T:=95) ?_);refine seq_of hS rfl (stp_loadk_rowc (T:=95) 1 isAgg95 sizeOf95 rfl rfl hd1 rfl ?_);simp only [NRM])|(with_reducible first|refine alA hS zeroValue95 fun b10 wb10 hS=>?_|refine stA (u:=.agg #[_,_,_,_]) 4 hS sizeOf95 fun _ hS=>?_|refine ldK 4 hS isAgg29 sizeOf29 ?_|refine ldB 4 hS isAgg3 ?_|refine stA (u:=.agg #[_,_]) 2 hS sizeOf29 fun _ hS=>?_|refine stA (u:=.agg #[_,_]) 3 hS sizeOf29 fun _ hS=>?_))
          go_meet
          case rel=>exact⟨t.a,_,ta1,hmid,hS.sb⟩
         ·have cb:(z % 16 == 3)=false:=by simpa using c1
          replace c1:=Hd c1
          go_wp2_with (fail)
          go_meet
          case rel=>exact⟨p,q,hp,hq,hS⟩
        case rest =>
         clear hS;obtain⟨p,q,hp,hq,hS⟩:=hcut
         go_upto_if 113 with (fail)
         go_cut [] (fun wx=>∃ p q:Gp,p.upto B∧q.upto B∧Heap w wx [.frz (Old w) w,.row (.slice (some ⟨g,0,none⟩) (N) c2) 95 4 (N) (os.flatMap sc),.blk b8 (.cells #[.int .i64 p.x,.int .i64 p.y] 29 (0,0)),.blk b9 (.cells #[.int .i64 q.x,.int .i64 q.y] 29 (0,0))])
         case first =>
          by_cases c7:z % 16=7
          ·have c7b:(z % 16 == 7)=true:=by simpa using c7
           go_wp2_with (with_reducible first|refine ldB 2 hS isAgg3 ?_|refine stA (u:=.int .i64 _) 3 hS sizeOf3 fun _ hS=>?_)
           go_meet
           case rel=>exact⟨p,⟨q.x,p.y⟩,hp,⟨hq.1,hp.2⟩,hS⟩
          ·have c7b:(z % 16 == 7)=false:=by simpa using c7
           go_wp2_with (fail)
           go_meet
           case rel=>exact⟨p,q,hp,hq,hS⟩
         case rest =>
          clear hS;obtain⟨p,q,hp,hq,hS⟩:=hcut;have HE:∀ w,(Op.equalIn 10000 29 (.agg #[.int .i64 p.x,.int .i64 p.y]) (.agg #[.int .i64 q.x,.int .i64 q.y])).run Tryz.prog w=.ok (decide (p=q)) w:=fun w=>equalG p q w
          go_upto_if 119 with (with_reducible first|refine ldA 2 hS isAgg29 sizeOf29 ?_|refine ldA 3 hS isAgg29 sizeOf29 ?_)
          go_cut [] (fun wx=>∃ p q:Gp,p.upto (B+2)∧q.upto (B+2)∧p≠q∧Heap w wx [.frz (Old w) w,.row (.slice (some ⟨g,0,none⟩) (N) c2) 95 4 (N) (os.flatMap sc),.blk b8 (.cells #[.int .i64 p.x,.int .i64 p.y] 29 (0,0)),.blk b9 (.cells #[.int .i64 q.x,.int .i64 q.y] 29 (0,0))])
          case first =>
           unfold Gp.upto at hp hq
           by_cases ce:p=q
           ·subst ce
            have cb:decide (p=p)=true:=by simp
            have x1:IntKind.i64.wrap (p.x+1)=p.x+1:=w6;have x2:z.tmod 3=z % 3:=Int.tmod_eq_emod_of_nonneg z0;have x3:IntKind.i64.wrap (z % 3)=z % 3:=w6;have x4:IntKind.i64.wrap (p.y+z % 3)=p.y+z % 3:=w6
            go_wp2_with (with_reducible first|refine ldB 2 hS isAgg3 ?_|refine stA (u:=.agg #[_,_]) 3 hS sizeOf29 fun _ hS=>?_)
            go_meet
            case rel=>exact⟨p,⟨p.x+1,p.y+z % 3⟩,by unfold Gp.upto;omega,by unfold Gp.upto;simp only;omega,fun e=>by have:=congrArg Gp.x e;simp only at this;omega,hS⟩
           ·have cb:decide (p=q)=false:=by simpa using ce
            replace ce:=Hd ce
            go_wp2_with (fail)
            go_meet
            case rel=>exact⟨p,q,by unfold Gp.upto;omega,by unfold Gp.upto;omega,ce.out,hS⟩
          case rest =>
           clear hS HE;obtain⟨p,q,hp,hq,hne,hS⟩:=hcut;replace hne:=Hd hne
           go_wp2_with (first|(with_reducible first|refine ldA 2 hS isAgg29 sizeOf29 ?_|refine ldA 3 hS isAgg29 sizeOf29 ?_)|((with_reducible refine g_bs (T:=23) ?_);refine seq_bs1 (T:=23) (v:=.agg #[.int .i64 _,.int .i64 _,.int .i64 _,.int .i64 _]) hS underlying23 sizeOf95 zeroValue95 rfl rfl rfl (by decide) (by decide) rfl (fun bl wbl hS=>?_);simp only [NRM];simp only [Value.cells] at hS)|((with_reducible refine g_app ?_);refine seq_append_lit (t:=23) 1 hS underlying23 infoS rfl (by decide) rfl rfl rfl rfl (by simp [Value.oneCell']) (by omega) (by unfold maxLen;omega) (fun ad2 cp2 _ hS=>?_);simp only [NRM];simp only [NRH] at hS))
           have hup2:SegsUp (os++[⟨p,q⟩]):=by
            have e:(32:Int)+2*((os++[(⟨p,q⟩:Sz)]).length:Nat)=B+2:=by rw [hB];simp;omega
            intro s hs;rw [e]
            rcases List.mem_append.1 hs with h|h
            ·obtain⟨h1,h2,h3⟩:=hup.out s h
             have e2:(32:Int)+2*(os.length:Nat)=B:=by rw [hB];omega
             rw [e2] at h1 h2;unfold Gp.upto at h1 h2 ⊢;exact⟨by omega,by omega,h3⟩
            ·rw [List.mem_singleton] at h
             subst h;exact⟨hp,hq,hne.out⟩
           have hl2:(os++[(⟨p,q⟩:Sz)]).length=(N)+1:=by rw [List.length_append,List.length_singleton,hN]
           have hf2:(os++[(⟨p,q⟩:Sz)]).flatMap sc=os.flatMap sc++[.int .i64 p.x,.int .i64 p.y,.int .i64 q.x,.int .i64 q.y]:=by simp [sc]
           replace hup2:=Hd hup2;replace hl2:=Hd hl2;replace hf2:=Hd hf2;go_roundw
           case rel=>exact⟨k+1,os++[⟨p,q⟩],ad2,cp2,by omega,by rw [hl2.out];omega,by simp,by rw [hl2.out],hup2.out,by rw [hl2.out,hf2.out];exact hS.sb⟩
           case measure=>simp [intOf];omega
   ·replace hup:=Hd hup
    have hlm2:decide (os.length<m)=false:=by rw [decide_eq_false_iff_not];omega
    go_wp2;go_ret;exact⟨os,ad,c2,rfl,hup.out,hom,hS⟩
  ·obtain rfl:k=xs.length:=by omega
   replace hup:=Hd hup;go_wp2;go_ret;exact⟨os,ad,c2,rfl,hup.out,hom,hS⟩
end Go.Proofs
