/- Of FT. -/
import Derived.Test.YtjeofihncbegfaaGreatQ35
set_option maxRecDepth 100000
set_option maxHeartbeats 16000000
set_option linter.unusedVariables false
set_option linter.unusedSimpArgs false
namespace Go.Proofs
open Go.Proofs.Tryz
open Go.RowKit Go.Hp
theorem rows_cell {w:World} {S:Nat→Prop} {v:Value} {I:List (List Nat)} (h:RowsOf w S v I) {i:Nat} (hi:i<I.length):∃ (R:List (Option Addr × Nat × Nat)) (ad:Option Addr) (n c:Nat),SlC w S 1 v I.length (R.map sv)∧((R.map sv).drop (i*1)).take 1=[.slice ad n c]∧Nats w S (.slice ad n c) (nth [] I i)∧n=(nth [] I i).length:=by
 obtain⟨R,h1,h2,h3⟩:=h;have h4:=h3 i hi;have hr:i<R.length:=by omega
 refine⟨R,(nth (none,0,0) R i).1,(nth (none,0,0) R i).2.1,(nth (none,0,0) R i).2.2,h2,?_,h4,Nats.len h4⟩;rw [Nat.mul_one,nth_eq _ _ _ hr,List.drop_eq_getElem_cons (by simpa using hr)];simp [sv]
theorem good_any (s1 s2 s3 s4 s5:Option Addr × Nat × Nat) (f:FRec) (m n M:Nat) (org:Nat→Nat) (hasE:Nat→Bool) (w:World) (hf:IsFc w (Old w) s1 s2 s3 s4 s5 f) (hg:FGood m n org hasE f) (hM:2*m=M) (hm:m≤30000) (hn:n≤65536) :
 Calls Tryz.prog 19 #[.agg #[sv s1,sv s2,sv s3,sv s4,sv s5],.int .i64 (M:Int),.int .i64 (n:Int)] w fun e w'=>e=.returned (.bool true)∧Pure w (fun _=>False) w' (fun _=>False):=by
 obtain⟨an,nn,cn⟩:=s1;obtain⟨al,nl,cl⟩:=s2;obtain⟨ao,no,co⟩:=s3;obtain⟨ai,ni,ci⟩:=s4;obtain⟨aa,na,ca⟩:=s5;have hN:Nats w (Old w) (.slice an nn cn) f.N:=hf.n;have hL:Ints w (Old w) (.slice al nl cl) f.L:=hf.l;have hO:Ints w (Old w) (.slice ao no co) f.O:=hf.o;have hI:RowsOf w (Old w) (.slice ai ni ci) f.I:=hf.i;have hA:RowsOf w (Old w) (.slice aa na ca) f.A:=hf.a;obtain rfl:nn=M:=by rw [hN.len,hg.nlen,hM]
 obtain rfl:nl=nn:=by rw [hL.len,hg.llen,hM]
 obtain⟨k,hk⟩:∃ k,f.O.length=k:=⟨_,rfl⟩;obtain rfl:no=k:=by rw [hO.len,hk]
 obtain rfl:ni=no:=by obtain⟨R,h1,h2,_⟩:=hI;obtain⟨_,a,c,e,_⟩:=h2;cases e;rw [hg.ilen,hk]
 obtain rfl:na=ni:=by obtain⟨R,h1,h2,_⟩:=hA;obtain⟨_,a,c,e,_⟩:=h2;cases e;rw [hg.alen,hk]
 have hil:=hg.ilen;have hal:=hg.alen;rw [hk] at hil hal;have hop:=hg.opos;have hole:=hg.olen;rw [hk] at hop hole;rw [hM] at hole;have hM6:nl≤60000:=by omega
 have hnb:∀ h,h<nl→nth 0 f.N h<nl:=fun h hh=>by have:=hg.perm.lt h (by rw [hg.nlen];omega);rw [hg.nlen] at this;omega
 have hlb:∀ h,h<nl→∃ i:Nat,i<na∧nth 0 f.L h=(i:Int):=fun h hh=>by have:=hg.lr h (by omega);rwa [hk] at this
 have hob:∀ i,i<na→i=0∧nth 0 f.O i = -1∨0<i∧∃ q:Nat,q<nl∧nth 0 f.O i=(q:Int):=fun i hi=>by
  by_cases h0:i=0
  ·subst h0;exact .inl ⟨rfl,hg.o0⟩
  ·obtain⟨q,h1,h2,_⟩:=hg.on i (by omega) (by rw [hk];exact hi)
   exact .inr ⟨by omega,q,by omega,h1⟩
 have hib:∀ i,i<na→∀ j,j<(nth [] f.I i).length→nth 0 (nth [] f.I i) j<nl:=fun i hi j hj=>by have:=(hg.im i (by rw [hk];exact hi) _ (nth_mem 0 _ j hj)).1;omega
 have hab:∀ i,i<na→∀ j,j<(nth [] f.A i).length→nth 0 (nth [] f.A i) j<n:=fun i hi j hj=>hg.am i (by rw [hk];exact hi) _ (nth_mem 0 _ j hj)
 have hcI:=fun i hi=>rows_cell hI (i:=i) (by rw [hil];exact hi)
 have hcA:=fun i hi=>rows_cell hA (i:=i) (by rw [hal];exact hi)
 have hIl:∀ i,i<na→(nth [] f.I i).length≤60000:=fun i hi=>by have:=hg.ilen_le (i:=i) (by rw [hk];exact hi);omega
 have hAl:∀ i,i<na→(nth [] f.A i).length≤65536:=fun i hi=>by have:=hg.alen_le (i:=i) (by rw [hk];exact hi);omega
 have hLn:=hg.llen;have hNn:=hg.nlen;rw [hM] at hLn hNn;simp only [sv];replace hnb:=Hd hnb;replace hlb:=Hd hlb;replace hob:=Hd hob;replace hib:=Hd hib;replace hab:=Hd hab;replace hcI:=Hd hcI;replace hcA:=Hd hcA;replace hIl:=Hd hIl;replace hAl:=Hd hAl;replace hk:=Hd hk;clear hf hg hI hA;have hS:=Heap.start w;have d1:decide ((na:Int)<1)=false:=by simp;omega
 go_enter func19,ntmps19
 go_wp2_with (with_reducible first|refine bxA hS fun b3 wb3 hS=>?_|refine ldB 1 hS isAgg22 ?_|refine ldB 1 hS isAgg35 ?_)
 try try simp only [NRG]
 go_loopw [7] (fun v7 wr=>∃ h:Nat,h≤nl∧v7=.int .i64 (h:Int)∧Heap w wr [.frz (Old w) w,.blk b3 (.cells #[.slice an nl cn,.slice al nl cl,.slice ao na co,.slice ai na ci,.slice aa na ca] 37 (0,0))]) (fun v7 _=>nl - (intOf v7).toNat)
 case atStart=>exact⟨0,by omega,rfl,hS⟩
 case round =>
  clear hS;obtain⟨h,hh,rfl,hS⟩:=hrel
  by_cases hhl:h<nl
  ·have e1:=hnb.out h hhl
   obtain⟨i,e2,e3⟩:=hlb.out h hhl;have q1:decide (((nth 0 f.N h:Nat):Int)<0)=false:=by simp
   have q2:decide ((nl:Int)≤((nth 0 f.N h:Nat):Int))=false:=by simp;omega
   have q3:decide (nth 0 f.L h<0)=false:=by rw [e3];simp
   have q4:decide ((na:Int)≤nth 0 f.L h)=false:=by rw [e3];simp;omega
   have q2':decide (nl≤nth 0 f.N h)=false:=by simp;omega
   replace e3:=Hd e3;go_wp2;refine rg0 [.p 0,.r 1,.p 2,.p 3,.r 4,.p 5,.p 6,.p 7,.r 8,.p 9,.p 10,.r 11,.p 12,.p 13,.p 14,.p 15,.p 16,.r 17,.p 18,.p 19,.r 20,.p 21,.p 22,.p 23,.p 24,.r 25,.p 26,.p 27,.r 28,.p 29,.r 30,.p 31,.p 32,.p 33] [] hS fun w1 hS=>?_
   repeat (with_reducible first|refine sldB 1 isAgg22 ?_|refine sixN underlying22 sizeOf3 fun _ _ _=>?_|refine sixI underlying22 sizeOf3 fun _ _ _=>?_|refine sld0 isAgg3 ?_|refine spL ?_)
   refine snL ?_;go_wp2;go_roundw
   case rel=>exact⟨h+1,by omega,by simp,hS⟩
   case measure=>simp [intOf];omega
  ·obtain rfl:nl=h:=by omega
   clear hhl hh hnb hlb
   go_wp2_with (with_reducible refine ldB 1 hS isAgg22 ?_)
   go_loopw [8] (fun v8 wr=>∃ i:Nat,i≤na∧v8=.int .i64 (i:Int)∧Heap w wr [.frz (Old w) w,.blk b3 (.cells #[.slice an nl cn,.slice al nl cl,.slice ao na co,.slice ai na ci,.slice aa na ca] 37 (0,0))]) (fun v8 _=>na - (intOf v8).toNat)
   case atStart=>exact⟨0,by omega,rfl,hS⟩
   case round =>
    clear hS;obtain⟨i,hi,rfl,hS⟩:=hrel
    by_cases hil2:i<na
    ·have o1:decide (nth 0 f.O i < -1)=false∧decide ((nl:Int)≤nth 0 f.O i)=false∧decide (nth 0 f.O i<0)=decide (i=0):=by
      rcases hob.out i hil2 with ⟨rfl,e⟩|⟨h0,q,hq,e⟩
      ·rw [e];simp;omega
      ·rw [e];simp;omega
     obtain⟨o1,o2,o3⟩:=o1;have o4:((i:Int) == 0)=decide (i=0):=by by_cases h0:i=0 <;> simp [h0]
     obtain⟨R,ad,nq,cq,hsl,hcell,hrow,hnq⟩:=hcI.out i hil2;obtain⟨R2,ad2,nq2,cq2,hsl2,hcell2,hrow2,hnq2⟩:=hcA.out i hil2;have hle1:=hIl.out i hil2;have hle2:=hAl.out i hil2;have hb1:=Hd (hib.out i hil2);have hb2:=Hd (hab.out i hil2);subst hnq hnq2;rw [hil] at hsl;rw [hal] at hsl2
     go_wp2_with (with_reducible first|refine ldB 1 hS isAgg22 ?_|refine ixI underlying22 sizeOf3 fun _ _ _=>?_|refine ld0 hS isAgg3 ?_)
     go_loopw [9] (fun v9 wr=>∃ j:Nat,j≤(nth [] f.I i).length∧v9=.int .i64 (j:Int)∧Heap w wr [.frz (Old w) w,.blk b3 (.cells #[.slice an nl cn,.slice al nl cl,.slice ao na co,.slice ai na ci,.slice aa na ca] 37 (0,0))]) (fun v9 _=>(nth [] f.I i).length - (intOf v9).toNat)
     case atStart=>exact⟨0,by omega,rfl,hS⟩
     case round =>
      clear hS;obtain⟨j,hj,rfl,hS⟩:=hrel
      by_cases hjl:j<(nth [] f.I i).length
      ·have hy:=hb1.out j hjl
       have y1:decide (((nl:Nat):Int)≤((nth 0 (nth [] f.I i) j:Nat):Int))=false:=by simp;omega
       have y2:decide (nl≤nth 0 (nth [] f.I i) j)=false:=by simp;omega
       go_wp2_with (first|(with_reducible first|refine ldB 1 hS isAgg35 ?_|refine ixE underlying35 sizeOf22 hsl hcell fun bq oq hcellq=>?_)|((with_reducible refine g_load (T:=22) ?_);refine seq_of hS rfl (stp_load (T:=22) isAgg22 rfl (by with_reducible assumption) (by simp) rfl ?_);simp only [NRM])|(with_reducible first|refine ixN underlying22 sizeOf3 fun _ _ _=>?_|refine ld0 hS isAgg3 ?_))
       go_roundw
       case rel =>
        exact⟨j+1,by omega,by simp,hS⟩
       case measure=>simp [intOf];omega
      ·obtain rfl:(nth [] f.I i).length=j:=by omega
       clear hjl hj
       go_wp2_with (first|(with_reducible first|refine ldB 1 hS isAgg35 ?_|refine ixE underlying35 sizeOf22 hsl hcell fun bq oq hcellq=>?_)|((with_reducible refine g_load (T:=22) ?_);refine seq_of hS rfl (stp_load (T:=22) isAgg22 rfl (by with_reducible assumption) (by simp) rfl ?_);simp only [NRM]))
       go_loopw [10] (fun v10 wr=>∃ j:Nat,j≤(nth [] f.A i).length∧v10=.int .i64 (j:Int)∧Heap w wr [.frz (Old w) w,.blk b3 (.cells #[.slice an nl cn,.slice al nl cl,.slice ao na co,.slice ai na ci,.slice aa na ca] 37 (0,0))]) (fun v10 _=>(nth [] f.A i).length - (intOf v10).toNat)
       case atStart=>exact⟨0,by omega,rfl,hS⟩
       case round =>
        clear hS;obtain⟨j,hj,rfl,hS⟩:=hrel
        by_cases hjl:j<(nth [] f.A i).length
        ·have hy:=hb2.out j hjl
         have y1:decide (((n:Nat):Int)≤((nth 0 (nth [] f.A i) j:Nat):Int))=false:=by simp;omega
         have y2:decide (n≤nth 0 (nth [] f.A i) j)=false:=by simp;omega
         go_wp2_with (first|(with_reducible first|refine ldB 1 hS isAgg35 ?_|refine ixE underlying35 sizeOf22 hsl2 hcell2 fun bq oq hcellq=>?_)|((with_reducible refine g_load (T:=22) ?_);refine seq_of hS rfl (stp_load (T:=22) isAgg22 rfl (by with_reducible assumption) (by simp) rfl ?_);simp only [NRM])|(with_reducible first|refine ixN underlying22 sizeOf3 fun _ _ _=>?_|refine ld0 hS isAgg3 ?_))
         go_roundw
         case rel =>
          exact⟨j+1,by omega,by simp,hS⟩
         case measure=>simp [intOf];omega
        ·obtain rfl:(nth [] f.A i).length=j:=by omega
         clear hjl hj
         go_wp2_with (first|(with_reducible first|refine ldB 1 hS isAgg35 ?_|refine ixE underlying35 sizeOf22 hsl2 hcell2 fun bq oq hcellq=>?_)|((with_reducible refine g_load (T:=22) ?_);refine seq_of hS rfl (stp_load (T:=22) isAgg22 rfl (by with_reducible assumption) (by simp) rfl ?_);simp only [NRM]))
         go_roundw
         case rel=>exact⟨i+1,by omega,by simp,hS⟩
         case measure=>simp [intOf];omega
    ·go_wp2_with (with_reducible refine ldB 1 hS isAgg22 ?_)
     go_ret;exact⟨rfl,(hS.toBelow (by simp)),hS.drawn,fun k h=>h.elim,fun k h=>.inl h⟩
end Go.Proofs
