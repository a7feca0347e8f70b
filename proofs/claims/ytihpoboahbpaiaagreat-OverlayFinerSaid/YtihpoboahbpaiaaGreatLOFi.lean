/- OverlayFiner holds: for all maps made from numbers, all of them together, taken as one map, are finer than each of them, and each map is finer than itself. No conditions. -/
import Derived.ProofKit
import Derived.ShutString
import Derived.ChangeOld
import Derived.Below
import Derived.Test.YtihpoboahbpaiaaGreatR16
set_option maxRecDepth 100000
set_option maxHeartbeats 16000000
set_option linter.unusedVariables false
set_option linter.unusedSimpArgs false
namespace Go.Proofs
open Go.Proofs.Tryz
open Go.RowKit Go.Hp
theorem equalI2 (a b c d:Int) (w:World):(Op.equalIn 10000 84 (.agg #[.int .i64 a,.int .i64 b]) (.agg #[.int .i64 c,.int .i64 d])).run Tryz.prog w=.ok (decide (a=c) && decide (b=d)) w:=by
 have a3:=isAgg3;have z3:=sizeOf3;obtain⟨i,hi,_⟩:=info_parts tQ;have hc:Tryz.prog.cellsOf 3=1:=by kernel_rfl
 rw [show 10000=9998+1+1 from rfl,run_equalIn_array w (9998+1) _ _ underlying84 hi,hc]
 have hcell:∀ (a b:Int),(Op.equalIn (9998+1) 3 (.int .i64 a) (.int .i64 b)).run Tryz.prog w=.ok (decide (a=b)) w:=fun a b=>by
  have:=run_equalIn_int (P:=Tryz.prog) w 9998 3 .i64 .i64 a b underlying3;rw [this]
  by_cases h:a=b <;> simp [h]
 generalize 9998=n at hcell;rw [show List.range 2=[0,1] from rfl];simp only [Op.eqItems];simp [part,a3,z3,hcell,hc]
 by_cases h1:a=c <;> by_cases h2:b=d <;> simp [h1,h2]
end Go.Proofs
namespace Go.Hp
open Go.Proofs.Tryz
open Go Go.RowKit
theorem fill2l (a b c d:Value):Instr.fill (fun i=>some (i*2,2)) ((Array.range (2*2)).map ((Value.agg #[.slice none 0 0,.slice none 0 0]).cells[· % (Value.agg #[.slice none 0 0,.slice none 0 0]).cells.size]!)) [(0,.agg #[a,b]),(1,.agg #[c,d])]=some #[a,b,c,d]:=by
 have hh:((Array.range (2*2)).map ((Value.agg #[.slice none 0 0,.slice none 0 0]).cells[· % (Value.agg #[.slice none 0 0,.slice none 0 0]).cells.size]!))=#[.slice none 0 0,.slice none 0 0,.slice none 0 0,.slice none 0 0]:=by
  apply Array.ext';simp [Array.range,List.ofFn_succ,Value.cells]
 rw [hh];simp [Instr.fill,Value.cells]
end Go.Hp
namespace Go.Proofs
open Go.Proofs.Tryz
open Go.RowKit Go.Hp
def sqZ (a b:Int):List Sz:=[⟨⟨a,a⟩,⟨b,a⟩⟩,⟨⟨b,a⟩,⟨b,b⟩⟩,⟨⟨b,b⟩,⟨a,b⟩⟩,⟨⟨a,b⟩,⟨a,a⟩⟩]
theorem square11_any (a b:Int) (w:World) :
 Calls Tryz.prog 60 #[.int .i64 a,.int .i64 b] w fun e w'=>∃ ad c,e=.returned (.slice ad 4 c)∧aA w w' [.aH (Old w) w,.row (.slice ad 4 c) 95 4 4 ((sqZ a b).flatMap sc)]:=by
 have hS:=aA.start w
 go_enter func60,ntmps60
 go_wp2_with (first|((with_reducible refine dV (T:=25) ?_);refine nc (k:=2) (z:=.agg #[.int .i64 0,.int .i64 0]) (len:=4) hS underlying25 sizeOf29 zeroValue29 (by decide) (by decide) (aNb _ _ _ _ _ _ _ _) (fun b7 wb7 hS=>?_);simp only [aD];simp only [aK] at hS))
 refine dB [.p 0,.p 1,.r 2,.p 3,.p 4,.r 5,.p 6,.p 7,.p 8,.r 9,.p 10,.p 11,.r 12,.p 13,.p 14,.p 15,.r 16,.p 17,.p 18,.r 19,.p 20,.p 21,.p 22,.r 23,.p 24,.p 25,.r 26,.p 27,.e 28,.p 29] [] hS fun w1 hS=>?_
 repeat (first|((with_reducible refine kM ?_);refine j3 rfl rfl (yZ (T:=25) (k:=2) underlying25 sizeOf29 rfl rfl (by decide) (by decide) ?_);simp only [aD];simp only [Nat.reduceMul,Nat.reduceAdd,Int.reduceToNat,Nat.zero_add])|(with_reducible first|refine tf 1 isAgg29 sizeOf29 ?_|refine bU ?_))
 refine aZ ?_
 ((with_reducible refine dV (T:=23) ?_);refine nc (k:=4) (z:=.agg #[.int .i64 0,.int .i64 0,.int .i64 0,.int .i64 0]) (len:=4) hS underlying23 sizeOf95 zeroValue95 (by decide) (by decide) (aNl _ _ _ _ _ _ _ _ _ _ _ _ _ _ _ _) (fun b8 xe hS=>?_);simp only [aD];simp only [aK] at hS)
 refine aX hS.sb ?_;refine aM ?_;refine bE ?_;have hS:=hS.uj (k:=4) (m:=4) 2 rfl rfl (by decide);simp only [aK] at hS;have hS:=hS.order [0,2,1] rfl;simp only [iw] at hS;have hS:=aA.sub hS (List.sublist_append_left [_,_] [_]);go_wp2;go_ret;exact⟨_,_,rfl,hS⟩
theorem lives11_any (w:World):Calls Tryz.prog 23 #[] w fun e w'=>e=.returned (.bool true)∧Below w.heap.size w w':=by
 have hS:=aA.start w
 go_enter func23,ntmps23
 go_wp2_with (fail)
 refine (square11_any 0 4 _).mono ?_;rintro e w1 ⟨lV,cp1,rfl,cU⟩;replace hS:=hS.import cU;simp only [aK] at hS;clear cU;simp only []
 go_wp2_with (fail)
 refine (square11_any 2 6 _).mono ?_;rintro e w2 ⟨dU,gL,rfl,cU⟩;replace hS:=hS.import cU;simp only [aK] at hS;clear cU;simp only []
 go_wp2_with (first|((with_reducible refine dV (T:=62) ?_);refine nc (k:=2) (z:=.agg #[.slice none 0 0,.slice none 0 0]) (len:=2) hS underlying62 sizeOf65 zeroValue65 (by decide) (by decide) (fill2l _ _ _ _) (fun bl fX hS=>?_);simp only [aD];simp only [aK] at hS))
 have zC:=(hS.dn 1 rfl).bj;have hs2:=(hS.dn 2 rfl).bj;have hB:=hS.toBelow (by simp);have hR:=hS.uj (k:=2) (m:=2) 3 rfl rfl (by decide);simp only [List.set_cons_succ,List.set_cons_zero] at hR;obtain⟨bF,aCY⟩:∃ bF:List kr,bF=[⟨(lV,4,cp1),(none,0,0)⟩,⟨(dU,4,gL),(none,0,0)⟩]:=⟨_,rfl⟩;have hs3:bN fX (Old fX) 2 (.slice (some ⟨bl,0,none⟩) 2 2) bF.length (bF.flatMap fI):=by rw [aCY];exact (hR.dn 3 rfl).bj
 have a2c:jc fX (Old fX) bF lH:=by
  rw [aCY];refine⟨rfl,fun i hi=>?_,fun i hi=>?_⟩ <;> have h:i=0∨i=1:=(by have:i<2:=hi;omega) <;> rcases h with rfl|rfl
  ·exact zC
  ·exact hs2
  ·exact bN.nil _ _ _
  ·exact bN.nil _ _ _
 clear zC hs2 hR hS aCY;have hS:=aA.oI fX;have dY:=tb fX;refine (a57 _ _ _ bF lH _ (Old fX) (fun k h=>h) aQg hs3 a2c).mono ?_;rintro e w4 ⟨r,y0,ys,S',rfl,hq,jx,h0,iT,qi⟩;obtain⟨rfl,rfl⟩:=aPR h0 iT qi;have jn:=aJO ovY [ov1,ov2] (by rw [aGk];decide) (by rw [aGk];decide);rw [aPh] at jx jn;have kj:=hq.below;obtain⟨F,hF,hO,cK⟩:=hS.wV dY (fun k h=>h) hq;have hL:=jx.arr.live;have a4m:j8 w4 S' r.fa r.rF ovF:=jx.fK;clear hS hq h0 iT qi hs3 a2c jx;have hS:=cK;clear cK;obtain⟨g1,g2,g3,g4,r1,r2,r3,r4,r5,⟨fa,nf,cf⟩,ea,rs,prs,rF,rE⟩:=r;simp only at a4m;obtain rfl:nf=4:=a4m.n;simp only []
 go_wp2_with (with_reducible first|refine bH hS zeroValue67 fun b1 wb1 hS=>?_|refine aJ 1 hS sizeOf67 fun _ hS=>?_|refine bA 1 hS isAgg67 sizeOf67 ?_)
 refine (a1u ⟨g1,g2,g3,g4,r1,r2,r3,r4,r5,(fa,4,cf),ea,rs,prs,rF,rE⟩ ovF 0 1 _ S' (a4m.move (hS.da hF)) (aP.at hS hF) jn (by unfold bQ;omega) (by unfold bQ;omega)).mono ?_;rintro e w5 ⟨hq,fT⟩;rw [if_pos (by decide)] at fT;obtain⟨ac,cc,ts,rfl,fg,bh⟩:=fT;obtain rfl:=aSz fg;have wH:=aP.at hS hF;have hm5:=(a4m.move (hS.da hF)).move (fun k hk=>hq.below.block k (wH k hk));have aBp:=aA.gZ hS hO kj;have hB5:=aBp.trans (hq.below.mono aBp.size);obtain⟨F5,cG,ff,hS5⟩:=hS.a1l hF hq;have j4:=fun k h=>ff k (hO k h)
 have aKp:bN w5 F5 2 (.slice ac 4 cc) 4 (ovT.flatMap kB):=bh.weaken fun k hk=>cG k (.inr hk)
 have hmF:=hm5.wk fun k hk=>cG k (.inl hk)
 obtain⟨a0,n0,c0,iq,iz,oh⟩:=vo (i:=0) hmF (by decide);replace iz:Ints w5 F5 (.slice a0 n0 c0) [0,0]:=iz;have sh:bN w5 F5 1 (.slice fa 4 cf) 4 (rF.map sv):=hmF.sl;replace iq:((rF.map sv).drop (0*1)).take 1=[.slice a0 n0 c0]:=iq;have aPm:((ovT.flatMap kB).drop (0*2)).take 2=[.int .i64 0,.int .i64 0]:=rfl;have aSi:((ovT.flatMap kB).drop (3*2)).take 2=[.int .i64 1,.int .i64 1]:=rfl;have e4:ovT.length=4:=rfl;rw [e4];clear hS hq bh hm5 hmF oh a4m fg jn aBp ff hO wH;have hS:=hS5;clear hS5;simp only []
 go_wp2_with (with_reducible first|refine aU 1 hS isAgg35 ?_|refine iH underlying35 sizeOf22 sh iq fun bq oq bO=>?_|refine fP hS isAgg22 ?_)
 have hS:=hS.alloc (.cells #[.int .i64 0,.int .i64 0] 3 (0,0));simp only [aK] at hS;refine (wU a0 (some ⟨w5.heap.size,0,none⟩) c0 2 n0 2 [0,0] [0,0] _ (iz.arg hS (by simp)) (aI0 2 hS rfl (by unfold bQ;omega) (by unfold bQ;omega))).mono ?_;rintro e w6 ⟨rfl,hq⟩;have hS:=hS.fW dY hq.below;clear hq;have hd:decide (([0,0]:List Int)=[0,0])=true:=by decide
 rw [hd];have HE0:∀ w,(Op.equalIn 10000 84 (.agg #[.int .i64 0,.int .i64 0]) (.agg #[.int .i64 0,.int .i64 0])).run Tryz.prog w=.ok true w:=fun w=>equalI2 0 0 0 0 w
 have HE1:∀ w,(Op.equalIn 10000 84 (.agg #[.int .i64 1,.int .i64 1]) (.agg #[.int .i64 1,.int .i64 1])).run Tryz.prog w=.ok true w:=fun w=>equalI2 1 1 1 1 w
 simp only []
 go_wp2_with (with_reducible first|refine iH underlying80 sizeOf84 aKp aPm fun bq oq bO=>?_|refine iH underlying80 sizeOf84 aKp aSi fun bq oq bO=>?_|refine j9 hS isAgg84 sizeOf84 ?_)
 go_ret;have vf:=Below.mS (aA.gZ hS j4 hB5);exact⟨rfl,hB.trans (vf.mono hB.size)⟩
end Go.Proofs
namespace Go.Proofs
open Go.Proofs.Tryz
open Go.RowKit Go.Hp
theorem ofiner_walk (al am:Option Addr) (nl cl nm cm:Nat) (xl xm:List Int) (w:World) (hl:Ints w (Old w) (.slice al nl cl) xl) (hm:Ints w (Old w) (.slice am nm cm) xm) :
 Calls Tryz.prog 5 #[.slice al nl cl,.slice am nm cm] w fun e w'=>e=.returned (.bool true)∧Below w.heap.size w w':=by
 have hS:=aA.start w
 go_enter func5,ntmps5
 go_wp2_with (fail)
 refine (aFk al am nl cl nm cm xl xm _ (hl.arg hS (by simp)) (hm.arg hS (by simp))).mono ?_;rintro e w1 ⟨bF,ls,ad,c,rfl,jr,ki,hv,fq⟩;have hB:=(hS.toBelow (by simp)).trans (ki.mono (hS.toBelow (by simp)).size);have hv:=hv.bj;have fq:=fq.bj;have hlen:=Hd fq.len;have hl3:bF.length≤3:=by have:=jr.len;have:=fq.len;omega
 have cJ:=jr.dX.2;have qm:=jr.dm.2;have yB:=jr.aR8;have mb:=fun t ht=>(jr.okA.1 t ht).2.2
 clear hS ki hl hm jr;have hS:=aA.start w1;replace yB:=Hd yB;replace mb:=Hd mb;simp only []
 go_wp2_with (first|((with_reducible refine dV (T:=60) ?_);refine a7F (T:=60) hS underlying60 sizeOf64 rfl (fun _ _ hS=>?_);simp only [aD];simp only [aK] at hS)|((with_reducible refine eG ?_);refine uA (t:=60) 1 hS underlying60 a3E rfl (by decide) rfl rfl rfl hv (by simp) (aUh _) (by omega) (by unfold maxLen;omega) (fun ae ce _ hS=>?_);simp only [aD];simp only [aK] at hS;try simp only [List.nil_append,Nat.zero_add] at hS ⊢))
 refine (aOp bF ls ad c _ (hv.arg hS (by simp)) (fq.arg hS (by simp)) (by have:=hlen.out;omega) (by omega) (by omega)).mono ?_;rintro e w2 ⟨a1,c1,a2,c2,rfl,cU⟩;replace hS:=hS.import cU;simp only [aK] at hS;clear cU;simp only []
 go_wp2_with (first|((with_reducible refine dV (T:=60) ?_);refine fZ (T:=60) (v:=.agg #[.slice _ _ _,.slice _ _ _]) hS underlying60 sizeOf64 zeroValue64 rfl rfl rfl (by decide) (by decide) rfl (fun bl fX hS=>?_);simp only [aD];simp only [Value.cells] at hS)|((with_reducible refine eG ?_);refine fw (t:=60) 1 hS underlying60 a3E rfl (by decide) rfl rfl rfl rfl (by simp [Value.oneCell']) (by omega) (by unfold maxLen;omega) (fun a3 c3 _ hS=>?_);simp only [aD];simp only [aK] at hS))
 obtain⟨lr2,a4P⟩:∃ lr2:List kr,lr2=bF++[⟨(a1,(dX ls).length,c1),(a2,(dm ls).length,c2)⟩]:=⟨_,rfl⟩;have eJ:lr2.length=bF.length+1:=by rw [a4P];simp
 have hs3:=(hS.dn 1 rfl).bj;have hg1:=(hS.dn 2 rfl).bj;have qK:=(hS.dn 3 rfl).bj;have zK:=(fq.arg hS (by simp)).snoc (r:=⟨(a1,(dX ls).length,c1),(a2,(dm ls).length,c2)⟩) (l:=(dX ls,dm ls)) hg1 qK;rw [← a4P] at zK;replace zK:jc _ _ lr2 (rL ls):=zK;have dp:lr2.flatMap fI=bF.flatMap fI++[.slice a1 (dX ls).length c1,.slice a2 (dm ls).length c2]:=by rw [a4P];simp [fI]
 have mH:=hB.trans ((hS.toBelow (by simp)).mono hB.size);have cO:=aCU lr2 a3 c3 _ (by rw [eJ,dp];exact hs3) (by omega);rw [eJ] at cO;clear hS hs3 hg1 qK fq hv hB a4P dp;refine cO.mono ?_;rintro e w3 ⟨a4,c4,rfl,cU⟩;have hs5:=(cU.dn 1 rfl).bj;have ku:=zK.arg cU (by simp);have pJ:=mH.trans ((cU.toBelow (by simp)).mono mH.size);rw [← eJ] at hs5;clear cU zK mH cO;have hS:=aA.oI w3;have dY:=tb w3;simp only []
 go_wp2_with (fail)
 refine (a57 a4 (bF.length+1) c4 lr2 (rL ls) _ (Old w3) (fun k h=>h) yB.out (by rw [← eJ];exact hs5) ku).mono ?_;rintro e w4 ⟨r,y0,ys,S',rfl,hq,jx,h0,iT,qi⟩;obtain⟨sX,jn,js⟩:=aEB yB.out h0 iT;have kj:=hq.below;have a38:ys.length=bF.length+1:=by rw [iT];simp [rL,hlen.out]
 obtain⟨F,hF,hO,cK⟩:=hS.wV dY (fun k h=>h) hq;have hL:=jx.arr.live
 have a8R:∀ b,a2V (jL y0 ys) (bF.length:Int) b:=by
  have hg:=h0.a1N yB.out.all.one;have hm:bF.length<ys.length:=by omega
  have hy:=qi ls.length (by simp [rL]);rw [aG9,← hlen.out] at hy;rw [aJq,aK3] at h0;exact aRy hg hm fun e he=>by rw [a9X hm,aRV mb.out hy h0 he]
 rw [a38] at sX js
 have cF:∀ (x i:Int) (w':World),j8 w' S' r.fa r.rF (jL y0 ys)→aP w' S'→a2V (jL y0 ys) x i→0≤x→x<(bF.length+1:Nat)→0≤i→i<(bF.length+1:Nat)→Calls Tryz.prog 26 #[.agg #[.slice r.g1.1 r.g1.2.1 r.g1.2.2,.slice r.g2.1 r.g2.2.1 r.g2.2.2,.slice r.g3.1 r.g3.2.1 r.g3.2.2,.slice r.g4.1 r.g4.2.1 r.g4.2.2,.slice r.r1.1 r.r1.2.1 r.r1.2.2,.slice r.r2.1 r.r2.2.1 r.r2.2.2,.slice r.r3.1 r.r3.2.1 r.r3.2.2,.slice r.r4.1 r.r4.2.1 r.r4.2.2,.slice r.r5.1 r.r5.2.1 r.r5.2.2,.slice r.fa.1 r.fa.2.1 r.fa.2.2,.slice r.ea.1 r.ea.2.1 r.ea.2.2],.int .i64 x,.int .i64 i] w' fun e w2=>e=.returned (.tuple #[.bool true,.int .i64 0])∧Pure w' S' w2 S':=by
  intro x i w' h1 h2 h3 h4 h5 h6 h7;refine (a2v r (jL y0 ys) x i w' S' h1 h2 jn (by unfold bQ;omega) (by unfold bQ;omega)).mono ?_;rintro e w2 ⟨hp,fT⟩;rw [if_pos (a1r.2 ⟨⟨h4,by rw [js];exact h5⟩,h6,by rw [js];exact h7⟩)] at fT;obtain⟨b,rfl,hb⟩:=fT;rw [hb.2 h3];exact⟨rfl,hp⟩
 have a7o:=fun a=>aRG (jL y0 ys) a
 have vg:=jx;have vj:=fun w' (h:zR w' S' r y0 (jL y0 ys) (km y0 ys y0.es.length)) (h2:aP w' S')=>aKk r y0 _ _ (bF.length+1) w' S' h h2 sX
 clear hS hq h0 iT qi hs5 ku sX jn js jx;have hS:=cK;clear cK;obtain⟨fs,lN⟩:∃ fs,jL y0 ys=fs:=⟨_,rfl⟩;obtain⟨ee,rf⟩:∃ ee,km y0 ys y0.es.length=ee:=⟨_,rfl⟩;rw [lN,rf] at vg;rw [lN] at a8R a7o;simp only [lN] at cF vj;simp only [rf] at vj;clear lN rf a38;replace a8R:=Hd a8R;replace a7o:=Hd a7o;obtain⟨g1,g2,g3,g4,r1,r2,r3,r4,r5,fa,ea,rs,prs,rF,rE⟩:=r;simp only [] at cF vj ⊢
 go_wp2_with (with_reducible first|refine bH hS zeroValue67 fun b7 wb7 hS=>?_|refine aJ 1 hS sizeOf67 fun _ hS=>?_|refine bA 1 hS isAgg67 sizeOf67 ?_)
 have hnn:((bF.length:Int)+1)=((bF.length+1:Nat):Int):=by omega
 try simp only [hnn]
 refine (vj _ (vg.at hS hF) (aP.at hS hF)).mono ?_;rintro e w5 ⟨rfl,hq⟩;have hS:=hS.fW dY hq.below;clear hq vj;simp only []
 go_wp2_with (fail)
 try try simp only [fA]
 obtain⟨N,hN⟩:∃ N,N=bF.length+1:=⟨_,rfl⟩
 try rw [← hN]
 rw [← hN] at cF;have hN4:N≤4:=by omega
 replace hN:=Hd hN;revert hS
 repeat (rename aA _ _ _=>hZ;clear hZ)
 intro hS
 go_loopw [9] (fun v9 wr=>∃ (i:Nat),i≤N∧v9=.int .i64 (i:Int)∧aA (nd w3) wr [.aH F w4,.aB b7 (.cells #[.slice g1.1 g1.2.1 g1.2.2,.slice g2.1 g2.2.1 g2.2.2,.slice g3.1 g3.2.1 g3.2.2,.slice g4.1 g4.2.1 g4.2.2,.slice r1.1 r1.2.1 r1.2.2,.slice r2.1 r2.2.1 r2.2.2,.slice r3.1 r3.2.1 r3.2.2,.slice r4.1 r4.2.1 r4.2.2,.slice r5.1 r5.2.1 r5.2.2,.slice fa.1 fa.2.1 fa.2.2,.slice ea.1 ea.2.1 ea.2.2] 67 (0,0))]) (fun v9 _=>N - (intOf v9).toNat)
 case atStart=>exact⟨0,by omega,rfl,hS.sb⟩
 case round =>
  clear hS;obtain⟨i,hi,rfl,hS⟩:=hrel
  by_cases dj:i<N
  ·go_wp2_with (with_reducible refine bA 1 hS isAgg67 sizeOf67 ?_)
   refine (cF _ _ _ (vg.at hS hF).fK (aP.at hS hF) (a8R.out _) (by omega) (by have:=hN.out;omega) (by omega) (by omega)).mono ?_;rintro e w6 ⟨rfl,hq⟩;replace hS:=hS.fW dY hq.below;clear hq;simp only []
   go_wp2_with (with_reducible refine bA 1 hS isAgg67 sizeOf67 ?_)
   refine (cF _ _ _ (vg.at hS hF).fK (aP.at hS hF) (a7o.out _) (by omega) (by omega) (by omega) (by omega)).mono ?_;rintro e w7 ⟨rfl,hq⟩;replace hS:=hS.fW dY hq.below;clear hq;simp only []
   go_wp2_with (fail)
   go_roundw
   case rel=>exact⟨i+1,by omega,by simp,hS.sb⟩
   case measure=>simp [intOf];omega
  ·obtain rfl:i=N:=by omega
   have hB6:=Below.mS (aA.gZ hS (fun k h=>hO k h) kj);have vf:=pJ.trans (hB6.mono pJ.size)
   go_wp2_with (fail)
   refine (lives11_any _).mono ?_;rintro e w8 ⟨rfl,hb⟩;simp only [];go_wp2;go_ret;exact⟨rfl,vf.trans (hb.mono vf.size)⟩
end Go.Proofs
namespace Go.Proofs.YtihpoboahbpaiaaGreat.overlayFiner
open Go.ChangeShapes Go.WideShapes Go.ChangeAt Go.RowKit
open Go.ChangeMaps (open_string shut_string)
open Go.Hp
theorem own:ownKnob Tryz.prog.godebug=none:=by kernel_rfl
theorem laidOut:laidOutB Tryz.prog=true:=by kernel_rfl
def IsRow (k:IntKind) (w:World) (a:Option Addr) (len cap:Nat) (zs:List Int):Prop :=
 (a=none∧len=0∧cap=0∧zs=[]) ∨
 ∃ x,a=some x∧len≤cap∧cap≤maxLen∧zs.length=cap∧(∀ i,i<zs.length→w.cell? (x.add i)=some (.int k (zs.getD i 0)))∧∀ n ∈ zs,(Lit.int k n).wf=true
theorem walk (a0:Option Addr) (len0 cap0:Nat) (z0:List Int) (a1:Option Addr) (len1 cap1:Nat) (z1:List Int) (w:World) (w0:IsRow .i64 w a0 len0 cap0 z0) (w1:IsRow .i64 w a1 len1 cap1 z1) :
 Calls Tryz.prog 5 #[.slice a0 len0 cap0,.slice a1 len1 cap1] w fun e w'=>e=.returned (.bool true)∧Below w.heap.size w w':=by
 exact ofiner_walk a0 a1 len0 cap0 len1 cap1 _ _ w (a3l w0) (a3l w1)
theorem lifted (os:Os) (started:os.Started) (H:Type) (enc:TypeId × Value→H) :
 ReturnsInHanded {} Tryz.checked os 5 .any (Rows.overlayFinerSpec.pre6 enc Tryz.prog Tryz.f5 Rows.overlayFinerRow.domain false) (Rows.overlayFinerSpec.post enc Tryz.prog Tryz.f5 false true false false):=by
 refine returnsInHanded_of_change (C:=Tryz.checked) own started (by kernel_rfl) Tryz.func5
  (ChangeSpec.witness6 (enc:=enc) (C:=Tryz.checked) false ⟨#[],#[.slice none 0 0,.slice none 0 0],[]⟩ 8 (by kernel_rfl) (by kernel_rfl) (by kernel_rfl) (by kernel_rfl)) ?_
 intro W base args ds gs before hval0 hW hcnd _;have hval:∀ (j:Nat) t v,Tryz.f5.params[j]? = some t→args[j]? = some v→Value.okWide Tryz.prog W .any base t v:=hval0;have hW':=hW;obtain⟨p,q,hA0,hV,rfl,hfz,hnd⟩:=hW;have hA:DataW.TrodAll enc Tryz.prog W 0 (fun _=>true) true Tryz.f5.params.toList args.toList ds p:=hA0;rw [Tryz.params5] at hA hval;obtain⟨v0,vs0,d0,ds0,p0,q0,hargs,rfl,rfl,h0,r0⟩:=trodAll_cons hA;obtain⟨v1,vs1,d1,ds1,p1,q1,rfl,rfl,rfl,h1,r1⟩:=trodAll_cons r0;obtain⟨rfl,rfl,rfl⟩:=trodAll_nil r1;obtain rfl:args=#[v0,v1]:=by cases args;simp_all
 obtain⟨rfl,rfl⟩:=trodVars_none hV;obtain⟨a0,len0,cap0,rfl⟩:=okWide_slice Tryz.underlying22 (hval 0 22 v0 rfl rfl);have k0:=h0;have lt0:∀ x ∈ p0,x.block<W.heap.size:=by obtain⟨m,hm⟩:=k0;exact DataW.trod_lt m _ _ _ hm
 obtain⟨z0,w0⟩:∃ zs,IsRow .i64 W a0 len0 cap0 zs:=by
  obtain⟨fuel,hf⟩:=h0
  rcases open_ints Tryz.underlying22 Tryz.underlying3 (by kernel_rfl) hf with ⟨hcs,_⟩|⟨x,l,c,zs,hcs,_,hl,hm,hz,_,hcell,hwz⟩
  ·simp [Value.cells] at hcs
   obtain⟨rfl,rfl,rfl⟩:=hcs;exact⟨[],.inl ⟨rfl,rfl,rfl,rfl⟩⟩
  ·simp [Value.cells] at hcs
   obtain⟨rfl,rfl,rfl⟩:=hcs;exact⟨zs,.inr ⟨_,rfl,hl,hm,by simpa using hz,hcell,hwz⟩⟩
 obtain⟨a1,len1,cap1,rfl⟩:=okWide_slice Tryz.underlying22 (hval 1 22 v1 rfl rfl);have k1:=h1;have lt1:∀ x ∈ p1,x.block<W.heap.size:=by obtain⟨m,hm⟩:=k1;exact DataW.trod_lt m _ _ _ hm
 obtain⟨z1,w1⟩:∃ zs,IsRow .i64 W a1 len1 cap1 zs:=by
  obtain⟨fuel,hf⟩:=h1
  rcases open_ints Tryz.underlying22 Tryz.underlying3 (by kernel_rfl) hf with ⟨hcs,_⟩|⟨x,l,c,zs,hcs,_,hl,hm,hz,_,hcell,hwz⟩
  ·simp [Value.cells] at hcs
   obtain⟨rfl,rfl,rfl⟩:=hcs;exact⟨[],.inl ⟨rfl,rfl,rfl,rfl⟩⟩
  ·simp [Value.cells] at hcs
   obtain⟨rfl,rfl,rfl⟩:=hcs;exact⟨zs,.inr ⟨_,rfl,hl,hm,by simpa using hz,hcell,hwz⟩⟩
 clear hA0 hval0;refine (walk a0 len0 cap0 z0 a1 len1 cap1 z1 W w0 w1).mono fun e W' ⟨he,nI⟩=>?_
 subst he;exact⟨_,rfl,_,_,_,[],_,[],hW',trodAll_mk1 (shut_bool Tryz.underlying4 _),(trodAll_cons_mk (Below.trod laidOut (by kernel_rfl) (of_decide_eq_true (by kernel_rfl)) k0 nI lt0) (trodAll_cons_mk (Below.trod laidOut (by kernel_rfl) (of_decide_eq_true (by kernel_rfl)) k1 nI lt1) trodAll_mk0)),rfl,nI.frame _,fun h=>by cases h⟩
theorem over:Rows.overlayFinerRow.holds Tryz.pinned (OpenSpec.ofChange Rows.overlayFinerSpec) :=
 OpenClaim.holds_of_wide 5 Tryz.f5 rfl rfl rfl rfl rfl rfl rfl ⟨rfl,rfl,rfl,rfl,rfl⟩ rfl rfl rfl rfl rfl (by kernel_rfl) Tryz.func5 (by kernel_rfl)
  (of_decide_eq_true (by kernel_rfl)) (by unfold Func.isWrapper;first|(rw [if_neg (by decide +kernel)];exact⟨rfl,rfl⟩))
  (fun os started H enc _=>lifted os started H enc)
theorem proved:Rows.OverlayFinerSaid:=over
#print axioms proved
end Go.Proofs.YtihpoboahbpaiaaGreat.overlayFiner
