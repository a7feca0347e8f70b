/- Texts for the walk of the law: LF LA OS MD OA OM OV LZ SQX LB LL OQ OW OX OY OF. -/
import Derived.Test.YtihpoboahbpaiaaGreatU13
set_option maxRecDepth 100000
set_option maxHeartbeats 16000000
set_option linter.unusedVariables false
set_option linter.unusedSimpArgs false
namespace Go.Hp
open Go Go.RowKit Go.Proofs.Tryz
def kt (w:World) (S:Nat→Prop) (V:List Pt) (es:List Ed) (q:Pt) (i:Nat) (kd:Int) (t:FR):Prop :=
 match iO V es q i with
 | none=>kd = -1
 | some b=>kd=(b:Int)∧eN w S t (iK V es b q.x)
theorem kt.mv {w w':World} {S S':Nat→Prop} {V:List Pt} {es:List Ed} {q:Pt} {i:Nat} {kd:Int} {t:FR} (h:kt w S V es q i kd t) (hm:∀ a,eN w S t a→eN w' S' t a):kt w' S' V es q i kd t:=by
 unfold kt at *
 split at h <;> rename_i hb <;> simp only [hb] at *
 ·exact h
 ·exact⟨h.1,hm _ h.2⟩
theorem kt.at {w0 w wr:World} {H:List Chunk} {F S:Nat→Prop} {V:List Pt} {es:List Ed} {q:Pt} {i:Nat} {kd:Int} {t:FR} (h:kt wr S V es q i kd t) (hS:aA w0 w (.aH F wr::H)) (hF:∀ k,S k→F k):kt w S V es q i kd t:=h.mv fun a ha=>ha.at hS hF
theorem kt.grow {w w':World} {S S':Nat→Prop} {V:List Pt} {es:List Ed} {q:Pt} {i:Nat} {kd:Int} {t:FR} (h:kt w S V es q i kd t) (hp:Pure w S w' S'):kt w' S' V es q i kd t:=h.mv fun a ha=>ha.grow hp
theorem kt.nx {w:World} {S:Nat→Prop} {V:List Pt} {es:List Ed} {q:Pt} {i:Nat} {kd:Int} {t:FR} (h:kt w S V es q i kd t) (e:iO V es q (i+1)=iO V es q i):kt w S V es q (i+1) kd t:=by
 unfold kt at *;rw [e];exact h
theorem kt.new {w:World} {S:Nat→Prop} {V:List Pt} {es:List Ed} {q:Pt} {i:Nat} {t:FR} (h:eN w S t (iK V es i q.x)) (e:iO V es q (i+1)=some i):kt w S V es q (i+1) (i:Int) t:=by
 unfold kt;rw [e];exact⟨rfl,h⟩
theorem aUl (L:rQ) (rs:List ER) (es:List Ed) (prs:List PR) (V:List Pt) (k:Nat) (f:iL) (p:PR) (q:Pt) (w:World) (S:Nat→Prop) (h:iX w S L rs es prs V k f) (hp:dh w S p q) (hq:Bq k q.x∧Bq k q.y) (hk:8*k+8≤16384) (hd:∀ e ∈ es,e.dir.dir) (hx:∀ e ∈ es,(nth au V e.a).x<(nth au V e.b).x→e.dir.x≠0) (hV:V.Pairwise Pt.lt) (dp:f.L.length=2*es.length) (gO:V.length≤65536) (pw:es.length≤30000) :
 Calls prog 16 #[.pointer (some ⟨L.bl,0,none⟩),.agg #[.bool p.x.num.neg,.slice p.x.num.ad p.x.num.n p.x.num.cap,.bool p.x.less.neg,.slice p.x.less.ad p.x.less.n p.x.less.cap,.bool p.y.num.neg,.slice p.y.num.ad p.y.num.n p.y.num.cap,.bool p.y.less.neg,.slice p.y.less.ad p.y.less.n p.y.less.cap]] w fun en w'=>en=.returned (.tuple #[.agg #[.int .i64 (jS V es f.L q).1,.int .i64 (jS V es f.L q).2],.int .i64 0])∧Pure w S w' S:=by
 have j6:=Hd h.arr.n4;have hL:=h.arr.live;have hc:=h.cell.bj hL;have hcA:dM w (Old w) ⟨L.bl,0,none⟩ [.slice L.g1.1 L.g1.2.1 L.g1.2.2,.slice L.g2.1 L.g2.2.1 L.g2.2.2,.slice L.g3.1 L.g3.2.1 L.g3.2.2,.slice L.g4.1 L.g4.2.1 L.g4.2.2]:=hc.part 0 4;replace hV:=Hd hV;replace hd:=Hd hd;replace hx:=Hd hx;obtain⟨hS,aC,bC,bD⟩:=eR hL
 go_enter func16,ntmps16
 go_wp2_with (with_reducible first|refine cI (show aA _ _ [_] from hS) fun bL wbL hS=>?_|refine cI hS fun b2 ri hS=>?_|refine bH hS zeroValue47 fun b4 zS hS=>?_)
 go_step3
 go_wp2;refine dB [.r 0,.p 1,.p 2,.r 3,.r 4,.e 5,.p 6,.p 7,.p 8,.p 9,.p 10] [] hS fun w1 hS=>?_
 have hC:=hS
 repeat (with_reducible first|refine cZ 1 isAgg38 ?_|refine qE isAgg34 sizeOf34 ?_|refine cz 2 isAgg56 sizeOf56 ?_|refine bU ?_)
 refine aZ ?_
 go_wp2_with (fail)
 refine (aSw L.g1.1 L.g2.1 L.g3.1 L.g4.1 L.g1.2.1 L.g1.2.2 L.g2.2.1 L.g2.2.2 L.g3.2.1 L.g3.2.2 L.g4.2.1 L.g4.2.2 prs V p q _ S (h.arr.hV.at hS aC) (hp.at hS aC) (aP.at hS aC) hV.out (by omega)).mono ?_;rintro e' w' ⟨⟨v,hv,rfl⟩,az⟩
 by_cases hvt:v<V.length∧nth au V v=q
 ·rw [if_pos hvt]
  have hR:=aQr (es:=es) (Lf:=f.L) (aON hV.out hvt.1 hvt.2);replace hR:=Hd hR;clear hvt hv hcA hc;simp only [];go_step;have hC:=hC.below az.below az.drawn;replace hS:=hS.aj aC bC bD az;obtain⟨F1,aG,-,bB,av,hS⟩:=hS;refine aX hC ?_;refine aM ?_;refine bE ?_;clear hC
  go_wp2_with (with_reducible refine aJ 3 hS sizeOf47 fun _ hS=>?_)
  try simp only [Exit.noGoto_ret]
  exact jJ 3 hS rfl rfl rfl isAgg47 sizeOf47 rfl rfl ⟨by (rw [hR.out] <;> rfl),bB.step hS av aG⟩
 ·rw [if_neg hvt]
  have nA:=Hd (vw.none hv hvt hV.out);clear hvt hv hcA;simp only [];go_step;have h:=(h.at hS aC).grow az;have hp:=(hp.at hS aC).grow az;have hC:=hC.below az.below az.drawn;replace hS:=hS.aj aC bC bD az;obtain⟨F1,aG,-,bB,av,hS⟩:=hS;refine aX hC ?_;refine aM ?_;refine bE ?_;clear hC hc;have hc:=h.cell.weaken aG
  go_wp2_with (with_reducible first|refine bH hS zeroValue3 fun b8 xe hS=>?_|refine aJ 4 hS sizeOf3 fun _ hS=>?_|refine bH hS zeroValue54 fun b9 xX hS=>?_)
  go_step3
  go_wp2_with (first|(with_reducible refine aU 1 hS isAgg38 ?_)|((with_reducible refine dq (T:=32) ?_);refine dI hS rfl (gu (T:=32) 3 isAgg32 rfl hc (by simp) rfl ?_);simp only [aD]))
  simp only [j6.out]
  try try simp only [fA]
  go_loopw [36] (fun v36 wr=>∃ (i:Nat) (F' S':Nat→Prop) (wq:World) (kd:Int) (t:FR),i≤es.length∧v36=.int .i64 (i:Int)∧aA w wr [.aH F' wq,.aB bL (.cells #[.pointer (some ⟨L.bl,0,none⟩)] 38 (0,0)),.aB b2 (.cells #[.bool p.x.num.neg,.slice p.x.num.ad p.x.num.n p.x.num.cap,.bool p.x.less.neg,.slice p.x.less.ad p.x.less.n p.x.less.cap,.bool p.y.num.neg,.slice p.y.num.ad p.y.num.n p.y.num.cap,.bool p.y.less.neg,.slice p.y.less.ad p.y.less.n p.y.less.cap] 56 (0,0)),.aB b4 (.cells #[.int .i64 0,.int .i64 0] 47 (0,0)),.aB b8 (.cells #[.int .i64 kd] 3 (0,0)),.aB b9 (.cells #[.bool t.num.neg,.slice t.num.ad t.num.n t.num.cap,.bool t.less.neg,.slice t.less.ad t.less.n t.less.cap] 54 (0,0))]∧(∀ k,S' k→F' k)∧(∀ k,Old w k→F' k)∧Hp.Pure w S wq S'∧iX wq S' L rs es prs V k f∧dh wq S' p q∧jC V es q i=none∧kt wq S' V es q i kd t) (fun v36 _=>es.length - (intOf v36).toNat)
  case atStart=>exact⟨0,_,_,_,-1,⟨⟨false,none,0,0⟩,⟨false,none,0,0⟩⟩,by omega,rfl,hS,aG,av,bB,h,hp,rfl,rfl⟩
  case round =>
   clear hS aC bC bD aG av bB h hp;obtain⟨i,F0,S0,wq,kd,t,hi,rfl,hS,aC,bC,bD,h,hp,hfo,ir⟩:=hrel;replace hfo:=Hd hfo
   by_cases dj:i<es.length
   ·obtain⟨fv,fM⟩:=h.arr.ab _ (cQ ah es i dj)
    have pa:dh wq S0 (nth dT prs (nth ah es i).a) (nth au V (nth ah es i).a):=h.arr.hV.ps.el _ fv;have pb:dh wq S0 (nth dT prs (nth ah es i).b) (nth au V (nth ah es i).b):=h.arr.hV.ps.el _ fM;have ka:=h.arr.bq _ (cQ au V _ fv);have kb:=h.arr.bq _ (cQ au V _ fM);have hdi:=hd.out _ (cQ ah es i dj);have hxi:=hx.out _ (cQ ah es i dj);have cE:=fun w' S' (h:iX w' S' L rs es prs V k f)=>aCu L rs es prs V k f i w' S' h dj (by omega) (by omega)
    have cB:=fun w' S' pa pb pc eM=>aRP (nth dT prs (nth ah es i).a) (nth dT prs (nth ah es i).b) p (nth au V (nth ah es i).a) (nth au V (nth ah es i).b) q k w' S' pa pb pc eM ka kb hq hk
    have hfh:=@aLk V es q i hfo.out;have fz:=@aOL V es q i hfo.out
    have uo:sr V es i q.x=true→(nth ah es i).dir.x≠0:=fun hs=>hxi (by
     unfold sr at hs;simp only [Bool.and_eq_true,decide_eq_true_eq] at hs
     grind)
    have oY:=aRF V es q i;obtain⟨A1,e1⟩:∃ q,nth dT prs (nth ah es i).a=q:=⟨_,rfl⟩;obtain⟨B1,e2⟩:∃ q,nth dT prs (nth ah es i).b=q:=⟨_,rfl⟩;obtain⟨X,e5⟩:∃ z,ph (nth au V (nth ah es i).a) (nth au V (nth ah es i).b) q=z:=⟨_,rfl⟩;simp only [e1,e2] at cE cB pa pb;simp only [e5] at cB hfh fz;clear e1 e2 e5 fv fM ka kb hxi;replace hfh:=Hd hfh;replace fz:=Hd fz;replace oY:=Hd oY;replace uo:=Hd uo
    go_wp2_with (with_reducible refine aU 1 hS isAgg38 ?_)
    refine (cE _ S0 (h.at hS aC)).mono ?_;rintro e' w' ⟨rfl,az⟩;have h:=(h.at hS aC).grow az;have hp:=(hp.at hS aC).grow az;have pa:=(pa.at hS aC).grow az;have pb:=(pb.at hS aC).grow az;have ir:=(ir.at hS aC).grow az;replace hS:=hS.aj aC bC bD az;obtain⟨F1,aG,-,bB,av,hS⟩:=hS;simp only []
    go_wp2_with (with_reducible first|refine bH hS zeroValue56 fun qH a1h hS=>?_|refine aJ 6 hS sizeOf56 fun _ hS=>?_|refine aJ 7 hS sizeOf56 fun _ hS=>?_|refine bA 6 hS isAgg56 sizeOf56 ?_|refine bA 7 hS isAgg56 sizeOf56 ?_|refine bA 2 hS isAgg56 sizeOf56 ?_)
    refine (cB _ S0 (pa.at hS aG) (pb.at hS aG) (hp.at hS aG) (aP.at hS aG)).mono ?_;rintro e' w' ⟨rfl,aR⟩;have h:=(h.at hS aG).grow aR;have hp:=(hp.at hS aG).grow aR;have ir:=(ir.at hS aG).grow aR;replace hS:=hS.aj aG av bB aR;obtain⟨F2,aQ,-,bR,bP,hS⟩:=hS;clear cE cB pa pb;cases X with
    | true =>
     have lU:=hfh.out rfl (es.length - (i+1));rw [show i+1+(es.length - (i+1))=es.length by omega] at lU;have hR:=a7G (Lf:=f.L) nA.out lU;replace hR:=Hd hR;clear lU;simp only []
     go_wp2_with (with_reducible refine aJ 3 hS sizeOf47 fun _ hS=>?_)
     try simp only [Exit.noGoto_ret]
     exact jJ 3 hS rfl rfl rfl isAgg47 sizeOf47 rfl rfl ⟨by (rw [hR.out] <;> rfl),(bR.step hS bP aQ).back⟩
    | false =>
     have oR:=Hd (fz.out rfl);simp only []
     go_wp2_with (with_reducible first|refine aU 1 hS isAgg38 ?_|refine eW 2 hS isAgg54 sizeOf54 ?_)
     refine (aSK L rs es prs V k f i p.x q.x _ S0 (h.at hS aQ) dj (hp.x.at hS aQ) (by omega) (by omega)).mono ?_;rintro e' w' ⟨rfl,bI⟩;have h:=(h.at hS aQ).grow bI;have hp:=(hp.at hS aQ).grow bI;have ir:=(ir.at hS aQ).grow bI;replace hS:=hS.aj aQ bP bR bI;obtain⟨F3,bM,-,dP,dE,hS⟩:=hS;cases dw:sr V es i q.x with
     | false =>
      have pE:iO V es q (i+1)=iO V es q i:=by rw [oY.out,dw];rfl
      replace pE:=Hd pE;clear dw;simp only [];go_wp2;go_roundw
      case rel=>exact⟨i+1,F3,S0,_,kd,t,by omega,by simp,hS.sb,bM,dE,dP,h,hp,oR.out,ir.nx pE.out⟩
      case measure=>simp [intOf];omega
     | true =>
      have iz:=uo.out dw;simp only []
      go_wp2_with (with_reducible first|refine aU 1 hS isAgg38 ?_|refine eW 2 hS isAgg54 sizeOf54 ?_)
      refine (aTS L rs es prs V k f i p.x q.x k _ S0 (h.at hS bM) dj (hp.x.at hS bM) hq.1 hdi iz (by omega) (by omega) (by omega)).mono ?_;rintro e' w' ⟨y,S4,rfl,cY,hy⟩;have h:=(h.at hS bM).grow cY;have hp:=(hp.at hS bM).grow cY;have ir:=(ir.at hS bM).grow cY;replace hS:=hS.aj bM dE dP cY;obtain⟨F4,bZ,-,gN,gG,hS⟩:=hS;simp only [iW]
      go_wp2_with (with_reducible first|refine bH hS zeroValue54 fun vZ a4M hS=>?_|refine aJ 8 hS sizeOf54 fun _ hS=>?_|refine bA 8 hS isAgg54 sizeOf54 ?_|refine eW 2 hS isAgg54 sizeOf54 ?_)
      have hg:=@aFA (iK V es i q.x) q.y;obtain⟨c,iq⟩:∃ c,e8 (iK V es i q.x) q.y=c:=⟨_,rfl⟩;refine (vM y p.y (iK V es i q.x) q.y _ S4 (hy.at hS bZ) (hp.y.at hS bZ) (aP.at hS bZ)).mono ?_;rintro e' w5 ⟨rfl,gh⟩;rw [iq] at hg ⊢;have h:=(h.at hS bZ).grow gh;have hp:=(hp.at hS bZ).grow gh;have hy:=(hy.at hS bZ).grow gh;have ir:=(ir.at hS bZ).grow gh;replace hS:=hS.aj bZ gG gN gh;obtain⟨F5,cG,-,gR,ff,hS⟩:=hS;clear iq
      by_cases iq:c<0
      ·have uN:decide (c<0)=true:=by simpa using iq
       have aW:=hg.1 iq;clear hg iq;have iD:=oY.out;rw [dw] at iD;simp only [Bool.true_and,aW,decide_true] at iD;clear dw aW;cases jt:iO V es q i with
       | none =>
        have p8:iO V es q (i+1)=some i:=by rw [iD,jt];rfl
        replace p8:=Hd p8;unfold kt at ir;rw [jt] at ir;simp only at ir;subst ir;clear iD jt;simp only []
        go_wp2_with (with_reducible refine bA 8 hS isAgg54 sizeOf54 ?_)
        refine (aRs i y b8 b9 bL _ S4 (hS.kT 4 rfl)).mono ?_;rintro e' w6 ⟨rfl,lT⟩;have hS:=hS.below lT.below lT.drawn;simp only [];go_wp2;refine qR [.p 0,.r 1,.e 2,.e 3] [] (fun w'=>aA w w' [.aH F5 w5,.aB vZ (.cells #[.bool y.num.neg,.slice y.num.ad y.num.n y.num.cap,.bool y.less.neg,.slice y.less.ad y.less.n y.less.cap] 54 (0,0))]) (fun w'=>aA w w' _) (by kernel_rfl) (by kernel_rfl) hS.drew (fun _ hZ=>aA.sub hZ (by repeat (first|exact List.Sublist.refl _|apply List.Sublist.cons_cons|apply List.Sublist.cons))) (fun w1 hS=>?_)
        repeat (with_reducible first|refine cz 1 isAgg54 sizeOf54 ?_|refine bU ?_)
        refine aZ ?_
        (with_reducible refine aJ 4 hS sizeOf3 fun _ hS=>?_)
        refine aX hS.sb ?_;refine aM ?_;refine aZ ?_
        (with_reducible refine aJ 5 hS sizeOf54 fun _ hS=>?_)
        refine aX hS.sb ?_;refine aM ?_;refine bE ?_;go_wp2;go_roundw
        case rel=>exact⟨i+1,F5,S4,_,(i:Int),y,by omega,by simp,hS.sb,cG,ff,gR,h,hp,oR.out,.new hy p8.out⟩
        case measure=>simp [intOf];omega
       | some b =>
        have oB:=a7f V es q i b jt;unfold kt at ir;rw [jt] at ir;simp only at ir;obtain⟨rfl,ht⟩:=ir;have hB:yG V es q (some b) i=(if iK V es i q.x=iK V es b q.x then decide (0<jW (nth ah es i).dir.uD (nth ah es b).dir.uD) else decide (iK V es b q.x<iK V es i q.x)):=rfl;rw [jt,hB] at iD;have ir:kt w5 S4 V es q i (b:Int) t:=by unfold kt;rw [jt];exact⟨rfl,ht⟩
        clear hB;have cH:=fun w' h' p1 p2 c1 c2 c3=>aTw L rs es prs V k f i b y t (iK V es i q.x) (iK V es b q.x) b8 b9 bL w' S4 h' dj (by omega) p1 p2 hd.out (by omega) c1 c2 c3
        obtain⟨B,hBe⟩:∃ B,(if iK V es i q.x=iK V es b q.x then decide (0<jW (nth ah es i).dir.uD (nth ah es b).dir.uD) else decide (iK V es b q.x<iK V es i q.x))=B:=⟨_,rfl⟩;rw [hBe] at iD;simp only [hBe] at cH;clear hBe;simp only []
        go_wp2_with (with_reducible refine bA 8 hS isAgg54 sizeOf54 ?_)
        refine (cH _ (h.at hS cG) (hy.at hS cG) (ht.at hS cG) (hS.kT 4 rfl) (hS.kT 5 rfl) (hS.kT 1 rfl)).mono ?_;rintro e' w6 ⟨rfl,lT⟩;have hS:=hS.below lT.below lT.drawn;clear cH;cases B with
        | true =>
         have p8:iO V es q (i+1)=some i:=by rw [iD];rfl
         replace p8:=Hd p8;clear iD jt ir ht;simp only [];go_wp2;refine qR [.p 0,.r 1,.e 2,.e 3] [] (fun w'=>aA w w' [.aH F5 w5,.aB vZ (.cells #[.bool y.num.neg,.slice y.num.ad y.num.n y.num.cap,.bool y.less.neg,.slice y.less.ad y.less.n y.less.cap] 54 (0,0))]) (fun w'=>aA w w' _) (by kernel_rfl) (by kernel_rfl) hS.drew (fun _ hZ=>aA.sub hZ (by repeat (first|exact List.Sublist.refl _|apply List.Sublist.cons_cons|apply List.Sublist.cons))) (fun w1 hS=>?_)
         repeat (with_reducible first|refine cz 1 isAgg54 sizeOf54 ?_|refine bU ?_)
         refine aZ ?_
         (with_reducible refine aJ 4 hS sizeOf3 fun _ hS=>?_)
         refine aX hS.sb ?_;refine aM ?_;refine aZ ?_
         (with_reducible refine aJ 5 hS sizeOf54 fun _ hS=>?_)
         refine aX hS.sb ?_;refine aM ?_;refine bE ?_;go_wp2;go_roundw
         case rel=>exact⟨i+1,F5,S4,_,(i:Int),y,by omega,by simp,hS.sb,cG,ff,gR,h,hp,oR.out,.new hy p8.out⟩
         case measure=>simp [intOf];omega
        | false =>
         have pE:iO V es q (i+1)=iO V es q i:=by rw [iD,jt];rfl
         replace pE:=Hd pE;obtain⟨kd,pB⟩:∃ z:Int,(b:Int)=z:=⟨_,rfl⟩;rw [pB] at ir hS;clear iD jt ht;simp only [];go_wp2;go_roundw
         case rel=>exact⟨i+1,F5,S4,_,kd,t,by omega,by simp,hS.sb,cG,ff,gR,h,hp,oR.out,ir.nx pE.out⟩
         case measure=>simp [intOf];omega
      ·have uN:decide (c<0)=false:=by simpa using iq
       have gB:¬ iK V es i q.x<q.y:=fun hl=>iq (hg.2 hl)
       have pE:iO V es q (i+1)=iO V es q i:=by rw [oY.out,dw];simp [gB]
       replace pE:=Hd pE;clear dw gB hg iq;simp only []
       go_wp2_with (first|((with_reducible refine dq (T:=54) ?_);refine sf rfl ?_;simp only [aD]))
       go_roundw
       case rel=>exact⟨i+1,F5,S4,_,kd,t,by omega,by simp,hS.sb,cG,ff,gR,h,hp,oR.out,ir.nx pE.out⟩
       case measure=>simp [intOf];omega
   ·obtain rfl:i=es.length:=by omega
    cases jt:iO V es q es.length with
    | none =>
     unfold kt at ir;rw [jt] at ir;simp only at ir;subst ir;have hR:=aEY (Lf:=f.L) nA.out hfo.out jt;replace hR:=Hd hR;clear jt
     go_wp2_with (with_reducible first|refine aU 4 hS isAgg3 ?_|refine aJ 3 hS sizeOf47 fun _ hS=>?_)
     try simp only [Exit.noGoto_ret]
     exact jJ 3 hS rfl rfl rfl isAgg47 sizeOf47 rfl rfl ⟨by (rw [hR.out] <;> rfl),(bD.step hS bC aC).back⟩
    | some b =>
     have oB:=a7f V es q _ b jt;unfold kt at ir;rw [jt] at ir;simp only at ir;obtain⟨rfl,-⟩:=ir;have hR:=aD1 (Lf:=f.L) nA.out hfo.out jt;replace hR:=Hd hR;clear jt;have aEe:decide ((b:Int)<0)=false:=by simp
     go_wp2_with (with_reducible first|refine aU 4 hS isAgg3 ?_|refine aU 1 hS isAgg38 ?_)
     refine (aUS L rs es prs V k f b _ S0 (h.at hS aC) (by omega) (by omega)).mono ?_;rintro e' w' ⟨rfl,az⟩;have hS:=hS.below az.below az.drawn;simp only []
     go_wp2_with (with_reducible refine aJ 3 hS sizeOf47 fun _ hS=>?_)
     try simp only [Exit.noGoto_ret]
     exact jJ 3 hS rfl rfl rfl isAgg47 sizeOf47 rfl rfl ⟨by (rw [hR.out] <;> rfl),(bD.step hS bC aC).back⟩
def ot (V:List Pt) (es:List Ed) (Lf:List Int) (q:Pt):Int × Int × Int :=
 if (jS V es Lf q).1=1 then ((jS V es Lf q).2,nth 0 Lf (2*(jS V es Lf q).2.toNat),nth 0 Lf (2*(jS V es Lf q).2.toNat+1)) else (-1,(jS V es Lf q).2,(jS V es Lf q).2)
theorem aQE {V:List Pt} {es:List Ed} {Lf:List Int} {p:Pt} (h:ke V p=none):(∃ e,e<es.length∧jS V es Lf p=(1,(e:Int)))∨∃ z,jS V es Lf p=(2,z):=by
 cases he:jC V es p es.length with
 | some e=>exact .inl ⟨e,(a7d _ _ he).1,a7G h he⟩
 | none =>
  cases hb:iO V es p es.length with
  | none=>exact .inr ⟨_,aEY h he hb⟩
  | some b=>exact .inr ⟨_,aD1 h he hb⟩
theorem aHf {fn:Func} {t u v x:Tmp} (h:fn.results=#[.tmp t,.tmp u,.tmp v,.tmp x]) (tmps:Array Value) (P:Program) (w:World) :
 (results fn tmps).run P w=.ok (.tuple #[tmps.getD t undef,tmps.getD u undef,tmps.getD v undef,tmps.getD x undef]) w:=by
 simp [results,h]
theorem aRW (L:rQ) (g1 g2 g3 g4 r1 r2 r3 r4 r5:Option Addr × Nat × Nat) (rs:List ER) (es:List Ed) (prs:List PR) (V:List Pt) (k:Nat) (f:iL) (p:PR) (q:Pt) (w:World) (S:Nat→Prop) (h:iX w S L rs es prs V k f) (rD:jb w S r1 r2 r3 r4 r5 f) (hp:dh w S p q) (hnv:ke V q=none) (hq:Bq k q.x∧Bq k q.y) (hk:8*k+8≤16384) (hd:∀ e ∈ es,e.dir.dir) (hx:∀ e ∈ es,(nth au V e.a).x<(nth au V e.b).x→e.dir.x≠0) (hV:V.Pairwise Pt.lt) (dp:f.L.length=2*es.length) (gO:V.length≤65536) (pw:es.length≤30000) :
 Calls prog 59 #[.agg #[sv g1,sv g2,sv g3,sv g4,sv r1,sv r2,sv r3,sv r4,sv r5,.func (.func 16) #[.pointer (some ⟨L.bl,0,none⟩)] #[]],.agg #[.bool p.x.num.neg,.slice p.x.num.ad p.x.num.n p.x.num.cap,.bool p.x.less.neg,.slice p.x.less.ad p.x.less.n p.x.less.cap,.bool p.y.num.neg,.slice p.y.num.ad p.y.num.n p.y.num.cap,.bool p.y.less.neg,.slice p.y.less.ad p.y.less.n p.y.less.cap]] w fun en w'=>en=.returned (.tuple #[.int .i64 (ot V es f.L q).1,.int .i64 (ot V es f.L q).2.1,.int .i64 (ot V es f.L q).2.2,.int .i64 0])∧Pure w S w' S:=by
 obtain⟨g1,x1,y1⟩:=g1;obtain⟨g2,x2,y2⟩:=g2;obtain⟨g3,x3,y3⟩:=g3;obtain⟨g4,x4,y4⟩:=g4;obtain⟨r1,u1,v1⟩:=r1;obtain⟨r2,N,v2⟩:=r2;obtain⟨r3,u3,v3⟩:=r3;obtain⟨r4,u4,v4⟩:=r4;obtain⟨r5,u5,v5⟩:=r5;simp only [sv];have hL:=h.arr.live;have a7R:Ints w S (.slice r2 N v2) f.L:=rD.l;have hlen:=a7R.len;have hN1:N≤2*es.length:=by omega
 have sy:2*es.length≤N:=by omega
 have hcs:=aQE (es:=es) (Lf:=f.L) hnv;have cF:=fun w' S' h' iY=>aUl L rs es prs V k f p q w' S' h' iY hq hk hd hx hV dp gO pw
 have dw:ot V es f.L q=if (jS V es f.L q).1=1 then ((jS V es f.L q).2,nth 0 f.L (2*(jS V es f.L q).2.toNat),nth 0 f.L (2*(jS V es f.L q).2.toNat+1)) else (-1,(jS V es f.L q).2,(jS V es f.L q).2):=rfl
 obtain⟨s,hs⟩:∃ s,jS V es f.L q=s:=⟨_,rfl⟩;simp only [hs] at cF hcs dw;clear hs hlen hnv hq hx hV hd dp;replace dw:=Hd dw;obtain⟨hS,aC,bC,bD⟩:=eR hL
 go_enter func59,ntmps59
 go_wp2_with (with_reducible first|refine cI hS fun b2 ri hS=>?_|refine aU 1 hS isAgg49 ?_|refine bA 2 hS isAgg56 sizeOf56 ?_)
 refine (cF _ S (h.at hS aC) (hp.at hS aC)).mono ?_;rintro e' w' ⟨rfl,az⟩;have aHW:=(a7R.1.move (hS.da aC)).grow az;replace hS:=hS.aj aC bC bD az;obtain⟨F1,aG,-,bB,av,hS⟩:=hS;have hFL:Ints w' F1 (.slice r2 N v2) f.L:=⟨aHW.weaken aG,a7R.2⟩;clear cF aHW a7R hp
 rcases hcs with ⟨e,he,rfl⟩|⟨z,rfl⟩
 ·obtain⟨M,hM⟩:∃ M,2*e=M:=⟨_,rfl⟩
  obtain⟨M1,hM1⟩:∃ M1,M+1=M1:=⟨_,rfl⟩;have hR:=dw.out;simp only [Int.toNat_natCast,hM,hM1] at hR;have u1:IntKind.i64.wrap (2*(e:Int))=(M:Int):=w7;have u2:IntKind.i64.wrap ((M:Int)+1)=(M1:Int):=w7;have hMb:M<N∧M1<N:=by omega
  obtain⟨hMa,hMb⟩:=hMb;replace hR:=Hd hR;clear hM hM1 dw;have eo:(((1:Int)) == 2)=false:=rfl;have fH:(((1:Int)) != 1)=false:=rfl;simp only []
  go_wp2_with (with_reducible first|refine bH hS zeroValue47 fun b8 xe hS=>?_|refine aJ 3 hS sizeOf47 fun _ hS=>?_|refine aU 3 hS isAgg3 ?_)
  refine dB [.p 0,.r 1,.p 2,.p 3,.r 4,.p 5,.r 6,.p 7,.p 8,.r 9,.p 10,.p 11,.r 12,.p 13,.r 14,.p 15,.p 16,.p 17,.r 18,.p 19,.p 20,.p 21,.p 22] [] hS fun w1 hS=>?_
  repeat (with_reducible first|refine cZ 3 isAgg3 ?_|refine cZ 1 isAgg22 ?_|refine jl underlying22 sizeOf3 fun _ _ _=>?_|refine eY isAgg3 ?_|refine bU ?_)
  refine bE ?_;go_wp2;refine bodyPost_ret (aHf rfl _ _ _) rfl ?_;exact⟨by (rw [hR.out] <;> rfl),bB.step hS av aG⟩
 ·have hR:=dw.out
  replace hR:=Hd hR;clear dw;have eo:(((2:Int)) == 2)=true:=rfl;simp only []
  go_wp2_with (with_reducible first|refine bH hS zeroValue47 fun b8 xe hS=>?_|refine aJ 3 hS sizeOf47 fun _ hS=>?_|refine aU 3 hS isAgg3 ?_)
  refine dB [.p 0,.r 1,.p 2,.r 3,.p 4,.p 5,.p 6,.p 7,.p 8] [] hS fun w1 hS=>?_
  repeat (with_reducible first|refine cZ 3 isAgg3 ?_|refine bU ?_)
  refine bE ?_;go_wp2;refine bodyPost_ret (aHf rfl _ _ _) rfl ?_;exact⟨by (rw [hR.out] <;> rfl),bB.step hS av aG⟩
theorem aA.pull {w:World} {b:Nat} {o:Obj} (hb:w.heap[b]? = some o):aA w w [.aH (fun k=>Old w k∧k≠b) w,.aB b o]:=by
 refine⟨rfl,rfl,rfl,Nat.le_refl _,Nat.le_refl _,fun c hc=>?_,?_⟩
 ·rcases List.mem_cons.1 hc with rfl|hc
  ·exact fun k hk=>⟨hk.1,rfl⟩
  ·obtain rfl:=List.mem_singleton.1 hc
   exact hb
 ·refine List.pairwise_cons.2 ⟨fun d hd k hk=>?_,List.pairwise_singleton _ _⟩
  obtain rfl:=List.mem_singleton.1 hd;exact hk.2
theorem aA.aTO {w w' wr:World} {F:Nat→Prop} {H:List Chunk} {b:Nat} {o:Obj} (hb:w.heap[b]? = some o) (hS:aA w w' (.aH F wr::H)) (hO:∀ k,Old w k∧k≠b→F k) (hk:∀ k,Old w k∧k≠b→wr.heap[k]? = w.heap[k]?) (hm:Chunk.aB b o ∈ H):Below w.heap.size w w':=by
 refine⟨hS.os,hS.tape,hS.output,hS.size,fun k aW=>?_⟩
 by_cases e:k=b
 ·subst e
  rw [hb];exact hS.aB (List.mem_cons_of_mem _ hm)
 ·exact ((hS.ok (.aH F wr) (by simp) k (hO k ⟨aW,e⟩)).2).trans (hk k ⟨aW,e⟩)
def a8o (w wr:World) (b:Nat):Prop:=∀ k,Old w k∧k≠b→wr.heap[k]? = w.heap[k]?
def oz (p q:Pt):Pt:=⟨(p.x+q.x) / 2,(p.y+q.y) / 2⟩
theorem aKG (x y:FR) (a b:Rat) (k be:Nat) (w:World) (S:Nat→Prop) (hb:w.heap[be]? = some (.cells #[.int .i64 0] 43 (0,0))) (vr:¬ S be) (hL:aP w S) (hx:eN w S x a) (hy:eN w S y b) (ka:Bq k a) (kb:Bq k b) (hk:2*k+4≤16384) :
 Calls prog 107 #[.agg #[.bool x.num.neg,.slice x.num.ad x.num.n x.num.cap,.bool x.less.neg,.slice x.less.ad x.less.n x.less.cap],.agg #[.bool y.num.neg,.slice y.num.ad y.num.n y.num.cap,.bool y.less.neg,.slice y.less.ad y.less.n y.less.cap],.pointer (some ⟨be,0,none⟩)] w fun e w'=>∃ (z:FR) (S':Nat→Prop),e=.returned (.agg #[.bool z.num.neg,.slice z.num.ad z.num.n z.num.cap,.bool z.less.neg,.slice z.less.ad z.less.n z.less.cap])∧Pure w S w' S'∧eN w' S' z ((a+b) / 2):=by
 have hS:=aA.pull hb;obtain⟨F0,aAQ⟩:∃ F0,F0=fun k=>Old w k∧k≠be:=⟨_,rfl⟩
 have bC:∀ k,Old w k∧k≠be→F0 k:=fun k h=>by rw [aAQ];exact h
 have aC:∀ k,S k→F0 k:=fun k h=>by rw [aAQ];exact⟨hL k h,fun e=>vr (e ▸ h)⟩
 rw [← aAQ] at hS;clear aAQ;obtain⟨S0,nh⟩:∃ S0,S0=S:=⟨_,rfl⟩;have oh:∀ k,S0 k→S k∨w.heap.size≤k:=fun k h=>.inl (nh ▸ h)
 have tp:∀ k,S k→S0 k:=fun k h=>nh ▸ h
 have aN5:a8o w w be:=fun _ _=>rfl
 have aC:∀ k,S0 k→F0 k:=fun k h=>aC k (nh ▸ h)
 have hx:=hx.weaken tp;have hy:=hy.weaken tp;clear nh
 go_enter func107,ntmps107
 go_wp2_with (with_reducible first|refine cI hS fun b3 wb3 hS=>?_|refine bH hS zeroValue54 fun b5 wb5 hS=>?_|refine aU 1 hS isAgg43 ?_|refine bA 2 hS isAgg54 sizeOf54 ?_|refine bA 3 hS isAgg54 sizeOf54 ?_)
 refine (aAw x y a b k k _ S0 (hx.at hS aC) (hy.at hS aC) (aP.at hS aC) ka kb (by omega)).mono ?_;rintro e w1 ⟨z,S1,rfl,az,hz⟩
 have eX:∀ k,S1 k→S k∨w.heap.size≤k:=fun k hk=>by
  rcases az.new k hk with h|h
  ·exact oh k h
  ·exact .inr (Nat.le_trans hS.size h.1)
 have zC:∀ k,S k→S1 k:=fun k hk=>az.sub k (tp k hk)
 have aOW:a8o w _ be:=fun k (h:Old w k∧k≠be)=>((az.below.block k (hS.ok _ List.mem_cons_self k (bC k h)).1).trans (hS.ok _ List.mem_cons_self k (bC k h)).2).trans (aN5 k h)
 obtain⟨F1,aG,gp,cU⟩:=hS.a1l aC az;have av:=fun k h=>gp k (bC k h)
 clear hS;have hS:=cU;clear cU;simp only [iW]
 go_wp2_with (with_reducible first|refine aJ 5 hS sizeOf54 fun _ hS=>?_|refine aJ 1 hS sizeOf43 fun _ hS=>?_|refine aU 1 hS isAgg43 ?_)
 refine dB [.r 0,.e 1,.e 2,.p 3,.p 4,.p 5,.m 6,.m 7] [6,7] hS fun w1 hS=>?_
 have hC:=hS
 repeat (with_reducible refine cz 5 isAgg54 sizeOf54 ?_)
 refine aZ ?_
 go_wp2_with (fail)
 refine (x8 2 _ S1 (by unfold bQ;omega) (aP.at hS aG)).mono ?_;rintro e w' ⟨t,S2,rfl,aR,ht⟩;simp only [];go_step;have hz:=(hz.at hS aG).grow aR;have hC:=hC.below aR.below aR.drawn
 have fx:∀ k,S2 k→S k∨w.heap.size≤k:=fun k hk=>by
  rcases aR.new k hk with h|h
  ·exact eX k h
  ·exact .inr (Nat.le_trans hS.size h.1)
 have hs2:∀ k,S k→S2 k:=fun k hk=>aR.sub k (zC k hk)
 have aOw:a8o w _ be:=fun k (h:Old w k∧k≠be)=>((aR.below.block k (hS.ok _ List.mem_cons_self k (av k h)).1).trans (hS.ok _ List.mem_cons_self k (av k h)).2).trans (aOW k h)
 obtain⟨F2,aQ,jV,cK⟩:=hS.a1l aG aR;have bP:=fun k h=>jV k (av k h)
 clear hS;have hS:=cK;clear cK;refine aX hC ?_;refine aM ?_;refine aZ ?_
 go_wp2_with (fail)
 refine (aG4 z t (a+b) ((2:Int):Rat) (k+k+1) 2 _ S2 (hz.at hS aQ) (ht.at hS aQ) (aP.at hS aQ) (ka.add kb) (Bq.int (by omega) (by decide)) (by omega) (by decide)).mono ?_;rintro e w' ⟨u,S3,rfl,bI,hu⟩;simp only [iW];go_step;have hC:=(hC.call bI.below bI.drawn).sub (List.sublist_append_left _ _)
 have my:∀ k,S3 k→S k∨w.heap.size≤k:=fun k hk=>by
  rcases bI.new k hk with h|h
  ·exact fx k h
  ·exact .inr (Nat.le_trans hS.size h.1)
 have hs3:∀ k,S k→S3 k:=fun k hk=>bI.sub k (hs2 k hk)
 have aTX:a8o w _ be:=fun k (h:Old w k∧k≠be)=>((bI.below.block k (hS.ok _ List.mem_cons_self k (bP k h)).1).trans (hS.ok _ List.mem_cons_self k (bP k h)).2).trans (aOw k h)
 obtain⟨F3,bM,nQ,yo⟩:=hS.a1l aQ bI;have dE:=fun k h=>nQ k (bP k h)
 clear hS;have hS:=yo;clear yo;refine aX hC ?_;refine aM ?_;refine dC ?_
 (with_reducible refine aJ 5 hS sizeOf54 fun _ hS=>?_)
 refine dD ?_;refine aM ?_;refine dC ?_
 (with_reducible refine aJ 1 hS sizeOf43 fun _ hS=>?_)
 refine dD ?_;refine aM ?_;refine bE ?_;clear hC
 go_wp2_with (with_reducible first|refine bA 5 hS isAgg54 sizeOf54 ?_|refine aJ 4 hS sizeOf54 fun _ hS=>?_)
 exact fE 4 hS rfl rfl rfl isAgg54 sizeOf54 rfl rfl ⟨u,S3,rfl,⟨aA.aTO hb hS dE aTX (by simp),hS.drawn,hs3,fun k hk=>(my k hk).elim .inl fun h=>.inr ⟨h,(hS.ok _ List.mem_cons_self k (bM k hk)).1⟩⟩,(hu.at hS bM).cast (by simp)⟩
theorem aMU (p q:PR) (a b:Pt) (k:Nat) (w:World) (S:Nat→Prop) (hp:dh w S p a) (hq:dh w S q b) (hL:aP w S) (ka:Bq k a.x∧Bq k a.y) (kb:Bq k b.x∧Bq k b.y) (hk:2*k+4≤16384) :
 Calls prog 58 #[.agg #[.bool p.x.num.neg,.slice p.x.num.ad p.x.num.n p.x.num.cap,.bool p.x.less.neg,.slice p.x.less.ad p.x.less.n p.x.less.cap,.bool p.y.num.neg,.slice p.y.num.ad p.y.num.n p.y.num.cap,.bool p.y.less.neg,.slice p.y.less.ad p.y.less.n p.y.less.cap],.agg #[.bool q.x.num.neg,.slice q.x.num.ad q.x.num.n q.x.num.cap,.bool q.x.less.neg,.slice q.x.less.ad q.x.less.n q.x.less.cap,.bool q.y.num.neg,.slice q.y.num.ad q.y.num.n q.y.num.cap,.bool q.y.less.neg,.slice q.y.less.ad q.y.less.n q.y.less.cap]] w fun e w'=>∃ (z:PR) (S':Nat→Prop),e=.returned (.tuple #[.agg #[.bool z.x.num.neg,.slice z.x.num.ad z.x.num.n z.x.num.cap,.bool z.x.less.neg,.slice z.x.less.ad z.x.less.n z.x.less.cap,.bool z.y.num.neg,.slice z.y.num.ad z.y.num.n z.y.num.cap,.bool z.y.less.neg,.slice z.y.less.ad z.y.less.n z.y.less.cap],.int .i64 0])∧Pure w S w' S'∧dh w' S' z (oz a b):=by
 have c1:=fun w' S' be hb vr eM hx hy=>aKG p.x q.x a.x b.x k be w' S' hb vr eM hx hy ka.1 kb.1 hk
 have c2:=fun w' S' be hb vr eM hx hy=>aKG p.y q.y a.y b.y k be w' S' hb vr eM hx hy ka.2 kb.2 hk
 obtain⟨hS,aC,bC,bD⟩:=eR hL
 go_enter func58,ntmps58
 go_wp2_with (with_reducible first|refine cI hS fun b2 ri hS=>?_|refine bH hS zeroValue56 fun b4 zS hS=>?_|refine bH hS zeroValue43 fun b6 xz hS=>?_)
 refine kQ 1 [.p 0,.p 1,.r 2,.p 3,.r 4,.p 6,.p 7,.r 8,.p 9,.r 10,.e 5,.e 11,.p 12] [.e 14] [] [eU 13 8 56 (.agg #[.bool false,.slice none 0 0,.bool false,.slice none 0 0,.bool false,.slice none 0 0,.bool false,.slice none 0 0])] w _ (by kernel_rfl) (by kernel_rfl) (o8 rfl zeroValue56) hS.drew ?_;obtain⟨aI,aT⟩:=hS.jw
 repeat (with_reducible first|refine py 1 isAgg54 sizeOf54 ?_|refine py 2 isAgg54 sizeOf54 ?_|refine lF ?_)
 refine eI rfl (fun B wB hS=>?_);simp only [aK] at hS;have lh:¬ S b6:=fun h=>(List.pairwise_cons.1 hS.apart).1 (.aB b6 _) (bW (i:=3) rfl) b6 (aC _ h) rfl
 go_wp2_with (fail)
 refine (c1 _ S b6 (hS.aB (bW (i:=4) rfl)) lh (aP.at hS aC) (hp.x.at hS aC) (hq.x.at hS aC)).mono ?_;rintro e w' ⟨z1,S1,rfl,az,fG⟩;simp only [];go_step;have hp:=(hp.at hS aC).grow az;have hq:=(hq.at hS aC).grow az;have aT:=aA.fC hS az.below aI aT;replace hS:=hS.aj aC bC bD az;obtain⟨F1,aG,gp,bB,av,hS⟩:=hS;have aI:=dZ.trans aI gp;refine eH (H:=_) hS aI aT ?_;refine dz ?_;refine eI rfl (fun B wB hS=>?_);simp only [aK] at hS;have lh:¬ S1 b6:=fun h=>(List.pairwise_cons.1 hS.apart).1 (.aB b6 _) (bW (i:=3) rfl) b6 (aG _ h) rfl
 go_wp2_with (fail)
 refine (c2 _ S1 b6 (hS.aB (bW (i:=4) rfl)) lh (aP.at hS aG) (hp.y.at hS aG) (hq.y.at hS aG)).mono ?_;rintro e w' ⟨z2,S2,rfl,aR,gS⟩;simp only [];go_step;have fG:=(fG.at hS aG).grow aR;have aT:=aA.fC hS aR.below aI aT;replace hS:=hS.aj aG av bB aR;obtain⟨F2,aQ,jV,bR,bP,hS⟩:=hS;have aI:=dZ.trans aI jV;refine eH (H:=_) hS aI aT ?_;refine dz ?_;refine mq (fun b8 wB hS=>?_);simp only [aK] at hS;simp only [aD];refine aZ ?_
 (with_reducible refine aJ 5 hS sizeOf56 fun _ hS=>?_)
 refine aX (aA.gA hS.sb aI aT) ?_;refine aM ?_;refine bE ?_;clear aI aT
 go_wp2_with (with_reducible first|refine aU 4 hS isAgg43 ?_|refine bA 5 hS isAgg56 sizeOf56 ?_|refine aJ 3 hS sizeOf56 fun _ hS=>?_)
 exact jJ 3 hS rfl rfl rfl isAgg56 sizeOf56 rfl rfl ⟨⟨z1,z2⟩,S2,rfl,bR.step hS bP aQ,fG.at hS aQ,gS.at hS aQ⟩
abbrev Lay:=List Sz × List Gp
def fF:Lay:=([],[])
structure kr where
 a:Option Addr × Nat × Nat
 b:Option Addr × Nat × Nat
def nu:kr:=⟨(none,0,0),(none,0,0)⟩
def fI (r:kr):List Value:=[.slice r.a.1 r.a.2.1 r.a.2.2,.slice r.b.1 r.b.2.1 r.b.2.2]
theorem a8g (r:kr):(fI r).length=2:=rfl
structure jc (w:World) (S:Nat→Prop) (rs:List kr) (ls:List Lay):Prop where
 len:rs.length=ls.length
 sg:∀ i,i<ls.length→bN w S 4 (.slice (nth nu rs i).a.1 (nth nu rs i).a.2.1 (nth nu rs i).a.2.2) (nth fF ls i).1.length ((nth fF ls i).1.flatMap sc)
 pt:∀ i,i<ls.length→bN w S 2 (.slice (nth nu rs i).b.1 (nth nu rs i).b.2.1 (nth nu rs i).b.2.2) (nth fF ls i).2.length ((nth fF ls i).2.flatMap gc)
variable {w0 w w' wr:World} {F S S':Nat→Prop}
theorem jc.move {rs:List kr} {ls:List Lay} (h:jc wr S rs ls) (hk:∀ k,S k→w.heap[k]? = wr.heap[k]?):jc w S rs ls:=⟨h.len,fun i hi=>(h.sg i hi).move hk,fun i hi=>(h.pt i hi).move hk⟩
def dX (ls:List Lay):List Sz:=ls.flatMap Prod.fst
def dm (ls:List Lay):List Gp:=ls.flatMap Prod.snd
theorem a8Q {ls:List Lay} {i:Nat} (hi:i<ls.length):dX (ls.take (i+1))=dX (ls.take i)++(nth fF ls i).1:=by
 unfold dX;rw [nk fF ls i hi];simp
theorem aAO {ls:List Lay} {i:Nat} (hi:i<ls.length):dm (ls.take (i+1))=dm (ls.take i)++(nth fF ls i).2:=by
 unfold dm;rw [nk fF ls i hi];simp
theorem aGN {ls:List Lay} (i:Nat):(dX (ls.take i)).length≤(dX ls).length:=by
 have h:dX ls=dX (ls.take i)++dX (ls.drop i):=by unfold dX;rw [← List.flatMap_append,List.take_append_drop]
 rw [h,List.length_append];omega
theorem aL7 {ls:List Lay} (i:Nat):(dm (ls.take i)).length≤(dm ls).length:=by
 have h:dm ls=dm (ls.take i)++dm (ls.drop i):=by unfold dm;rw [← List.flatMap_append,List.take_append_drop]
 rw [h,List.length_append];omega
structure Sh where
 V:List Pt
 es:List Ed
 RL:List (List Nat)
def mO:Sh:=⟨[],[],[]⟩
structure oU where
 l:rQ
 g1:Option Addr × Nat × Nat
 g2:Option Addr × Nat × Nat
 g3:Option Addr × Nat × Nat
 g4:Option Addr × Nat × Nat
 r1:Option Addr × Nat × Nat
 r2:Option Addr × Nat × Nat
 r3:Option Addr × Nat × Nat
 r4:Option Addr × Nat × Nat
 r5:Option Addr × Nat × Nat
 rs:List ER
 prs:List PR
def nn:Option Addr × Nat × Nat:=(none,0,0)
def sr0:oU:=⟨⟨0,nn,nn,nn,nn,nn,nn,nn,nn,nn⟩,nn,nn,nn,nn,nn,nn,nn,nn,nn,[],[]⟩
def uv (x:oU):List Value:=[.slice x.g1.1 x.g1.2.1 x.g1.2.2,.slice x.g2.1 x.g2.2.1 x.g2.2.2,.slice x.g3.1 x.g3.2.1 x.g3.2.2,.slice x.g4.1 x.g4.2.1 x.g4.2.2,.slice x.r1.1 x.r1.2.1 x.r1.2.2,.slice x.r2.1 x.r2.2.1 x.r2.2.2,.slice x.r3.1 x.r3.2.1 x.r3.2.2,.slice x.r4.1 x.r4.2.1 x.r4.2.2,.slice x.r5.1 x.r5.2.1 x.r5.2.2,.func (.func 16) #[.pointer (some ⟨x.l.bl,0,none⟩)] #[]]
theorem aSW (x:oU):(uv x).length=10:=rfl
def Sh.f (y:Sh):iL:=nZ y.V y.es y.RL
structure tz (w:World) (S:Nat→Prop) (x:oU) (y:Sh):Prop where
 loc:iX w S x.l x.rs y.es x.prs y.V 300 (Sh.f y)
 arr:kC w S x.g3.1 x.g4.1 x.g3.2.1 x.g3.2.2 x.g4.2.1 x.g4.2.2 x.rs y.es x.prs y.V 300
 fc:jb w S x.r1 x.r2 x.r3 x.r4 x.r5 (Sh.f y)
structure mN (os:List Sz) (gs:List Gp) (y:Sh):Prop where
 arr:eu os gs y.V y.es
 rl:o4 y.V y.es y.RL
structure rK (w:World) (S:Nat→Prop) (xs:List oU) (ys:List Sh):Prop where
 len:xs.length=ys.length
 el:∀ i,i<ys.length→tz w S (nth sr0 xs i) (nth mO ys i)
variable {w0 w w' wr:World} {F S S':Nat→Prop}
theorem tz.below {x:oU} {y:Sh} (h:tz w S x y) (hb:Below w.heap.size w w'):tz w' S x y:=⟨h.loc.below hb,h.arr.k8 hb,h.fc.k8 h.arr.live hb⟩
theorem iX.wk' {T:Nat→Prop} {L:rQ} {rs:List ER} {es:List Ed} {prs:List PR} {V:List Pt} {k:Nat} {f:iL} (h:iX w S L rs es prs V k f) (hs:∀ k,S k→T k) (hL:aP w T):iX w T L rs es prs V k f:=⟨h.cell.weaken hs,h.arr.wk hs hL,h.fc.wk hs⟩
theorem tz.wk {T:Nat→Prop} {x:oU} {y:Sh} (h:tz w S x y) (hs:∀ k,S k→T k) (hL:aP w T):tz w T x y:=⟨iX.wk' h.loc hs hL,h.arr.wk hs hL,h.fc.wk hs⟩
theorem tz.at {H:List Chunk} {x:oU} {y:Sh} (h:tz wr S x y) (hS:aA w0 w (.aH F wr::H)) (hF:∀ k,S k→F k):tz w S x y:=⟨h.loc.at hS hF,h.arr.at hS hF,h.fc.move (hS.da hF)⟩
theorem rK.below {xs:List oU} {ys:List Sh} (h:rK w S xs ys) (hb:Below w.heap.size w w'):rK w' S xs ys:=⟨h.len,fun i hi=>(h.el i hi).below hb⟩
theorem rK.wk {T:Nat→Prop} {xs:List oU} {ys:List Sh} (h:rK w S xs ys) (hs:∀ k,S k→T k) (hL:aP w T):rK w T xs ys:=⟨h.len,fun i hi=>(h.el i hi).wk hs hL⟩
theorem rK.at {H:List Chunk} {xs:List oU} {ys:List Sh} (h:rK wr S xs ys) (hS:aA w0 w (.aH F wr::H)) (hF:∀ k,S k→F k):rK w S xs ys:=⟨h.len,fun i hi=>(h.el i hi).at hS hF⟩
theorem rK.snoc {xs:List oU} {ys:List Sh} {x:oU} {y:Sh} (h:rK w S xs ys) (h1:tz w S x y):rK w S (xs++[x]) (ys++[y]):=by
 refine⟨by simp [h.len],fun i hi=>?_⟩;rw [List.length_append,List.length_singleton] at hi
 rcases Nat.lt_or_ge i ys.length with aW|gB
 ·rw [ju sr0 xs [x] i (by rw [h.len];exact aW),ju mO ys [y] i aW];exact h.el i aW
 ·obtain rfl:i=ys.length:=by omega
  have e1:nth sr0 (xs++[x]) ys.length=x:=by rw [← h.len];unfold nth;simp
  have e2:nth mO (ys++[y]) ys.length=y:=by unfold nth;simp
  rw [e1,e2];exact h1
theorem aUa:(prog.info? 125).map (fun i=>(i.zero,i.size,i.bytes))=some (some (.agg #[.slice none 0 0,.slice none 0 0,.slice none 0 0,.slice none 0 0,.slice none 0 0,.slice none 0 0,.slice none 0 0,.slice none 0 0,.slice none 0 0,.nilFunc]),10,224):=by kernel_rfl
variable {w0 w w' wr wm:World} {H:List Chunk} {M:Nat→Prop} {Tb:TypeId} {n:Nat} {bs:List Nat} {fs:List (List Int)}
structure k7 (w:World) (M:Nat→Prop) (Tb:TypeId) (n:Nat) (bs:List Nat) (fs:List (List Int)):Prop where
 len:bs.length=fs.length
 nd:bs.Nodup
 inM:∀ i,i<fs.length→M (nth 0 bs i)
 cel:∀ i,i<fs.length→w.heap[nth 0 bs i]? = some (.cells (iv (nth [] fs i)).toArray Tb (0,0))
 row:∀ i,i<fs.length→(nth [] fs i).length=n
 rng:∀ i,i<fs.length→∀ x ∈ nth [] fs i,bQ x
 big:n≤maxLen
def tC (fs:List (List Int)) (i k:Nat) (v:Int):List (List Int):=fs.set i ((nth [] fs i).set k v)
theorem a2Q (fs:List (List Int)) (i k:Nat) (v:Int):(tC fs i k v).length=fs.length:=by simp [tC]
theorem a7v {α:Type} (z:α) (l:List α) (i j:Nat) (v:α) (hi:i<l.length):nth z (l.set i v) j=if j=i then v else nth z l j:=by
 unfold nth;simp only [List.getD_eq_getElem?_getD,List.getElem?_set]
 by_cases h:i=j
 ·subst h;simp [hi]
 ·have h2:¬ j=i:=fun e=>h e.symm
  simp [h,h2]
theorem aPW {l:List Nat} (h:l.Nodup) {i j:Nat} (hi:i<l.length) (hj:j<l.length) (e:nth 0 l i=nth 0 l j):i=j:=by
 rw [bS 0 l i hi,bS 0 l j hj] at e;have hp:=List.pairwise_iff_getElem.1 h
 rcases Nat.lt_trichotomy i j with hl|hl|hl
 ·exact absurd e (hp i j hi hj hl)
 ·exact hl
 ·exact absurd e.symm (hp j i hj hi hl)
theorem k7.move (h:k7 wr M Tb n bs fs) (hk:∀ k,M k→w.heap[k]? = wr.heap[k]?):k7 w M Tb n bs fs :=
 ⟨h.len,h.nd,h.inM,fun i hi=>(hk _ (h.inM i hi)).trans (h.cel i hi),h.row,h.rng,h.big⟩
theorem k7.now (h:k7 wm M Tb n bs fs) (hS:aA w0 w H) (hm:Chunk.aH M wm ∈ H):k7 w M Tb n bs fs:=h.move fun k hk=>hS.aH hm hk
theorem k7.slc (h:k7 w M Tb n bs fs) {i:Nat} (hi:i<fs.length):Ints w M (.slice (some ⟨nth 0 bs i,0,none⟩) n n) (nth [] fs i):=by
 have h1:=h.row i hi;refine⟨⟨by simp [h1],some ⟨nth 0 bs i,0,none⟩,n,by rw [h1],by omega,h.big,⟨(by intro e;cases e),fun ad e=>?_⟩⟩,h.rng i hi⟩;obtain rfl:ad=⟨nth 0 bs i,0,none⟩:=(Option.some.inj e).symm;refine⟨fun _=>rfl,fun _=>h.inM i hi,fun j u hu=>?_⟩;have h2:=h.cel i hi;simp only [World.cell?,h2,Nat.zero_add];have uk:(iv (nth [] fs i))[j]? = some u:=hu
 simpa using uk
theorem aA.aU3 {b:Nat} {l:List Int} (hS:aA w0 w H) (hm:Chunk.row (.slice (some ⟨b,0,none⟩) n n) Tb 1 n (iv l) ∈ H):w.heap[b]? = some (.cells (iv l).toArray Tb (0,0))∧l.length=n:=by
 obtain⟨hl,ho⟩:=hS.ok _ hm;rw [tK] at hl
 rcases ho with ⟨h1,h2⟩|⟨g',cap,cur,h1,fk,hg,mm,fg,hcs,eK⟩
 ·cases h1
 ·simp only [Value.slice.injEq,Option.some.injEq,Addr.mk.injEq] at h1
  obtain⟨⟨rfl,-⟩,-,rfl⟩:=h1
  have e:cur=(iv l).toArray:=by
   apply Array.ext';rw [← eK];rw [List.take_of_length_le (by rw [Array.length_toList];omega)]
  exact⟨e ▸ hg,by omega⟩
theorem k7.add {b:Nat} {l:List Int} (h:k7 wm M Tb n bs fs) (hS:aA w0 w (.aH M wm::.row (.slice (some ⟨b,0,none⟩) n n) Tb 1 n (iv l)::H)) (hl:∀ x ∈ l,bQ x) :
 ∃ M':Nat→Prop,(∀ k,M k→M' k)∧aA w0 w (.aH M' w::H)∧k7 w M' Tb n (bs++[b]) (fs++[l]):=by
 obtain⟨h1,h2⟩:=hS.aU3 (b:=b) (l:=l) (Tb:=Tb) (n:=n) (by simp);have lh:=(List.pairwise_cons.1 hS.apart).1 (.row (.slice (some ⟨b,0,none⟩) n n) Tb 1 n (iv l)) (by simp)
 have hh:∀ k,(Chunk.row (.slice (some ⟨b,0,none⟩) n n) Tb 1 n (iv l)).has k↔k=b:=fun k=>by
  simp only [Chunk.has,Value.ownBlock,Option.some.injEq];exact eq_comm
 have pE:b ∉ bs:=fun hb=>by
  obtain⟨i,hi,e⟩:=List.mem_iff_getElem.1 hb;have:=h.inM i (by rw [← h.len];exact hi);rw [bS 0 bs i hi,e] at this;exact lh b this ((hh b).2 rfl)
 have hn:=h.now hS (by simp);have hj:=aA.join (hS.freeze 1 rfl);refine⟨_,fun k hk=>.inl hk,hj,⟨by simp [h.len],?_,?_,?_,?_,?_,h.big⟩⟩
 ·rw [List.nodup_append]
  exact⟨h.nd,by simp,fun x hx y hy e=>pE (by obtain rfl:=List.mem_singleton.1 hy;exact e ▸ hx)⟩
 all_goals
  intro i hi;rw [List.length_append,List.length_singleton] at hi
  rcases Nat.lt_or_ge i fs.length with aW|gB
  ·try rw [ju 0 bs [b] i (by rw [h.len];exact aW)]
   try rw [ju [] fs [l] i aW]
   first|exact .inl (h.inM i aW)|exact hn.cel i aW|exact h.row i aW|exact h.rng i aW
  ·obtain rfl:i=fs.length:=by omega
   have e1:nth 0 (bs++[b]) fs.length=b:=by rw [← h.len];unfold nth;simp
   have e2:nth [] (fs++[l]) fs.length=l:=by unfold nth;simp
   try rw [e1]
   try rw [e2]
   first|exact .inr ((hh b).2 rfl)|exact h1|exact h2|exact hl
theorem k7.set (h:k7 w M Tb n bs fs) {i k:Nat} {v:Int} {cur:Array Value} (hi:i<fs.length) (hkn:k<n) (hv:bQ v) (hc:cur=(iv ((nth [] fs i).set k v)).toArray) (hb:w'.heap[nth 0 bs i]? = some (.cells cur Tb (0,0))) (ho:∀ k,k≠nth 0 bs i→w'.heap[k]? = w.heap[k]?):k7 w' M Tb n bs (tC fs i k v):=by
 subst hc;refine⟨by rw [a2Q];exact h.len,h.nd,?_,?_,?_,?_,h.big⟩
 all_goals
  intro j hj;rw [a2Q] at hj
  try unfold tC
  try rw [a7v [] fs i j _ hi]
 ·exact h.inM j hj
 ·by_cases e:j=i
  ·subst e;rw [if_pos rfl];exact hb
  ·rw [if_neg e,ho _ (fun e2=>e (aPW h.nd (by rw [h.len];exact hj) (by rw [h.len];exact hi) e2))]
   exact h.cel j hj
 ·split
  ·rw [List.length_set];exact h.row i hi
  ·exact h.row j hj
 ·intro x hx
  split at hx
  ·rcases List.mem_or_eq_of_mem_set hx with hx|rfl
   ·exact h.rng i hi x hx
   ·exact hv
  ·exact h.rng j hj x hx
section
variable {P:Program} {ops:Array Oper} {Q:Exit→Act→World→Prop} {rest:List Oper} {a:Act} {dst:Option Tmp} {ty T:TypeId} {pos:String} {ak:Array Edge} {x y:Operand}
theorem aLA {i k g:Nat} {v:Int} (j:Nat) (hS:aA w0 w H) (hm:k7 wm M Tb n bs fs) (hi:i<fs.length) (hkn:k<n) (hv:bQ v) (hg:nth 0 bs i=g) (hx:a.eval x=.pointer (some ⟨g,k,none⟩)) (hy:a.eval y=.int .i64 v) (hj:H[j]? = some (.aH M wm))
 (hT:∀ w,(sizeOf T).run P w=.ok 1 w)
 (hk:∀ w',aA w0 w' (H.set j (.aH M w'))→k7 w' M Tb n bs (tC fs i k v)→wpList P ops Q rest (a.put dst undef) w') :
 wpList P ops Q (⟨dst,.store T x y,ty,pos,ak,none⟩::rest) a w:=by
 subst hg;have hn:=hm.now hS (bW hj);have vR:=hn.cel i hi;have hrw:=hn.row i hi;have hr:=a7S (P:=P) (T:=T) (u:=.int .i64 v) (off:=k) hT vR (by simp [Value.cells,Value.oneCell']) (by simp [Value.cells,tK];omega);obtain⟨cur,a9q⟩:∃ cur,cur=((iv (nth [] fs i)).toArray.toList.take k++(Value.int .i64 v).cells.toList++(iv (nth [] fs i)).toArray.toList.drop (k+(Value.int .i64 v).cells.size)).toArray:=⟨_,rfl⟩;rw [← a9q] at hr
 have iF:cur=(iv ((nth [] fs i).set k v)).toArray:=by
  rw [a9q,iv,iv,List.map_set]
  congr 1
  rw [List.set_eq_take_append_cons_drop,if_pos (by rw [List.length_map];omega)];simp [Value.cells]
 have hh:=setRow_heap w (nth 0 bs i) _ cur Tb (0,0) vR;refine a3j (w':=w.setRow (nth 0 bs i) cur) rfl ?_ (hk _ ?_ ?_)
 ·generalize a.eval=ρ at hx hy
  simp only [execOp,hx,hy,Instr.storeAt,Instr.sureAddr,Sem.run_bind,Sem.run_pure,Result.andThen_ok,hr]
 ·refine hS.sQ j hj rfl rfl rfl (Nat.le_refl _) (by simp [World.setRow]) (fun k hk=>⟨?_,rfl⟩) (fun k hk=>.inl hk) (fun k _ bJ=>setRow_other w (nth 0 bs i) k _ (fun e=>bJ (by subst e;exact hm.inM i hi)))
  have:=(hS.ok _ (bW hj) k hk).1
  simpa [World.setRow] using this
 ·exact hn.set hi hkn hv iF hh (fun k bJ=>setRow_other w (nth 0 bs i) k _ bJ)
end
theorem aA.aJk (hS:aA w0 w H):aA w0 w (H++[.aH (fun _=>False) w]):=by
 refine⟨hS.os,hS.tape,hS.output,hS.drawn,hS.size,fun c hc=>?_,?_⟩
 ·rcases List.mem_append.1 hc with hc|hc
  ·exact hS.ok c hc
  ·obtain rfl:=List.mem_singleton.1 hc
   exact fun k hk=>hk.elim
 ·exact a07 hS.apart fun y hy k _ h=>h.elim
theorem k7.no (w:World) (Tb:TypeId) (n:Nat) (hn:n≤maxLen):k7 w (fun _=>False) Tb n [] [] :=
 ⟨rfl,List.nodup_nil,fun i hi=>by simp at hi,fun i hi=>by simp at hi,fun i hi=>by simp at hi,fun i hi=>by simp at hi,hn⟩
def qL (n:Nat) (bs:List Nat):List Value:=bs.map fun b=>.slice (some ⟨b,0,none⟩) n n
theorem aOB (n:Nat) (bs:List Nat) (b:Nat):qL n (bs++[b])=qL n bs++[.slice (some ⟨b,0,none⟩) n n]:=by simp [qL]
theorem aG3 (n:Nat) {bs:List Nat} {i:Nat} (hi:i<bs.length):(qL n bs)[i]? = some (.slice (some ⟨nth 0 bs i,0,none⟩) n n):=by
 rw [bS 0 bs i hi];simp [qL,hi]
structure j8 (w:World) (S:Nat→Prop) (s:Option Addr × Nat × Nat) (rs:List (Option Addr × Nat × Nat)) (fs:List (List Int)):Prop where
 len:rs.length=fs.length
 sl:bN w S 1 (sv s) fs.length (rs.map sv)
 row:∀ i,i<fs.length→Ints w S (sv (nth nn rs i)) (nth [] fs i)
theorem j8.move {S:Nat→Prop} {s:Option Addr × Nat × Nat} {rs:List (Option Addr × Nat × Nat)} (h:j8 wr S s rs fs) (hk:∀ k,S k→w.heap[k]? = wr.heap[k]?):j8 w S s rs fs:=⟨h.len,h.sl.move hk,fun i hi=>(h.row i hi).move hk⟩
theorem j8.wk {S T:Nat→Prop} {s:Option Addr × Nat × Nat} {rs:List (Option Addr × Nat × Nat)} (h:j8 w S s rs fs) (hs:∀ k,S k→T k):j8 w T s rs fs:=⟨h.len,h.sl.weaken hs,fun i hi=>(h.row i hi).weaken hs⟩
theorem j8.snoc {S:Nat→Prop} {rs:List (Option Addr × Nat × Nat)} {r:Option Addr × Nat × Nat} {l:List Int} (h:∀ i,i<fs.length→Ints w S (sv (nth nn rs i)) (nth [] fs i)) (hl:rs.length=fs.length) (h1:Ints w S (sv r) l):∀ i,i<(fs++[l]).length→Ints w S (sv (nth nn (rs++[r]) i)) (nth [] (fs++[l]) i):=by
 intro i hi;rw [List.length_append,List.length_singleton] at hi
 rcases Nat.lt_or_ge i fs.length with aW|gB
 ·rw [ju nn rs [r] i (by rw [hl];exact aW),ju [] fs [l] i aW];exact h i aW
 ·obtain rfl:i=fs.length:=by omega
  have e1:nth nn (rs++[r]) fs.length=r:=by rw [← hl];unfold nth;simp
  have e2:nth [] (fs++[l]) fs.length=l:=by unfold nth;simp
  rw [e1,e2];exact h1
theorem k7.mat {S:Nat→Prop} {a:Option Addr} {nf cf:Nat} (h:k7 w M Tb n bs fs) (bh:bN w S 1 (.slice a nf cf) nf (qL n bs)) (hn:nf=fs.length) (hs:∀ k,M k→S k):j8 w S (a,nf,cf) (bs.map fun b=>(some ⟨b,0,none⟩,n,n)) fs:=by
 subst hn;refine⟨by simp [h.len],?_,fun i hi=>?_⟩
 ·have e:(bs.map fun b=>((some ⟨b,0,none⟩,n,n):Option Addr × Nat × Nat)).map sv=qL n bs:=by simp [qL,sv]
  rw [e];exact bh
 ·have e:nth nn (bs.map fun b=>((some ⟨b,0,none⟩,n,n):Option Addr × Nat × Nat)) i=(some ⟨nth 0 bs i,0,none⟩,n,n):=by
   have hb:i<bs.length:=by rw [h.len];exact hi
   rw [bS nn _ i (by simpa using hb),bS 0 bs i hb];simp
  rw [e];exact (h.slc hi).weaken hs
def sD (p q:Pt):Pt:=⟨(p.x+q.x) / 2,(p.y+q.y) / 2⟩
theorem aSC {p q:Pt} (h:p.lt q):p.lt (sD p q)∧(sD p q).lt q:=by
 unfold Pt.lt sD at *;simp only
 rcases h with h|⟨h1,h2⟩
 ·exact⟨.inl (by grind),.inl (by grind)⟩
 ·exact⟨.inr ⟨by grind,by grind⟩,.inr ⟨by grind,by grind⟩⟩
theorem aFy {s:Sg} {p q:Pt} (hp:cj s p) (hq:cj s q):cj s (sD p q):=by
 obtain⟨a1,b1,b2,b3,b4⟩:=hp;obtain⟨a2,c1,c2,c3,c4⟩:=hq;refine⟨?_,?_,?_,?_,?_⟩
 ·have e:bT s.a s.b (sD p q)=(bT s.a s.b p+bT s.a s.b q) / 2:=by unfold bT sD;grind
  rw [e,a1,a2];grind
 ·show min s.a.x s.b.x≤(p.x+q.x) / 2
  generalize min s.a.x s.b.x=u at *
  grind
 ·show (p.x+q.x) / 2≤max s.a.x s.b.x
  generalize max s.a.x s.b.x=u at *
  grind
 ·show min s.a.y s.b.y≤(p.y+q.y) / 2
  generalize min s.a.y s.b.y=u at *
  grind
 ·show (p.y+q.y) / 2≤max s.a.y s.b.y
  generalize max s.a.y s.b.y=u at *
  grind
theorem aL4 {A ss B:List Sg} {P ps Q:List Pt} {p:Pt} (h:mB ss ps p):mB (A++ss++B) (P++ps++Q) p:=by
 have hg:∀ i s,ss[i]? = some s→(A++ss++B)[A.length+i]? = some s:=fun i s hs=>by
  have hi:i<ss.length:=(List.getElem?_eq_some_iff.1 hs).1;rw [List.getElem?_append_left (by rw [List.length_append];omega),List.getElem?_append_right (by omega),Nat.add_sub_cancel_left];exact hs
 rcases h with h|⟨s,hs,h⟩|⟨i,j,s,t,fe,hs,ht,hc⟩
 ·exact .inl (by simp [h])
 ·exact .inr (.inl ⟨s,by simp [hs],h⟩)
 ·exact .inr (.inr ⟨A.length+i,A.length+j,s,t,by omega,hg i s hs,hg j t ht,hc⟩)
theorem a3Z {V:List Pt} (hV:V.Pairwise Pt.lt) {s:Sg} {u v:Nat} (h:kX V s u v):sD (nth au V u) (nth au V v) ∉ V:=by
 obtain⟨kZ,p,q,hp,hq,op,oq,hf⟩:=h;have hu:=(List.getElem?_eq_some_iff.1 hp);have hv:=(List.getElem?_eq_some_iff.1 hq);obtain⟨nY,tY⟩:=hu;obtain⟨kU,gW⟩:=hv;have ep:nth au V u=p:=by rw [bS _ _ _ nY];exact tY
 have eq:nth au V v=q:=by rw [bS _ _ _ kU];exact gW
 rw [ep,eq];intro hm;obtain⟨w,hw,ew⟩:=List.getElem_of_mem hm;have hl:=aSC (qA hV hp hq kZ);have e1:nth au V w=sD p q:=by rw [bS _ _ _ hw];exact ew
 have h1:u<w:=a0t hV nY hw (by rw [ep,e1];exact hl.1);have h2:w<v:=a0t hV hw kU (by rw [eq,e1];exact hl.2);exact hf w (sD p q) h1 h2 (by rw [List.getElem?_eq_getElem hw,ew]) (aFy op oq)
theorem eu.a3Z {A os B:List Sz} {P gs Q:List Gp} {V V':List Pt} {es iy:List Ed} (h:eu (A++os++B) (P++gs++Q) V es) (h':eu os gs V' iy) {e:Ed} (he:e ∈ es):sD (nth au V e.a) (nth au V e.b) ∉ V':=by
 obtain⟨s,hs,hn,_⟩:=h.dir e he;intro hm;refine Hp.a3Z h.arr.sv hn ((h.arr.mv _).2 ?_);have:=(h'.arr.mv _).1 hm;simp only [List.map_append];exact aL4 this
def zqZ (x y s:Int):List Sz:=[⟨⟨x,y⟩,⟨x+s,y⟩⟩,⟨⟨x+s,y⟩,⟨x+s,y+s⟩⟩,⟨⟨x+s,y+s⟩,⟨x,y+s⟩⟩,⟨⟨x,y+s⟩,⟨x,y⟩⟩]
def zqS:List Sz:=zqZ 0 0 4
def zqV:List Pt:=[⟨0,0⟩,⟨0,4⟩,⟨4,0⟩,⟨4,4⟩]
def ze:List Ed:=[⟨0,1,[3],⟨0,1⟩⟩,⟨0,2,[0],⟨1,0⟩⟩,⟨1,3,[2],⟨1,0⟩⟩,⟨2,3,[1],⟨0,1⟩⟩]
def zqR:List (List Nat):=[[2,0],[4,1],[6,3],[5,7]]
theorem aQS:eu zqS [] zqV ze:=aBI (by decide +kernel)
def a4B (es:List Ed) (v:Nat) (l:List Nat):Bool:=l.isPerm (outs es v) && yx (fun g h=>!decide (jW (eh es h) (eh es g)<0)) l
theorem aBz {es:List Ed} {v:Nat} {l:List Nat} (h:a4B es v l=true):nU es v l:=by
 unfold a4B at h;rw [Bool.and_eq_true] at h;exact⟨List.isPerm_iff.1 h.1,a2q _ (fun x y h=>by simpa using h) _ h.2⟩
theorem aSA:o4 zqV ze zqR:=⟨rfl,fun v hv=>by
 have h:(List.range zqV.length).all (fun v=>a4B ze v (nth [] zqR v))=true:=by decide +kernel
 rw [List.all_eq_true] at h;exact aBz (h v (List.mem_range.2 hv))⟩
theorem aNb (a b c d e f g h:Value):Instr.fill (fun i=>some (i*2,2)) ((Array.range (4*2)).map ((Value.agg #[.int .i64 0,.int .i64 0]).cells[· % (Value.agg #[.int .i64 0,.int .i64 0]).cells.size]!)) [(0,.agg #[a,b]),(1,.agg #[c,d]),(2,.agg #[e,f]),(3,.agg #[g,h])]=some #[a,b,c,d,e,f,g,h]:=by
 have hh:((Array.range (4*2)).map ((Value.agg #[.int .i64 0,.int .i64 0]).cells[· % (Value.agg #[.int .i64 0,.int .i64 0]).cells.size]!))=#[.int .i64 0,.int .i64 0,.int .i64 0,.int .i64 0,.int .i64 0,.int .i64 0,.int .i64 0,.int .i64 0]:=by
  apply Array.ext';simp [Array.range,List.ofFn_succ,Value.cells]
 rw [hh];simp [Instr.fill,Value.cells]
theorem aNl (a b c d a2 b2 c2 d2 a3 b3 c3 d3 a4 b4 c4 d4:Value):Instr.fill (fun i=>some (i*4,4)) ((Array.range (4*4)).map ((Value.agg #[.int .i64 0,.int .i64 0,.int .i64 0,.int .i64 0]).cells[· % (Value.agg #[.int .i64 0,.int .i64 0,.int .i64 0,.int .i64 0]).cells.size]!)) [(0,.agg #[a,b,c,d]),(1,.agg #[a2,b2,c2,d2]),(2,.agg #[a3,b3,c3,d3]),(3,.agg #[a4,b4,c4,d4])]=some #[a,b,c,d,a2,b2,c2,d2,a3,b3,c3,d3,a4,b4,c4,d4]:=by
 have hh:((Array.range (4*4)).map ((Value.agg #[.int .i64 0,.int .i64 0,.int .i64 0,.int .i64 0]).cells[· % (Value.agg #[.int .i64 0,.int .i64 0,.int .i64 0,.int .i64 0]).cells.size]!))=#[.int .i64 0,.int .i64 0,.int .i64 0,.int .i64 0,.int .i64 0,.int .i64 0,.int .i64 0,.int .i64 0,.int .i64 0,.int .i64 0,.int .i64 0,.int .i64 0,.int .i64 0,.int .i64 0,.int .i64 0,.int .i64 0]:=by
  apply Array.ext';simp [Array.range,List.ofFn_succ,Value.cells]
 rw [hh];simp [Instr.fill,Value.cells]
theorem eu.aWx {os:List Sz} {gs:List Gp} {V:List Pt} {es:List Ed} (h:eu os gs V es) (cJ:∀ t ∈ os,t.ok):∀ e ∈ es,(nth au V e.a).x<(nth au V e.b).x→e.dir.x≠0:=by
 intro e he aW h0;obtain⟨_,_,_,s,hs,⟨kZ,P,Q,hP,hQ,oP,oQ,_⟩,hd⟩:=h.mw (fun t ht=>(cJ t ht).2.2) he;rw [zk hP,zk hQ] at aW;rw [hd] at h0;obtain⟨X,hX⟩:∃ X,X=s.b.x - s.a.x:=⟨_,rfl⟩;obtain⟨Y,hY⟩:∃ Y,Y=s.b.y - s.a.y:=⟨_,rfl⟩;have e1:=aBX (x:=X) (g:=Int.gcd X Y) (Int.gcd_dvd_left ..);unfold fN at h0;rw [← hX,← hY] at h0;have h1:X.tdiv (Int.gcd X Y:Nat)=0:=by split at h0 <;> simp only at h0 <;> omega
 have h2:X=0:=by rw [← e1,h1];simp
 have h3:s.sg.a.x=s.sg.b.x:=by
  unfold Sz.sg Gp.pt;simp only;have:s.a.x=s.b.x:=by omega
  rw [this]
 unfold cj sj at oP oQ
 grind
structure a2m (ls:List Lay):Prop where
 len:ls.length≤16
 one:∀ i,i<ls.length→Fits (nth fF ls i).1 (nth fF ls i).2
 all:Fits (dX ls) (dm ls)
theorem a7j {L:List Int} (h:∀ x ∈ L,bQ x) (i:Nat):bQ (nth 0 L i):=by
 unfold nth;rw [List.getD_eq_getElem?_getD];cases e:L[i]? with
 | none=>unfold bQ;simp
 | some x=>exact h x (bW e)
theorem aHg {V:List Pt} {es:List Ed} {L:List Int} {q:Pt} (h:ke V q=none) (hL:∀ x ∈ L,bQ x) (he:es.length≤1000000):bQ (ot V es L q).1∧bQ (ot V es L q).2.1∧bQ (ot V es L q).2.2:=by
 unfold ot;cases hf:jC V es q es.length with
 | some e =>
  have h1:=(a7d _ _ hf).1;rw [a7G h hf];refine⟨?_,a7j hL _,a7j hL _⟩;simp only [if_true];unfold bQ;omega
 | none =>
  have hz:bQ (-1):=by unfold bQ;omega
  have h0:bQ 0:=by unfold bQ;omega
  cases hb:iO V es q es.length with
  | none =>
   rw [aEY h hf hb];exact⟨hz,h0,h0⟩
  | some b =>
   rw [aD1 h hf hb];exact⟨hz,a7j hL _,a7j hL _⟩
theorem aHC {k:Nat} {x:Rat} (h:Bq k x):Bq (k+2) (x / 2):=by
 have h2:Bq 2 (2:Rat):=⟨by decide,by decide⟩;exact h.div h2 (by decide)
theorem aVc {k:Nat} {a b:Pt} (ha:Bq k a.x∧Bq k a.y) (hb:Bq k b.x∧Bq k b.y):Bq (k+k+1+2) (oz a b).x∧Bq (k+k+1+2) (oz a b).y :=
 ⟨aHC (ha.1.add hb.1),aHC (ha.2.add hb.2)⟩
theorem aHi {α:Type} (z:α) {l:List α} {i:Nat} (hi:i<l.length):l=l.take i++[nth z l i]++l.drop (i+1):=by
 rw [bS z l i hi,List.append_assoc,List.singleton_append,← List.drop_eq_getElem_cons hi,List.take_append_drop]
theorem aRq {ls:List Lay} {V V':List Pt} {es iy:List Ed} {i e:Nat} (h:eu (dX ls) (dm ls) V es) (hi:i<ls.length) (h':eu (nth fF ls i).1 (nth fF ls i).2 V' iy) (he:e<es.length):ke V' (oz (nth au V (nth ah es e).a) (nth au V (nth ah es e).b))=none:=by
 have e1:dX ls=dX (ls.take i)++(nth fF ls i).1++dX (ls.drop (i+1)):=by
  conv=>lhs;rw [aHi fF hi]
  simp [dX]
 have e2:dm ls=dm (ls.take i)++(nth fF ls i).2++dm (ls.drop (i+1)):=by
  conv=>lhs;rw [aHi fF hi]
  simp [dm]
 rw [e1,e2] at h;have hm:=h.a3Z h' (cQ ah es e he);refine aDD fun v hv e2=>hm ?_
 have:sD (nth au V (nth ah es e).a) (nth au V (nth ah es e).b)=nth au V' v:=e2.symm;rw [this];exact cQ au V' v hv
structure a7c (V:List Pt) (es:List Ed) (f:iL):Prop where
 dir:∀ e ∈ es,e.dir.dir
 dx:∀ e ∈ es,(nth au V e.a).x<(nth au V e.b).x→e.dir.x≠0
 lt:V.Pairwise Pt.lt
 ll:f.L.length=2*es.length
 vl:V.length≤65536
 el:es.length≤30000
theorem a7c.of {os:List Sz} {gs:List Gp} {y:Sh} (h:mN os gs y) (hf:Fits os gs) (bV:∀ e ∈ y.es,e.a<y.V.length∧e.b<y.V.length):a7c y.V y.es (Sh.f y):=by
 obtain⟨hd,bJ⟩:=eu.aEf h.arr hf.ok;have hg:=a99 h.arr bJ bV h.rl;refine⟨hd,h.arr.aWx hf.ok,h.arr.arr.sv,hg.a2I,?_,hf.E _ _ h.arr⟩;have:=hf.V _ h.arr.arr.sv (fun x hx=>(h.arr.arr.mv x).1 hx);omega
theorem iX.aVa {w:World} {S:Nat→Prop} {L:rQ} {rs:List ER} {es:List Ed} {prs:List PR} {V:List Pt} {j k:Nat} {f:iL} (h:iX w S L rs es prs V j f) (gM:j≤k):iX w S L rs es prs V k f :=
 ⟨h.cell,⟨h.arr.live,h.arr.hE,h.arr.jf,h.arr.hV,h.arr.ab,fun p hp=>⟨(h.arr.bq p hp).1.mono gM,(h.arr.bq p hp).2.mono gM⟩,h.arr.n3,h.arr.n4⟩,h.fc⟩
def pQ (ys:List Sh) (q:Pt):List (Int × Int × Int):=ys.map fun y=>ot y.V y.es (Sh.f y).L q
def sn:Int × Int × Int:=(0,0,0)
theorem a6C (ys:List Sh) (q:Pt):(pQ ys q).length=ys.length:=by simp [pQ]
theorem a9X {ys:List Sh} {q:Pt} {i:Nat} (hi:i<ys.length):nth sn (pQ ys q) i=ot (nth mO ys i).V (nth mO ys i).es (Sh.f (nth mO ys i)).L q:=by
 rw [bS sn _ i (by rw [a6C];exact hi),bS mO ys i hi];simp [pQ]
def qy (ss:List (Int × Int × Int)) (l r:Nat) (fs:List (List Int)):Nat→List (List Int)
 | 0=>fs
 | k+1=>tC (tC (qy ss l r fs k) l k (nth sn ss k).2.1) r k (nth sn ss k).2.2
theorem a0u (ss:List (Int × Int × Int)) (l r:Nat) (fs:List (List Int)):∀ k,(qy ss l r fs k).length=fs.length
 | 0=>rfl
 | k+1=>by rw [qy,a2Q,a2Q,a0u ss l r fs k]
def oK (y:Sh) (e:Nat):Pt:=oz (nth au y.V (nth ah y.es e).a) (nth au y.V (nth ah y.es e).b)
def nV (y:Sh) (ys:List Sh) (fs:List (List Int)):Nat→List (List Int)
 | 0=>fs
 | e+1=>qy (pQ ys (oK y e)) (nth 0 (Sh.f y).L (2*e)).toNat (nth 0 (Sh.f y).L (2*e+1)).toNat (nV y ys fs e) ys.length
theorem a0m (y:Sh) (ys:List Sh) (fs:List (List Int)):∀ e,(nV y ys fs e).length=fs.length
 | 0=>rfl
 | e+1=>by rw [nV,a0u,a0m y ys fs e]
def re (y:Sh) (ys:List Sh) (e:Nat):List Int:=(pQ ys (oK y e)).map (·.1)
def km (y:Sh) (ys:List Sh) (e:Nat):List (List Int):=(List.range e).map (re y ys)
theorem aQb (y:Sh) (ys:List Sh) (e:Nat):km y ys (e+1)=km y ys e++[re y ys e]:=by simp [km,List.range_succ]
theorem a5l (y:Sh) (ys:List Sh) (e:Nat):(km y ys e).length=e:=by simp [km]
structure rU (es fs:List Ed):Prop where
 len:es.length=fs.length
 a:∀ i,(nth ah es i).a=(nth ah fs i).a
 b:∀ i,(nth ah es i).b=(nth ah fs i).b
 dir:∀ i,(nth ah es i).dir=(nth ah fs i).dir
section
variable {es fs:List Ed} (h:rU es fs)
 include h
end
theorem aE2 {α β:Type} {f:α→List β} {k:Nat} {l:List α} (hk:∀ x ∈ l,(f x).length≤k):(l.flatMap f).length≤l.length*k:=by
 induction l with
 | nil=>simp
 | cons a l ih =>
  have h1:=hk a List.mem_cons_self;have h2:=ih fun x hx=>hk x (List.mem_cons_of_mem _ hx)
  rw [List.flatMap_cons,List.length_append,List.length_cons,Nat.add_mul];omega
def z8 (os:List Sz) (gs:List Gp) (s:Sg):List Pt:=gs.map Gp.pt++(os.flatMap (fun s=>[s.sg.a,s.sg.b])++os.map fun t=>lz s t.sg)
theorem aOV (os:List Sz) (gs:List Gp) (s:Sg):(z8 os gs s).length=gs.length+3*os.length:=by
 unfold z8;rw [List.length_append,List.length_append,List.length_map,aBR (k:=2) (fun s=>rfl),List.length_map];omega
theorem aR0 {os:List Sz} {gs:List Gp} {r:Sg} {p:Pt} (h:mB (os.map Sz.sg) (gs.map Gp.pt) p) (hr:r.a≠r.b) (hp:cj r p):p ∈ z8 os gs r:=by
 have gq:∀ s ∈ os.map Sz.sg,p=s.a∨p=s.b→p ∈ z8 os gs r:=fun s hs h=>by
  obtain⟨s',kL,rfl⟩:=List.mem_map.1 hs;unfold z8;rw [List.mem_append,List.mem_append];exact .inr (.inl (List.mem_flatMap.2 ⟨s',kL,by simpa using h⟩))
 have ql:∀ t ∈ os.map Sz.sg,cj t p→fJ r t≠0→p ∈ z8 os gs r:=fun t ht pr hd=>by
  have jT:=(a6g r t p).2 ⟨hp,pr,.inl hd⟩;unfold a5B at jT;rw [if_pos (by simpa using hd)] at jT;obtain⟨t',sS,rfl⟩:=List.mem_map.1 ht;unfold z8;rw [List.mem_append,List.mem_append]
  split at jT
  ·exact .inr (.inr (List.mem_map.2 ⟨t',sS,by simpa using (List.mem_singleton.1 jT).symm⟩))
  ·cases jT
 rcases h with h|⟨s,hs,h⟩|⟨i,j,s,t,fe,hi,hj,hc⟩
 ·unfold z8
  rw [List.mem_append];exact .inl h
 ·exact gq s hs h
 ·have ms:=bW hi
  have mt:=bW hj;obtain⟨o1,o2,h⟩:=hc
  rcases h with h|h|h|h|h
  ·by_cases h1:fJ r s=0
   ·by_cases h2:fJ r t=0
    ·exact absurd (aLZ hr h1 h2) h
    ·exact ql t mt o2 h2
   ·exact ql s ms o1 h1
  ·exact gq s ms (.inl h)
  ·exact gq s ms (.inr h)
  ·exact gq t mt (.inl h)
  ·exact gq t mt (.inr h)
section
open Classical in
theorem aVN {os:List Sz} {gs:List Gp} {V:List Pt} (hV:V.Pairwise Pt.lt) (hv:∀ p ∈ V,mB (os.map Sz.sg) (gs.map Gp.pt) p) {s:Sg} (hs:s.a≠s.b):((List.range V.length).filter fun u=>decide (cj s (nth au V u))).length≤gs.length+3*os.length:=by
 rw [← aOV os gs s,← List.length_map (f:=nth au V)];refine List.Nodup.length_le_of_subset ?_ fun p hp=>?_
 ·unfold List.Nodup
  rw [List.pairwise_map];refine List.Pairwise.imp_of_mem ?_ (List.pairwise_lt_range.filter _);intro a b ha hb bV e;have h1:=List.mem_range.1 (List.mem_filter.1 ha).1;have h2:=List.mem_range.1 (List.mem_filter.1 hb).1;have h3:=List.pairwise_iff_getElem.1 hV a b h1 h2 bV;rw [bS au V a h1,bS au V b h2] at e;rw [e] at h3;exact Pt.lt_irrefl _ h3
 ·obtain⟨u,hu,rfl⟩:=List.mem_map.1 hp
  obtain⟨h1,h2⟩:=List.mem_filter.1 hu;exact aR0 (hv _ (cQ au V u (List.mem_range.1 h1))) hs (by simpa using h2)
open Classical in
theorem aHA {os:List Sz} {gs:List Gp} {V:List Pt} (hV:V.Pairwise Pt.lt) (hv:∀ p ∈ V,mB (os.map Sz.sg) (gs.map Gp.pt) p) (ho:∀ t ∈ os,t.sg.a≠t.sg.b) {E:List (Nat × Nat)} (hE:E.Pairwise mY) (hm:∀ u v,(u,v) ∈ E→∃ s ∈ os,kX V s.sg u v):E.length≤os.length*(gs.length+3*os.length):=by
 refine Nat.le_trans (List.Nodup.length_le_of_subset (l₂:=os.flatMap fun s=>((List.range V.length).filter fun u=>decide (cj s.sg (nth au V u))).map fun u=>(u,((List.range V.length).find? fun v=>a1g V s.sg u v).getD 0)) (hE.imp (fun aW e=>by subst e;exact a5w _ aW)) fun p hp=>?_) (aE2 fun s hs=>by rw [List.length_map];exact aVN hV hv (ho s hs));obtain⟨u,v⟩:=p;obtain⟨s,hs,hn⟩:=hm u v hp;obtain⟨h1,P,Q,hP,hQ,oP,_⟩:=id hn;have h2:v<V.length:=(List.getElem?_eq_some_iff.1 hQ).1;have h3:cj s.sg (nth au V u):=by rw [zk hP];exact oP
 rw [List.mem_flatMap];refine⟨s,hs,List.mem_map.2 ⟨u,List.mem_filter.2 ⟨List.mem_range.2 (by omega),by simpa using h3⟩,?_⟩⟩;rw [Prod.mk.injEq];refine⟨rfl,?_⟩;cases hf:(List.range V.length).find? fun v=>a1g V s.sg u v with
 | none =>
  have:=List.find?_eq_none.1 hf v (List.mem_range.2 h2);rw [(a1B _ _ _ _).2 hn] at this;exact absurd rfl this
 | some v' =>
  have h1:=List.find?_some hf;exact (aM7 hn ((a1B _ _ _ _).1 h1)).symm
theorem aGQ {os:List Sz} {gs:List Gp} {V:List Pt} (hV:V.Pairwise Pt.lt) (hv:∀ p ∈ V,mB (os.map Sz.sg) (gs.map Gp.pt) p):V.length≤gs.length+(os.length*2+os.length*os.length):=by
 rw [← aOS];refine List.Nodup.length_le_of_subset (hV.imp (fun aW e=>by subst e;exact Pt.lt_irrefl _ aW)) (fun p hp=>?_);unfold aDO;rw [List.mem_append,List.mem_append,List.mem_flatMap,List.mem_flatMap]
 rcases aGE (hv p hp) with ⟨g,hg,rfl⟩|⟨s,hs,h⟩|⟨s,hs,t,ht,_,h⟩
 ·exact .inl (List.mem_map.2 ⟨g,hg,rfl⟩)
 ·refine .inr (.inl ⟨s,hs,?_⟩)
  rcases h with rfl|rfl
  ·exact List.mem_cons_self
  ·exact List.mem_cons_of_mem _ List.mem_cons_self
 ·exact .inr (.inr ⟨s,hs,List.mem_map.2 ⟨t,ht,h.symm⟩⟩)
theorem aKF {t:Sz} (h:t.a≠t.b):t.sg.a≠t.sg.b:=fun e=>h (by
 have:t.a.pt=t.b.pt:=e;have hx:=congrArg Pt.x this;have hy:=congrArg Pt.y this;simp only [Gp.pt] at hx hy;have uz:t.a.x=t.b.x:=by exact_mod_cast hx
 have tT:t.a.y=t.b.y:=by exact_mod_cast hy
 cases ha:t.a;cases hb:t.b
 simp_all)
theorem Fits.few {os:List Sz} {gs:List Gp} (h1:∀ t ∈ os,t.ok) (h2:∀ g ∈ gs,g.ok) (h3:os.length≤60) (h4:gs.length≤3):Fits os gs:=by
 have k1:os.length*os.length≤60*60:=Nat.mul_le_mul h3 h3;refine⟨h1,h2,by omega,by omega,?_,fun V hV hv=>?_,fun V es h=>?_⟩
 ·have:os.length*(2+2*os.length+gs.length)≤60*125:=Nat.mul_le_mul h3 (by omega)
  omega
 ·have:=aGQ hV hv
  omega
 ·have:=aHA h.arr.sv (fun p hp=>(h.arr.mv p).1 hp) (fun t ht=>aKF (h1 t ht).2.2) h.arr.se (fun u v kZ=>by
   obtain⟨s,hs,hn⟩:=(h.arr.me u v).1 kZ;obtain⟨s',kL,rfl⟩:=List.mem_map.1 hs;exact⟨s',kL,hn⟩)
  rw [List.length_map] at this;have k2:os.length*(gs.length+3*os.length)≤60*183:=Nat.mul_le_mul h3 (by omega);omega
end
end Go.Hp
