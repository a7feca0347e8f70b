/- Texts for the walk of the law: LF LA LN. -/
import Derived.Test.YtihpoboahbpaiaaGreatQ44
set_option maxRecDepth 100000
set_option maxHeartbeats 16000000
set_option linter.unusedVariables false
set_option linter.unusedSimpArgs false
namespace Go.Hp
open Go Go.RowKit
def BestOk (w:World) (S:Nat→Prop) (V:List Pt) (es:List Ed) (q:Pt) (i:Nat) (best:Int) (t:FR):Prop :=
 match bstQ V es q i with
 | none=>best = -1
 | some b=>best=(b:Int)∧IsF w S t (hgtQ V es b q.x)
theorem BestOk.mv {w w':World} {S S':Nat→Prop} {V:List Pt} {es:List Ed} {q:Pt} {i:Nat} {best:Int} {t:FR} (h:BestOk w S V es q i best t) (hm:∀ a,IsF w S t a→IsF w' S' t a):BestOk w' S' V es q i best t:=by
 unfold BestOk at *
 split at h <;> rename_i hb <;> simp only [hb] at *
 ·exact h
 ·exact⟨h.1,hm _ h.2⟩
theorem BestOk.at {w0 w wr:World} {H:List Chunk} {F S:Nat→Prop} {V:List Pt} {es:List Ed} {q:Pt} {i:Nat} {best:Int} {t:FR} (h:BestOk wr S V es q i best t) (hS:Heap w0 w (.frz F wr::H)) (hF:∀ k,S k→F k):BestOk w S V es q i best t:=h.mv fun a ha=>ha.at hS hF
theorem BestOk.grow {w w':World} {S S':Nat→Prop} {V:List Pt} {es:List Ed} {q:Pt} {i:Nat} {best:Int} {t:FR} (h:BestOk w S V es q i best t) (hp:Pure w S w' S'):BestOk w' S' V es q i best t:=h.mv fun a ha=>ha.grow hp
theorem BestOk.nx {w:World} {S:Nat→Prop} {V:List Pt} {es:List Ed} {q:Pt} {i:Nat} {best:Int} {t:FR} (h:BestOk w S V es q i best t) (e:bstQ V es q (i+1)=bstQ V es q i):BestOk w S V es q (i+1) best t:=by
 unfold BestOk at *;rw [e];exact h
theorem BestOk.new {w:World} {S:Nat→Prop} {V:List Pt} {es:List Ed} {q:Pt} {i:Nat} {t:FR} (h:IsF w S t (hgtQ V es i q.x)) (e:bstQ V es q (i+1)=some i):BestOk w S V es q (i+1) (i:Int) t:=by
 unfold BestOk;rw [e];exact⟨rfl,h⟩
end Go.Hp
namespace Go.Proofs
open Go.RowKit Go.Hp
theorem find_any (L:LocR) (rs:List ER) (es:List Ed) (prs:List PR) (V:List Pt) (k:Nat) (f:FRec) (p:PR) (q:Pt) (w:World) (S:Nat→Prop) (h:LocIn w S L rs es prs V k f) (hp:IsP w S p q) (hq:Bq k q.x∧Bq k q.y) (hk:8*k+8≤16384) (hd:∀ e ∈ es,e.dir.dir) (hx:∀ e ∈ es,(nth pt0 V e.a).x<(nth pt0 V e.b).x→e.dir.x≠0) (hV:V.Pairwise Pt.lt) (hfl:f.L.length=2*es.length) (hVl:V.length≤65536) (hEl:es.length≤30000) :
 Calls Tryz.prog 16 #[.pointer (some ⟨L.bl,0,none⟩),.agg #[.bool p.x.num.neg,.slice p.x.num.ad p.x.num.n p.x.num.cap,.bool p.x.less.neg,.slice p.x.less.ad p.x.less.n p.x.less.cap,.bool p.y.num.neg,.slice p.y.num.ad p.y.num.n p.y.num.cap,.bool p.y.less.neg,.slice p.y.less.ad p.y.less.n p.y.less.cap]] w fun en w'=>en=.returned (.tuple #[.agg #[.int .i64 (findQ V es f.L q).1,.int .i64 (findQ V es f.L q).2],.int .i64 0])∧Pure w S w' S:=by
 have hn4:=Hd h.arr.n4;have hL:=h.arr.live;have hc:=h.cell.old hL;have hcA:CellsAt w (Old w) ⟨L.bl,0,none⟩ [.slice L.g1.1 L.g1.2.1 L.g1.2.2,.slice L.g2.1 L.g2.2.1 L.g2.2.2,.slice L.g3.1 L.g3.2.1 L.g3.2.2,.slice L.g4.1 L.g4.2.1 L.g4.2.2]:=hc.part 0 4;replace hV:=Hd hV;replace hd:=Hd hd;replace hx:=Hd hx;obtain⟨hS,hF0,hO0,hp0⟩:=st0 hL
 go_enter Tryz.func16,Tryz.ntmps16
 go_wp2_with (with_reducible first|refine bxA (show Heap _ _ [_] from hS) fun bL wbL hS=>?_|refine bxA hS fun b2 wb2 hS=>?_|refine alA hS Tryz.zeroValue47 fun b4 wb4 hS=>?_)
 go_step3
 go_wp2;refine rg0 [.r 0,.p 1,.p 2,.r 3,.r 4,.e 5,.p 6,.p 7,.p 8,.p 9,.p 10] [] hS fun w1 hS=>?_
 have hC:=hS
 repeat (with_reducible first|refine skL ?_|refine sldB 1 Tryz.isAgg38 ?_|refine sldG Tryz.isAgg34 Tryz.sizeOf34 ?_|refine sldA 2 Tryz.isAgg56 Tryz.sizeOf56 ?_|refine spL ?_)
 refine exL ?_
 go_wp2_with (fail)
 refine (vertex_any L.g1.1 L.g2.1 L.g3.1 L.g4.1 L.g1.2.1 L.g1.2.2 L.g2.2.1 L.g2.2.2 L.g3.2.1 L.g3.2.2 L.g4.2.1 L.g4.2.2 prs V p q _ S (h.arr.hV.at hS hF0) (hp.at hS hF0) (Liv.at hS hF0) hV.out (by omega)).mono ?_;rintro e' w' ⟨⟨v,hv,rfl⟩,hq1⟩
 by_cases hvt:v<V.length∧nth pt0 V v=q
 ·rw [if_pos hvt]
  have hR:=findQ_v (es:=es) (Lf:=f.L) (vtxQ_some hV.out hvt.1 hvt.2);replace hR:=Hd hR;clear hvt hv hcA hc;simp only [];go_step;have hC:=hC.below hq1.below hq1.drawn;replace hS:=hS.pcl hF0 hO0 hp0 hq1;obtain⟨F1,hF1,-,hp1,hO1,hS⟩:=hS;refine ext_end hC ?_;refine mvs ?_;refine snL ?_;clear hC
  go_wp2_with (with_reducible refine stA 3 hS Tryz.sizeOf47 fun _ hS=>?_)
  try simp only [Exit.noGoto_ret]
  exact ret_ct 3 hS rfl rfl rfl Tryz.isAgg47 Tryz.sizeOf47 rfl rfl ⟨by (rw [hR.out] <;> rfl),hp1.step hS hO1 hF1⟩
 ·rw [if_neg hvt]
  have hvn:=Hd (Stands.none hv hvt hV.out);clear hvt hv hcA;simp only [];go_step;have h:=(h.at hS hF0).grow hq1;have hp:=(hp.at hS hF0).grow hq1;have hC:=hC.below hq1.below hq1.drawn;replace hS:=hS.pcl hF0 hO0 hp0 hq1;obtain⟨F1,hF1,-,hp1,hO1,hS⟩:=hS;refine ext_end hC ?_;refine mvs ?_;refine snL ?_;clear hC hc;have hc:=h.cell.weaken hF1
  go_wp2_with (with_reducible first|refine alA hS Tryz.zeroValue3 fun b8 wb8 hS=>?_|refine stA 4 hS Tryz.sizeOf3 fun _ hS=>?_|refine alA hS Tryz.zeroValue54 fun b9 wb9 hS=>?_)
  go_step3
  go_wp2_with (first|(with_reducible refine ldB 1 hS Tryz.isAgg38 ?_)|((with_reducible refine g_load (T:=32) ?_);refine seq_of hS rfl (stp_loadj (T:=32) 3 Tryz.isAgg32 rfl hc (by simp) rfl ?_);simp only [NRM]))
  simp only [hn4.out]
  try try simp only [NRG]
  go_loopw [36] (fun v36 wr=>∃ (i:Nat) (F' S':Nat→Prop) (wq:World) (best:Int) (t:FR),i≤es.length∧v36=.int .i64 (i:Int)∧Heap w wr [.frz F' wq,.blk bL (.cells #[.pointer (some ⟨L.bl,0,none⟩)] 38 (0,0)),.blk b2 (.cells #[.bool p.x.num.neg,.slice p.x.num.ad p.x.num.n p.x.num.cap,.bool p.x.less.neg,.slice p.x.less.ad p.x.less.n p.x.less.cap,.bool p.y.num.neg,.slice p.y.num.ad p.y.num.n p.y.num.cap,.bool p.y.less.neg,.slice p.y.less.ad p.y.less.n p.y.less.cap] 56 (0,0)),.blk b4 (.cells #[.int .i64 0,.int .i64 0] 47 (0,0)),.blk b8 (.cells #[.int .i64 best] 3 (0,0)),.blk b9 (.cells #[.bool t.num.neg,.slice t.num.ad t.num.n t.num.cap,.bool t.less.neg,.slice t.less.ad t.less.n t.less.cap] 54 (0,0))]∧(∀ k,S' k→F' k)∧(∀ k,Old w k→F' k)∧Hp.Pure w S wq S'∧LocIn wq S' L rs es prs V k f∧IsP wq S' p q∧fstOn V es q i=none∧BestOk wq S' V es q i best t) (fun v36 _=>es.length - (intOf v36).toNat)
  case atStart=>exact⟨0,_,_,_,-1,⟨⟨false,none,0,0⟩,⟨false,none,0,0⟩⟩,by omega,rfl,hS,hF1,hO1,hp1,h,hp,rfl,rfl⟩
  case round =>
   clear hS hF0 hO0 hp0 hF1 hO1 hp1 h hp;obtain⟨i,F0,S0,wq,best,t,hi,rfl,hS,hF0,hO0,hp0,h,hp,hfo,hbst⟩:=hrel;replace hfo:=Hd hfo
   by_cases hil:i<es.length
   ·obtain⟨he1,he2⟩:=h.arr.ab _ (nth_mem ed0 es i hil)
    have pa:IsP wq S0 (nth pr0 prs (nth ed0 es i).a) (nth pt0 V (nth ed0 es i).a):=h.arr.hV.ps.el _ he1;have pb:IsP wq S0 (nth pr0 prs (nth ed0 es i).b) (nth pt0 V (nth ed0 es i).b):=h.arr.hV.ps.el _ he2;have ka:=h.arr.bq _ (nth_mem pt0 V _ he1);have kb:=h.arr.bq _ (nth_mem pt0 V _ he2);have hdi:=hd.out _ (nth_mem ed0 es i hil);have hxi:=hx.out _ (nth_mem ed0 es i hil);have cE:=fun w' S' (h:LocIn w' S' L rs es prs V k f)=>ends_any L rs es prs V k f i w' S' h hil (by omega) (by omega)
    have cB:=fun w' S' pa pb pc hL'=>betweenP_any (nth pr0 prs (nth ed0 es i).a) (nth pr0 prs (nth ed0 es i).b) p (nth pt0 V (nth ed0 es i).a) (nth pt0 V (nth ed0 es i).b) q k w' S' pa pb pc hL' ka kb hq hk
    have hfh:=@fstOn_hit V es q i hfo.out;have hfx:=@fstOn_next V es q i hfo.out
    have hsx:spnQ V es i q.x=true→(nth ed0 es i).dir.x≠0:=fun hs=>hxi (by
     unfold spnQ at hs;simp only [Bool.and_eq_true,decide_eq_true_eq] at hs
     grind)
    have hb1:=bstQ_succ V es q i;obtain⟨A1,e1⟩:∃ q,nth pr0 prs (nth ed0 es i).a=q:=⟨_,rfl⟩;obtain⟨B1,e2⟩:∃ q,nth pr0 prs (nth ed0 es i).b=q:=⟨_,rfl⟩;obtain⟨X,e5⟩:∃ z,btwP (nth pt0 V (nth ed0 es i).a) (nth pt0 V (nth ed0 es i).b) q=z:=⟨_,rfl⟩;simp only [e1,e2] at cE cB pa pb;simp only [e5] at cB hfh hfx;clear e1 e2 e5 he1 he2 ka kb hxi;replace hfh:=Hd hfh;replace hfx:=Hd hfx;replace hb1:=Hd hb1;replace hsx:=Hd hsx
    go_wp2_with (with_reducible refine ldB 1 hS Tryz.isAgg38 ?_)
    refine (cE _ S0 (h.at hS hF0)).mono ?_;rintro e' w' ⟨rfl,hq1⟩;have h:=(h.at hS hF0).grow hq1;have hp:=(hp.at hS hF0).grow hq1;have pa:=(pa.at hS hF0).grow hq1;have pb:=(pb.at hS hF0).grow hq1;have hbst:=(hbst.at hS hF0).grow hq1;replace hS:=hS.pcl hF0 hO0 hp0 hq1;obtain⟨F1,hF1,-,hp1,hO1,hS⟩:=hS;simp only []
    go_wp2_with (with_reducible first|refine alA hS Tryz.zeroValue56 fun b12 wb12 hS=>?_|refine stA 6 hS Tryz.sizeOf56 fun _ hS=>?_|refine stA 7 hS Tryz.sizeOf56 fun _ hS=>?_|refine ldA 6 hS Tryz.isAgg56 Tryz.sizeOf56 ?_|refine ldA 7 hS Tryz.isAgg56 Tryz.sizeOf56 ?_|refine ldA 2 hS Tryz.isAgg56 Tryz.sizeOf56 ?_)
    refine (cB _ S0 (pa.at hS hF1) (pb.at hS hF1) (hp.at hS hF1) (Liv.at hS hF1)).mono ?_;rintro e' w' ⟨rfl,hq2⟩;have h:=(h.at hS hF1).grow hq2;have hp:=(hp.at hS hF1).grow hq2;have hbst:=(hbst.at hS hF1).grow hq2;replace hS:=hS.pcl hF1 hO1 hp1 hq2;obtain⟨F2,hF2,-,hp2,hO2,hS⟩:=hS;clear cE cB pa pb;cases X with
    | true =>
     have hfe:=hfh.out rfl (es.length - (i+1));rw [show i+1+(es.length - (i+1))=es.length by omega] at hfe;have hR:=findQ_e (Lf:=f.L) hvn.out hfe;replace hR:=Hd hR;clear hfe;simp only []
     go_wp2_with (with_reducible refine stA 3 hS Tryz.sizeOf47 fun _ hS=>?_)
     try simp only [Exit.noGoto_ret]
     exact ret_ct 3 hS rfl rfl rfl Tryz.isAgg47 Tryz.sizeOf47 rfl rfl ⟨by (rw [hR.out] <;> rfl),(hp2.step hS hO2 hF2).back⟩
    | false =>
     have hfn:=Hd (hfx.out rfl);simp only []
     go_wp2_with (with_reducible first|refine ldB 1 hS Tryz.isAgg38 ?_|refine ldK 2 hS Tryz.isAgg54 Tryz.sizeOf54 ?_)
     refine (spans_any L rs es prs V k f i p.x q.x _ S0 (h.at hS hF2) hil (hp.x.at hS hF2) (by omega) (by omega)).mono ?_;rintro e' w' ⟨rfl,hq3⟩;have h:=(h.at hS hF2).grow hq3;have hp:=(hp.at hS hF2).grow hq3;have hbst:=(hbst.at hS hF2).grow hq3;replace hS:=hS.pcl hF2 hO2 hp2 hq3;obtain⟨F3,hF3,-,hp3,hO3,hS⟩:=hS;cases hsp:spnQ V es i q.x with
     | false =>
      have hnb:bstQ V es q (i+1)=bstQ V es q i:=by rw [hb1.out,hsp];rfl
      replace hnb:=Hd hnb;clear hsp;simp only [];go_wp2;go_roundw
      case rel=>exact⟨i+1,F3,S0,_,best,t,by omega,by simp,hS.sb,hF3,hO3,hp3,h,hp,hfn.out,hbst.nx hnb.out⟩
      case measure=>simp [intOf];omega
     | true =>
      have hx0:=hsx.out hsp;simp only []
      go_wp2_with (with_reducible first|refine ldB 1 hS Tryz.isAgg38 ?_|refine ldK 2 hS Tryz.isAgg54 Tryz.sizeOf54 ?_)
      refine (height_any L rs es prs V k f i p.x q.x k _ S0 (h.at hS hF3) hil (hp.x.at hS hF3) hq.1 hdi hx0 (by omega) (by omega) (by omega)).mono ?_;rintro e' w' ⟨y,S4,rfl,hq4,hy⟩;have h:=(h.at hS hF3).grow hq4;have hp:=(hp.at hS hF3).grow hq4;have hbst:=(hbst.at hS hF3).grow hq4;replace hS:=hS.pcl hF3 hO3 hp3 hq4;obtain⟨F4,hF4,-,hp4,hO4,hS⟩:=hS;simp only [fRes]
      go_wp2_with (with_reducible first|refine alA hS Tryz.zeroValue54 fun b16 wb16 hS=>?_|refine stA 8 hS Tryz.sizeOf54 fun _ hS=>?_|refine ldA 8 hS Tryz.isAgg54 Tryz.sizeOf54 ?_|refine ldK 2 hS Tryz.isAgg54 Tryz.sizeOf54 ?_)
      have hg:=@cmpQ_ltx (hgtQ V es i q.x) q.y;obtain⟨c,hc0⟩:∃ c,cmpQ (hgtQ V es i q.x) q.y=c:=⟨_,rfl⟩;refine (compareQ_any y p.y (hgtQ V es i q.x) q.y _ S4 (hy.at hS hF4) (hp.y.at hS hF4) (Liv.at hS hF4)).mono ?_;rintro e' w5 ⟨rfl,hq5⟩;rw [hc0] at hg ⊢;have h:=(h.at hS hF4).grow hq5;have hp:=(hp.at hS hF4).grow hq5;have hy:=(hy.at hS hF4).grow hq5;have hbst:=(hbst.at hS hF4).grow hq5;replace hS:=hS.pcl hF4 hO4 hp4 hq5;obtain⟨F5,hF5,-,hp5,hO5,hS⟩:=hS;clear hc0
      by_cases hc0:c<0
      ·have hcd:decide (c<0)=true:=by simpa using hc0
       have hlt:=hg.1 hc0;clear hg hc0;have hb2:=hb1.out;rw [hsp] at hb2;simp only [Bool.true_and,hlt,decide_true] at hb2;clear hsp hlt;cases hbq:bstQ V es q i with
       | none =>
        have hnew:bstQ V es q (i+1)=some i:=by rw [hb2,hbq];rfl
        replace hnew:=Hd hnew;unfold BestOk at hbst;rw [hbq] at hbst;simp only at hbst;subst hbst;clear hb2 hbq;simp only []
        go_wp2_with (with_reducible refine ldA 8 hS Tryz.isAgg54 Tryz.sizeOf54 ?_)
        refine (higher_first i y b8 b9 bL _ S4 (hS.cellsOld 4 rfl)).mono ?_;rintro e' w6 ⟨rfl,hq6⟩;have hS:=hS.below hq6.below hq6.drawn;simp only [];go_wp2;refine wp_region_sched2 [.p 0,.r 1,.e 2,.e 3] [] (fun w'=>Heap w w' [.frz F5 w5,.blk b16 (.cells #[.bool y.num.neg,.slice y.num.ad y.num.n y.num.cap,.bool y.less.neg,.slice y.less.ad y.less.n y.less.cap] 54 (0,0))]) (fun w'=>Heap w w' _) (by kernel_rfl) (by kernel_rfl) hS.drew (fun _ hZ=>Heap.sub hZ (by repeat (first|exact List.Sublist.refl _|apply List.Sublist.cons_cons|apply List.Sublist.cons|exact List.nil_sublist _))) (fun w1 hS=>?_)
        repeat (with_reducible first|refine skL ?_|refine sldA 1 Tryz.isAgg54 Tryz.sizeOf54 ?_|refine spL ?_)
        refine exL ?_
        (with_reducible refine stA 4 hS Tryz.sizeOf3 fun _ hS=>?_)
        refine ext_end hS.sb ?_;refine mvs ?_;refine exL ?_
        (with_reducible refine stA 5 hS Tryz.sizeOf54 fun _ hS=>?_)
        refine ext_end hS.sb ?_;refine mvs ?_;refine snL ?_;go_wp2;go_roundw
        case rel=>exact⟨i+1,F5,S4,_,(i:Int),y,by omega,by simp,hS.sb,hF5,hO5,hp5,h,hp,hfn.out,.new hy hnew.out⟩
        case measure=>simp [intOf];omega
       | some b =>
        have hbl:=bstQ_lt V es q i b hbq;unfold BestOk at hbst;rw [hbq] at hbst;simp only at hbst;obtain⟨rfl,ht⟩:=hbst;have hB:higQ V es q (some b) i=(if hgtQ V es i q.x=hgtQ V es b q.x then decide (0<turnZ (nth ed0 es i).dir.rot (nth ed0 es b).dir.rot) else decide (hgtQ V es b q.x<hgtQ V es i q.x)):=rfl;rw [hbq,hB] at hb2;have hbst:BestOk w5 S4 V es q i (b:Int) t:=by unfold BestOk;rw [hbq];exact⟨rfl,ht⟩
        clear hB;have cH:=fun w' h' p1 p2 c1 c2 c3=>higher_any L rs es prs V k f i b y t (hgtQ V es i q.x) (hgtQ V es b q.x) b8 b9 bL w' S4 h' hil (by omega) p1 p2 hd.out (by omega) c1 c2 c3
        obtain⟨B,hBe⟩:∃ B,(if hgtQ V es i q.x=hgtQ V es b q.x then decide (0<turnZ (nth ed0 es i).dir.rot (nth ed0 es b).dir.rot) else decide (hgtQ V es b q.x<hgtQ V es i q.x))=B:=⟨_,rfl⟩;rw [hBe] at hb2;simp only [hBe] at cH;clear hBe;simp only []
        go_wp2_with (with_reducible refine ldA 8 hS Tryz.isAgg54 Tryz.sizeOf54 ?_)
        refine (cH _ (h.at hS hF5) (hy.at hS hF5) (ht.at hS hF5) (hS.cellsOld 4 rfl) (hS.cellsOld 5 rfl) (hS.cellsOld 1 rfl)).mono ?_;rintro e' w6 ⟨rfl,hq6⟩;have hS:=hS.below hq6.below hq6.drawn;clear cH;cases B with
        | true =>
         have hnew:bstQ V es q (i+1)=some i:=by rw [hb2];rfl
         replace hnew:=Hd hnew;clear hb2 hbq hbst ht;simp only [];go_wp2;refine wp_region_sched2 [.p 0,.r 1,.e 2,.e 3] [] (fun w'=>Heap w w' [.frz F5 w5,.blk b16 (.cells #[.bool y.num.neg,.slice y.num.ad y.num.n y.num.cap,.bool y.less.neg,.slice y.less.ad y.less.n y.less.cap] 54 (0,0))]) (fun w'=>Heap w w' _) (by kernel_rfl) (by kernel_rfl) hS.drew (fun _ hZ=>Heap.sub hZ (by repeat (first|exact List.Sublist.refl _|apply List.Sublist.cons_cons|apply List.Sublist.cons|exact List.nil_sublist _))) (fun w1 hS=>?_)
         repeat (with_reducible first|refine skL ?_|refine sldA 1 Tryz.isAgg54 Tryz.sizeOf54 ?_|refine spL ?_)
         refine exL ?_
         (with_reducible refine stA 4 hS Tryz.sizeOf3 fun _ hS=>?_)
         refine ext_end hS.sb ?_;refine mvs ?_;refine exL ?_
         (with_reducible refine stA 5 hS Tryz.sizeOf54 fun _ hS=>?_)
         refine ext_end hS.sb ?_;refine mvs ?_;refine snL ?_;go_wp2;go_roundw
         case rel=>exact⟨i+1,F5,S4,_,(i:Int),y,by omega,by simp,hS.sb,hF5,hO5,hp5,h,hp,hfn.out,.new hy hnew.out⟩
         case measure=>simp [intOf];omega
        | false =>
         have hnb:bstQ V es q (i+1)=bstQ V es q i:=by rw [hb2,hbq];rfl
         replace hnb:=Hd hnb;obtain⟨best,hbe⟩:∃ z:Int,(b:Int)=z:=⟨_,rfl⟩;rw [hbe] at hbst hS;clear hb2 hbq ht;simp only [];go_wp2;go_roundw
         case rel=>exact⟨i+1,F5,S4,_,best,t,by omega,by simp,hS.sb,hF5,hO5,hp5,h,hp,hfn.out,hbst.nx hnb.out⟩
         case measure=>simp [intOf];omega
      ·have hcd:decide (c<0)=false:=by simpa using hc0
       have hge:¬ hgtQ V es i q.x<q.y:=fun hl=>hc0 (hg.2 hl)
       have hnb:bstQ V es q (i+1)=bstQ V es q i:=by rw [hb1.out,hsp];simp [hge]
       replace hnb:=Hd hnb;clear hsp hge hg hc0;simp only []
       go_wp2_with (first|((with_reducible refine g_load (T:=54) ?_);refine wpList_unwanted rfl ?_;simp only [NRM]))
       go_roundw
       case rel=>exact⟨i+1,F5,S4,_,best,t,by omega,by simp,hS.sb,hF5,hO5,hp5,h,hp,hfn.out,hbst.nx hnb.out⟩
       case measure=>simp [intOf];omega
   ·obtain rfl:i=es.length:=by omega
    cases hbq:bstQ V es q es.length with
    | none =>
     unfold BestOk at hbst;rw [hbq] at hbst;simp only at hbst;subst hbst;have hR:=findQ_0 (Lf:=f.L) hvn.out hfo.out hbq;replace hR:=Hd hR;clear hbq
     go_wp2_with (with_reducible first|refine ldB 4 hS Tryz.isAgg3 ?_|refine stA 3 hS Tryz.sizeOf47 fun _ hS=>?_)
     try simp only [Exit.noGoto_ret]
     exact ret_ct 3 hS rfl rfl rfl Tryz.isAgg47 Tryz.sizeOf47 rfl rfl ⟨by (rw [hR.out] <;> rfl),(hp0.step hS hO0 hF0).back⟩
    | some b =>
     have hbl:=bstQ_lt V es q _ b hbq;unfold BestOk at hbst;rw [hbq] at hbst;simp only at hbst;obtain⟨rfl,-⟩:=hbst;have hR:=findQ_f (Lf:=f.L) hvn.out hfo.out hbq;replace hR:=Hd hR;clear hbq;have hneg:decide ((b:Int)<0)=false:=by simp
     go_wp2_with (with_reducible first|refine ldB 4 hS Tryz.isAgg3 ?_|refine ldB 1 hS Tryz.isAgg38 ?_)
     refine (above_any L rs es prs V k f b _ S0 (h.at hS hF0) (by omega) (by omega)).mono ?_;rintro e' w' ⟨rfl,hq1⟩;have hS:=hS.below hq1.below hq1.drawn;simp only []
     go_wp2_with (with_reducible refine stA 3 hS Tryz.sizeOf47 fun _ hS=>?_)
     try simp only [Exit.noGoto_ret]
     exact ret_ct 3 hS rfl rfl rfl Tryz.isAgg47 Tryz.sizeOf47 rfl rfl ⟨by (rw [hR.out] <;> rfl),(hp0.step hS hO0 hF0).back⟩
end Go.Proofs
namespace Go.Hp
open Go Go.RowKit
def idxAl (I:List (List Nat)) (v:Nat):Int:=match (List.range I.length).find? (fun i=>decide (v ∈ nth [] I i)) with
 | some i=>(i:Int)
 | none=>-1
theorem idxAl_none {I:List (List Nat)} {v:Nat} (h:∀ j,j<I.length→v ∉ nth [] I j):idxAl I v = -1:=by
 unfold idxAl
 have:(List.range I.length).find? (fun i=>decide (v ∈ nth [] I i))=none:=by
  rw [List.find?_eq_none];intro j hj
  simpa using h j (List.mem_range.1 hj)
 rw [this]
theorem find_range {p:Nat→Bool} {n i:Nat} (hi:i<n) (h:p i=true) (hn:∀ j,j<i→p j=false):(List.range n).find? p=some i:=by
 cases hq:(List.range n).find? p with
 | none =>
  have:=List.find?_eq_none.1 hq i (List.mem_range.2 hi);rw [h] at this;simp at this
 | some j =>
  have h1:=List.find?_some hq;have hjn:=List.mem_range.1 (List.mem_of_find?_eq_some hq)
  rcases Nat.lt_trichotomy j i with hlt|rfl|hlt
  ·rw [hn j hlt] at h1;cases h1
  ·rfl
  ·exfalso
   obtain⟨_,l1,l2,hl,hno⟩:=List.find?_eq_some_iff_append.1 hq
   have hmem:i ∈ l1:=by
    have hlen:l1.length=j:=by
     have h2:(List.range n)[l1.length]? = some j:=by rw [hl];simp
     rw [List.getElem?_range (by
      have:=congrArg List.length hl;simp at this;omega)] at h2
     simpa using h2
    have h3:(List.range n)[i]? = some i:=by rw [List.getElem?_range hi]
    rw [hl,List.getElem?_append_left (by omega)] at h3;exact List.mem_of_getElem? h3
   have:=hno i hmem;rw [h] at this;simp at this
theorem idxAl_some {I:List (List Nat)} {v i:Nat} (hi:i<I.length) (h:v ∈ nth [] I i) (hn:∀ j,j<i→v ∉ nth [] I j):idxAl I v=(i:Int):=by
 unfold idxAl;rw [find_range (p:=fun i=>decide (v ∈ nth [] I i)) hi (by simpa using h) (fun j hj=>by simpa using hn j hj)]
def lastN (l:List Nat):Nat:=nth 0 l (l.length - 1)
def faceQ (es:List Ed) (f:FRec) (s:Int × Int) (l:List Nat):Int :=
 if s.1=2 then s.2
 else if s.1=1 then (if 0<(nth ed0 es s.2.toNat).dir.y then nth 0 f.L (2*s.2.toNat+1) else nth 0 f.L (2*s.2.toNat))
 else match l with
  | []=>idxAl f.A s.2.toNat
  | h::t=>if h % 2=0∧(nth ed0 es (h / 2)).dir.y=0 then nth 0 f.L h else nth 0 f.L (lastN (h::t))
theorem findQ_cases (V:List Pt) (es:List Ed) (Lf:List Int) (p:Pt):(∃ v,v<V.length∧findQ V es Lf p=(0,(v:Int)))∨(∃ e,e<es.length∧findQ V es Lf p=(1,(e:Int)))∨∃ z,findQ V es Lf p=(2,z):=by
 cases hv:vtxQ V p with
 | some v=>exact .inl ⟨v,(vtxQ_spec hv).1,findQ_v hv⟩
 | none =>
  cases he:fstOn V es p es.length with
  | some e=>exact .inr (.inl ⟨e,(fstOn_spec _ _ he).1,findQ_e hv he⟩)
  | none =>
   cases hb:bstQ V es p es.length with
   | none=>exact .inr (.inr ⟨_,findQ_0 hv he hb⟩)
   | some b=>exact .inr (.inr ⟨_,findQ_f hv he hb⟩)
end Go.Hp
namespace Go.Proofs
open Go.RowKit Go.Hp
theorem index_any (a:Option Addr) (n c:Nat) (xs:List Int) (x:Int) (w:World) (hx:Ints w (Old w) (.slice a n c) xs) :
 Calls Tryz.prog 94 #[.slice a n c,.int .i64 x] w fun e w'=>(∃ r:Int,e=.returned (.int .i64 r)∧decide (0≤r)=decide (x ∈ xs))∧w'=w:=by
 have hn:=hx.len;subst hn;have hle:=hx.le;have hS:=Heap.start w
 go_enter Tryz.func94,Tryz.ntmps94
 go_wp2
 go_loopw [8] (fun i wr=>∃ k:Nat,k≤xs.length∧i=.int .i64 (k:Int)∧wr=w∧∀ j,j<k→nth 0 xs j≠x) (fun i _=>xs.length - (intOf i).toNat)
 case atStart=>exact⟨0,Nat.zero_le _,rfl,rfl,fun j hj=>by omega⟩
 case round =>
  obtain⟨k,hk,rfl,rfl,hno⟩:=hrel;replace hno:=Hd hno
  by_cases hlt:k<xs.length
  ·by_cases he:nth 0 xs k=x
   ·have he':(x == nth 0 xs k)=true:=by simp [he]
    have hm:x ∈ xs:=by rw [← he];exact nth_mem 0 xs k hlt
    replace hm:=Hd hm;clear he
    go_wp2_with (with_reducible first|refine ixI Tryz.underlying22 Tryz.sizeOf3 fun _ _ _=>?_|refine ld0 hS Tryz.isAgg3 ?_)
    go_ret;exact⟨⟨_,rfl,by simp [hm.out]⟩,rfl⟩
   ·have he':(x == nth 0 xs k)=false:=by simp;exact fun e=>he e.symm
    have hno2:∀ j,j<k+1→nth 0 xs j≠x:=fun j hj=>by
     by_cases e:j=k
     ·subst e;exact he
     ·exact hno.out j (by omega)
    replace hno2:=Hd hno2;clear he
    go_wp2_with (with_reducible first|refine ixI Tryz.underlying22 Tryz.sizeOf3 fun _ _ _=>?_|refine ld0 hS Tryz.isAgg3 ?_)
    go_roundw
    case rel=>exact⟨k+1,by omega,by simp,by first|rfl|trivial,hno2.out⟩
    case measure=>simp [intOf];omega
  ·obtain rfl:k=xs.length:=by omega
   have hd:decide (x ∈ xs)=false:=by
    simp only [decide_eq_false_iff_not];intro hm;obtain⟨j,hj,e⟩:=List.mem_iff_getElem.1 hm;exact hno.out j hj (by rw [nth_eq 0 xs j hj];exact e)
   replace hd:=Hd hd;go_wp2;go_ret;exact⟨⟨_,rfl,by rw [hd.out];rfl⟩,rfl⟩
theorem contains_any (a:Option Addr) (n c:Nat) (xs:List Int) (x:Int) (w:World) (hx:Ints w (Old w) (.slice a n c) xs) :
 Calls Tryz.prog 42 #[.slice a n c,.int .i64 x] w fun e w'=>e=.returned (.bool (decide (x ∈ xs)))∧w'=w:=by
 have hS:=Heap.start w
 go_enter Tryz.func42,Tryz.ntmps42
 go_wp2_with (fail)
 refine (index_any a n c xs x _ hx).mono ?_;rintro e w' ⟨⟨r,rfl,hr⟩,rfl⟩;replace hr:=Hd hr;simp only [];go_wp2;go_ret;exact⟨by rw [← hr.out];rfl,rfl⟩
theorem hasAl_any (a:Option Addr) (n c bs:Nat) (xs:List Nat) (kd:Int) (v:Nat) (w:World) (hx:Nats w (Old w) (.slice a n c) xs) (hb:CellsAt w (Old w) ⟨bs,0,none⟩ [.int .i64 kd,.int .i64 (v:Int)]) :
 Calls Tryz.prog 41 #[.slice a n c,.pointer (some ⟨bs,0,none⟩)] w fun e w'=>e=.returned (.bool (decide (v ∈ xs)))∧w'=w:=by
 have hS:=Heap.start w
 have hd0:v ∈ xs↔(v:Int) ∈ zs xs:=by
  unfold zs;rw [List.mem_map];exact⟨fun h=>⟨v,h,rfl⟩,fun ⟨a,h,e⟩=>(show a=v by exact_mod_cast e) ▸ h⟩
 have hd:decide (v ∈ xs)=decide ((v:Int) ∈ zs xs):=by simp only [hd0]
 rw [hd];clear hd hd0
 go_enter Tryz.func41,Tryz.ntmps41
 go_wp2_with (first|((with_reducible refine g_load (T:=3) ?_);refine seq_of hS rfl (stp_loadj (T:=3) 1 Tryz.isAgg3 rfl hb (by simp) rfl ?_);simp only [NRM]))
 refine (contains_any a n c (zs xs) (v:Int) _ hx).mono ?_;rintro e w' ⟨rfl,rfl⟩;simp only [];go_wp2;go_ret;exact⟨rfl,rfl⟩
theorem indexF_any (a:Option Addr) (n c bs:Nat) (I:List (List Nat)) (kd:Int) (v:Nat) (w:World) (hI:RowsOf w (Old w) (.slice a n c) I) (hb:CellsAt w (Old w) ⟨bs,0,none⟩ [.int .i64 kd,.int .i64 (v:Int)]) :
 Calls Tryz.prog 43 #[.slice a n c,.func (.func 41) #[] #[.pointer (some ⟨bs,0,none⟩)]] w fun e w'=>e=.returned (.int .i64 (idxAl I v))∧w'=w:=by
 obtain rfl:n=I.length:=by obtain⟨R,h1,h2,_⟩:=hI;obtain⟨_,a,c,e,_⟩:=h2;cases e;rfl
 have hS:=Heap.start w;have hle:I.length≤maxLen:=by obtain⟨R,h1,h2,_⟩:=hI;exact h2.le
 unfold maxLen at hle;replace hI:=Hd hI
 go_enter Tryz.func43,Tryz.ntmps43
 go_wp2
 go_loopw [8] (fun i wr=>∃ k:Nat,k≤I.length∧i=.int .i64 (k:Int)∧wr=w∧∀ j,j<k→v ∉ nth [] I j) (fun i _=>I.length - (intOf i).toNat)
 case atStart=>exact⟨0,Nat.zero_le _,rfl,rfl,fun j hj=>by omega⟩
 case round =>
  obtain⟨k,hk,rfl,rfl,hno⟩:=hrel;replace hno:=Hd hno
  by_cases hlt:k<I.length
  ·obtain⟨R,a1,n1,c1,hR,hc,hx,rfl⟩:=rows_cell hI.out hlt
   go_wp2_with (with_reducible first|refine ixE Tryz.underlying35 Tryz.sizeOf22 hR hc fun bq oq hcellq=>?_|refine ld0 hS Tryz.isAgg22 ?_)
   refine (hasAl_any a1 (nth [] I k).length c1 bs (nth [] I k) kd v _ hx hb).mono ?_;rintro e w' ⟨rfl,rfl⟩
   by_cases he:v ∈ nth [] I k
   ·have hR:=Hd (idxAl_some hlt he hno.out)
    rw [decide_eq_true he];clear he;simp only [];go_wp2;go_ret;exact⟨by (rw [hR.out] <;> rfl),rfl⟩
   ·have hno2:∀ j,j<k+1→v ∉ nth [] I j:=fun j hj=>by
     by_cases e:j=k
     ·subst e;exact he
     ·exact hno.out j (by omega)
    replace hno2:=Hd hno2;rw [decide_eq_false he];clear he;simp only [];go_wp2;go_roundw
    case rel=>exact⟨k+1,by omega,by simp,by first|rfl|trivial,hno2.out⟩
    case measure=>simp [intOf];omega
  ·obtain rfl:k=I.length:=by omega
   have hR:=Hd (idxAl_none hno.out);go_wp2;go_ret;exact⟨by (rw [hR.out] <;> rfl),rfl⟩
end Go.Proofs
namespace Go.Hp
open Go Go.RowKit
theorem IsEs.wk {w:World} {S T:Nat→Prop} {rs:List ER} {es:List Ed} (h:IsEs w S rs es) (hs:∀ k,S k→T k):IsEs w T rs es :=
 ⟨h.len,fun i hi=>by have h1:=h.el i hi;exact⟨h1.a,h1.b,h1.dir,h1.of.weaken hs⟩⟩
theorem ArrIn.wk {w:World} {S T:Nat→Prop} {a3 a4:Option Addr} {n3 c3 n4 c4:Nat} {rs:List ER} {es:List Ed} {prs:List PR} {V:List Pt} {k:Nat} (h:ArrIn w S a3 a4 n3 c3 n4 c4 rs es prs V k) (hs:∀ k,S k→T k) (hL:Liv w T):ArrIn w T a3 a4 n3 c3 n4 c4 rs es prs V k :=
 ⟨hL,h.hE.weaken hs,h.hEs.wk hs,h.hV.weaken hs,h.ab,h.bq,h.n3,h.n4⟩
theorem ArrIn.belowS {w w':World} {S:Nat→Prop} {a3 a4:Option Addr} {n3 c3 n4 c4:Nat} {rs:List ER} {es:List Ed} {prs:List PR} {V:List Pt} {k:Nat} (h:ArrIn w S a3 a4 n3 c3 n4 c4 rs es prs V k) (hb:Below w.heap.size w w'):ArrIn w' S a3 a4 n3 c3 n4 c4 rs es prs V k :=
 h.move (fun k hk=>Nat.lt_of_lt_of_le (h.live k hk) hb.size) fun k hk=>hb.block k (h.live k hk)
theorem Heap.cellsBlk {w0 w:World} {H:List Chunk} {b:Nat} {arr:Array Value} {T:TypeId} (hS:Heap w0 w H) (j:Nat) (hj:H[j]? = some (.blk b (.cells arr T (0,0)))):CellsAt w (fun k=>k=b) ⟨b,0,none⟩ arr.toList:=by
 have hb:=hS.blk (List.mem_of_getElem? hj);refine⟨fun _=>rfl,fun _=>rfl,fun q u hu=>?_⟩;have h1:w.cell? ⟨b,q,none⟩=some u:=by rw [cell_of_row w b q _ T (0,0) hb];simpa using hu
 simpa using h1
end Go.Hp
namespace Go.Proofs
open Go.RowKit Go.Hp
theorem lnew_any (a1 a2 a3 a4:Option Addr) (n1 c1 n2 c2 n3 c3 n4 c4:Nat) (t1 t2 t3 t4 t5:Option Addr × Nat × Nat) (rs:List ER) (es:List Ed) (prs:List PR) (V:List Pt) (m:Nat) (f:FRec) (w:World) (S:Nat→Prop) (hA:ArrIn w S a3 a4 n3 c3 n4 c4 rs es prs V m) (hFi:IsFc w S t1 t2 t3 t4 t5 f) (hfu:∀ RL:List (List Nat),RL.length=V.length→(∀ v,v<V.length→AroundL es v (nth [] RL v))→(faceIn V es RL (fun v=>outL es (nth [] RL v))).fr=f) (hbd:FBd f) (hm:8*m+8≤16384) (hd:∀ e ∈ es,e.dir.dir) (hne:∀ e ∈ es,e.a≠e.b) (hV:V.Pairwise Pt.lt) (hel:es.length≤30000) (hVl:V.length≤65536) :
 Calls Tryz.prog 36 #[.agg #[.slice a1 n1 c1,.slice a2 n2 c2,.slice a3 n3 c3,.slice a4 n4 c4],.agg #[sv t1,sv t2,sv t3,sv t4,sv t5]] w fun e w'=>∃ (L:LocR) (S':Nat→Prop),e=.returned (.tuple #[.pointer (some ⟨L.bl,0,none⟩),.int .i64 0])∧Pure (nd w) S w' S'∧Liv w' S'∧LocIn w' S' L rs es prs V m f:=by
 obtain⟨t1,x1,y1⟩:=t1;obtain⟨t2,x2,y2⟩:=t2;obtain⟨t3,x3,y3⟩:=t3;obtain⟨t4,x4,y4⟩:=t4;obtain⟨t5,x5,y5⟩:=t5;simp only [sv];have hL:=hA.live;replace hfu:=Hd hfu;replace hV:=Hd hV;have hS:=Heap.startD w;have hD0:=nd_drawn w;have hp0:=Pure.startD w S;have hF0:=hL;have hO0:=fun k (h:Old w k)=>h
 go_enter Tryz.func36,Tryz.ntmps36
 go_wp2_with (with_reducible first|refine bxA hS fun b2 wb2 hS=>?_|refine bxA hS fun b3 wb3 hS=>?_|refine ldA 1 hS Tryz.isAgg34 Tryz.sizeOf34 ?_)
 refine (fnew_any a1 a2 a3 a4 n1 c1 n2 c2 n3 c3 n4 c4 rs es prs V m _ S (hA.at hS hF0) hm hd hne hV.out hel hVl).mono ?_;rintro e w1 ⟨RL,⟨s1,k1,l1⟩,⟨s2,k2,l2⟩,⟨s3,k3,l3⟩,⟨s4,k4,l4⟩,⟨s5,k5,l5⟩,S1,rfl,hRl,hRL,hq1,hL1,hFo⟩;rw [hfu.out RL hRl hRL] at hFo;clear hRl hRL;have hA1:=((hA.at hS hF0).belowS hq1.below0).wk hq1.sub hL1;have hFi1:=(((hFi.at hS hF0).belowS (Liv.at hS hF0) hq1.below0)).wk hq1.sub;obtain⟨F1,hF1,hOO1,hS1⟩:=hS.pcallN hD0 hF0 hq1;have hp1:=(hp0.step hS hO0 hF0).transN hD0 hq1;have hO1:=fun k h=>hOO1 k (hO0 k h)
 clear hS hOO1 hA hFi hq1;have hS:=hS1;clear hS1;simp only [sv]
 go_wp2_with (with_reducible first|refine alA hS Tryz.zeroValue37 fun b6 wb6 hS=>?_|refine stA 3 hS Tryz.sizeOf37 fun _ hS=>?_|refine ldA 2 hS Tryz.isAgg37 Tryz.sizeOf37 ?_|refine ldA 3 hS Tryz.isAgg37 Tryz.sizeOf37 ?_)
 refine (equalF_any (t1,x1,y1) (t2,x2,y2) (t3,x3,y3) (t4,x4,y4) (t5,x5,y5) (s1,k1,l1) (s2,k2,l2) (s3,k3,l3) (s4,k4,l4) (s5,k5,l5) f _ ((hFi1.at hS hF1).wk (Liv.at hS hF1)) ((hFo.at hS hF1).wk (Liv.at hS hF1)) hbd).mono ?_;rintro e w2 ⟨rfl,hq2⟩;replace hS:=hS.belowD hD0 hq2.below;simp only []
 go_wp2_with (with_reducible first|refine ldA 1 hS Tryz.isAgg34 Tryz.sizeOf34 ?_|refine ldA 3 hS Tryz.isAgg37 Tryz.sizeOf37 ?_|refine bxA hS fun bl wbl hS=>?_)
 have hA2:=hA1.at hS hF1;have hF2:=hFo.at hS hF1;have hcb:=hS.cellsBlk 4 rfl;have hp2:=(hp1.step hS hO1 hF1).add (hS.isNewF hO1 3 rfl);have hLv:Liv _ (fun k=>S1 k∨k=bl):=hp2.liv hL;refine bodyPost_ret (results_tmp2 rfl _ _ _) rfl ?_;exact⟨⟨bl,(a1,n1,c1),(a2,n2,c2),(a3,n3,c3),(a4,n4,c4),(s1,k1,l1),(s2,k2,l2),(s3,k3,l3),(s4,k4,l4),(s5,k5,l5)⟩,rfl,fun k=>S1 k∨k=bl,hp2,hLv,⟨hcb.weaken fun k hk=>.inr hk,hA2.wk (fun k hk=>.inl hk) hLv,hF2.wk fun k hk=>.inl hk⟩⟩
end Go.Proofs
