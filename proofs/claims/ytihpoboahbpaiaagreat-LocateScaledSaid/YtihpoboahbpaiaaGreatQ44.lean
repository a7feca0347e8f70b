/- Texts for the walk of the law: LH LQ. -/
import Derived.Test.YtihpoboahbpaiaaGreatQ43
set_option maxRecDepth 100000
set_option maxHeartbeats 16000000
set_option linter.unusedVariables false
set_option linter.unusedSimpArgs false
namespace Go.Hp
open Go Go.RowKit
def Gp.rot (d:Gp):Gp:=⟨-d.y,d.x⟩
theorem Gp.rot_dir {d:Gp} (h:d.dir):d.rot.dir:=by
 unfold Gp.dir at h;unfold Gp.rot Gp.dir;simp only;omega
theorem divInt_slope (a b:Int):Rat.divInt a b=(a:Rat) / (b:Rat):=Rat.divInt_eq_div a b
end Go.Hp
namespace Go.Proofs
open Go.RowKit Go.Hp
theorem height_any (L:LocR) (rs:List ER) (es:List Ed) (prs:List PR) (V:List Pt) (k:Nat) (f:FRec) (e:Nat) (x:FR) (q:Rat) (j:Nat) (w:World) (S:Nat→Prop) (h:LocIn w S L rs es prs V k f) (he:e<es.length) (hx:IsF w S x q) (hj:Bq j q) (hd:(nth ed0 es e).dir.dir) (h0:(nth ed0 es e).dir.x≠0) (hb:2*k+j+40≤16384) (hVl:V.length≤1000000) (hEl:es.length≤1000000) :
 Calls Tryz.prog 51 #[.pointer (some ⟨L.bl,0,none⟩),.int .i64 (e:Int),.agg #[.bool x.num.neg,.slice x.num.ad x.num.n x.num.cap,.bool x.less.neg,.slice x.less.ad x.less.n x.less.cap]] w (FRes w S (hgtQ V es e q)):=by
 have hL:=h.arr.live;have hEn:=fun w' h=>ends_any L rs es prs V k f e w' S h he hVl hEl
 obtain⟨he1,he2⟩:=h.arr.ab _ (nth_mem ed0 es e he);have pa:IsP w S (nth pr0 prs (nth ed0 es e).a) (nth pt0 V (nth ed0 es e).a):=h.arr.hV.ps.el _ he1;have hba:=h.arr.bq _ (nth_mem pt0 V _ he1);have hE:=h.arr.hEs.el e he;have hce:=flat_cell ec_len er0 (show e<rs.length by rw [h.arr.hEs.len];omega);have hsp:hgtQ V es e q=(nth pt0 V (nth ed0 es e).a).y+(q - (nth pt0 V (nth ed0 es e).a).x)*Rat.divInt (nth ed0 es e).dir.y (nth ed0 es e).dir.x:=by rw [divInt_slope];rfl
 rw [hsp];clear hsp;obtain⟨r,hr⟩:∃ r,nth er0 rs e=r:=⟨_,rfl⟩;rw [hr] at hce hE;rw [← hE.dir] at hd h0 ⊢;have hdd:=hd;unfold Gp.dir at hdd;have i1:InI r.dir.y:=by unfold InI;omega
 have i2:InI r.dir.x:=by unfold InI;omega
 have b1:Bq 33 (Rat.divInt r.dir.y r.dir.x):=by
  have hne:r.dir.x≠0:=h0
  have key:∀ (a b:Int),b≠0→a.natAbs<2 ^ 33→b.natAbs<2 ^ 33→Bq 33 (Rat.divInt a b):=by
   intro a b hb ha hb2
   rcases Int.lt_or_lt_of_ne hb with h|h
   ·have e1:Rat.divInt a b=Rat.divInt (-a) (-b):=(Rat.neg_divInt_neg a b).symm
    rw [e1];obtain⟨p1,p2⟩:=divInt_parts (a:=-a) (b:=-b) (by omega);refine⟨by rw [p1];exact ediv_lt _ (by simpa using ha),?_⟩;have:((Rat.divInt (-a) (-b)).den:Int).natAbs<2 ^ 33:=by rw [p2];exact ediv_lt _ (by simpa using hb2)
    simpa using this
   ·obtain⟨p1,p2⟩:=divInt_parts (a:=a) (b:=b) h
    refine⟨by rw [p1];exact ediv_lt _ ha,?_⟩;have:((Rat.divInt a b).den:Int).natAbs<2 ^ 33:=by rw [p2];exact ediv_lt _ hb2
    simpa using this
  exact key _ _ hne (by omega) (by omega)
 replace hce:((rs.flatMap ec).drop (e*5)).take 5=[.int .i64 (r.a:Int),.int .i64 (r.b:Int),.slice r.ad r.n r.c,.int .i64 r.dir.x,.int .i64 r.dir.y]:=hce;obtain⟨A1,e1⟩:∃ q,nth pr0 prs (nth ed0 es e).a=q:=⟨_,rfl⟩;obtain⟨B1,e2⟩:∃ q,nth pr0 prs (nth ed0 es e).b=q:=⟨_,rfl⟩;obtain⟨a,e3⟩:∃ q,nth pt0 V (nth ed0 es e).a=q:=⟨_,rfl⟩;simp only [e1,e2,e3] at hEn pa hba ⊢;have hax:=pa.x;have hay:=pa.y;clear e1 e2 e3 he1 he2 hr hE hd hdd pa;obtain⟨s,hs⟩:∃ s,Rat.divInt r.dir.y r.dir.x=s:=⟨_,rfl⟩;have co:=fun w' S' hL'=>of_any r.dir.y r.dir.x w' S' i1 i2 hL' h0
 rw [hs] at co b1 ⊢;clear hs i1 i2;obtain⟨hS,hF0,hO0,hp0⟩:=st0 hL
 go_enter Tryz.func51,Tryz.ntmps51
 go_wp2_with (with_reducible first|refine bxA hS fun bx wbx hS=>?_|refine alA hS Tryz.zeroValue54 fun b6 wb6 hS=>?_)
 refine (hEn _ (h.at hS hF0)).mono ?_;rintro e' w' ⟨rfl,hq1⟩;have hx:=(hx.at hS hF0).grow hq1;have hax:=(hax.at hS hF0).grow hq1;have hay:=(hay.at hS hF0).grow hq1;have h:=(h.at hS hF0).grow hq1;replace hS:=hS.pcl hF0 hO0 hp0 hq1;obtain⟨F1,hF1,-,hp1,hO1,hS⟩:=hS;have hc:=h.cell.weaken hF1;have hsl:=h.arr.hE.weaken hF1;simp only []
 go_wp2_with (with_reducible first|refine alA hS Tryz.zeroValue56 fun b9 wb9 hS=>?_|refine stA 4 hS Tryz.sizeOf56 fun _ hS=>?_|refine stA 5 hS Tryz.sizeOf56 fun _ hS=>?_)
 refine wp_region_box 1 [.p 0,.p 1,.p 2,.p 3,.r 4,.p 5,.p 6,.p 7,.p 8,.r 9,.p 10,.p 11,.p 12,.p 13,.r 14,.p 15,.p 16,.p 17,.p 18,.r 19,.e 20,.p 21,.p 22,.p 23] [.e 25,.p 26] [] [bxz 24 11 54 (.agg #[.bool false,.slice none 0 0,.bool false,.slice none 0 0])] w _ (by kernel_rfl) (by kernel_rfl) (boxesOk1 rfl Tryz.zeroValue54) hS.drew ?_;obtain⟨hsC,hkC⟩:=hS.cstart
 repeat (first|(with_reducible refine pskL ?_)|((with_reducible refine p_read ?_);refine pre_of rfl rfl (stp_loadj (T:=32) 3 Tryz.isAgg32 rfl hc (by simp) rfl ?_);simp only [NRM])|((with_reducible refine p_pure ?_);refine pre_any rfl rfl (any_index (T:=32) Tryz.underlying32 Tryz.sizeOf101 rfl rfl hsl (by omega) (by omega) (by omega) (fun bq oq hcellq=>?_));simp only [Int.toNat_natCast] at hcellq;rw [hce] at hcellq;simp only [NRM])|((with_reducible refine p_read ?_);refine pre_of rfl rfl (stp_loadj (T:=3) 4 Tryz.isAgg3 rfl (by with_reducible assumption) (by simp) rfl ?_);simp only [NRM])|((with_reducible refine p_read ?_);refine pre_of rfl rfl (stp_loadj (T:=3) 3 Tryz.isAgg3 rfl (by with_reducible assumption) (by simp) rfl ?_);simp only [NRM])|(with_reducible refine ppL ?_))
 refine pre_ext rfl (fun B wB hS=>?_);simp only [NRH] at hS
 go_wp2_with (fail)
 refine (co _ S (Liv.at hS hF1)).mono ?_;rintro e w' ⟨z,S2,rfl,hq2,hz⟩;simp only [fRes];go_step;have hx:=(hx.at hS hF1).grow hq2;have hax:=(hax.at hS hF1).grow hq2;have hay:=(hay.at hS hF1).grow hq2;have hkC:=Heap.keepC hS hq2.below hsC hkC;replace hS:=hS.pcl hF1 hO1 hp1 hq2;obtain⟨F2,hF2,hOO2,hp2,hO2,hS⟩:=hS;have hsC:=SubC.trans hsC hOO2;refine pre_end (H:=_) hS hsC hkC ?_;refine mvp ?_;refine pre_nil1 (fun b11 wB hS=>?_);simp only [NRH] at hS;simp only [NRM];refine exL ?_
 (with_reducible refine stA 6 hS Tryz.sizeOf54 fun _ hS=>?_)
 refine ext_end (Heap.toC hS.sb hsC hkC) ?_;refine mvs ?_;refine snL ?_;clear hsC hkC
 go_wp2_with (with_reducible first|refine ldA 1 hS Tryz.isAgg54 Tryz.sizeOf54 ?_|refine ldK 4 hS Tryz.isAgg54 Tryz.sizeOf54 ?_)
 refine (subF_any x A1.x q a.x j k _ S2 (hx.at hS hF2) (hax.at hS hF2) (Liv.at hS hF2) hj hba.1 (by omega)).mono ?_;rintro e' w' ⟨u,S3,rfl,hq3,hu⟩;have hz:=(hz.at hS hF2).grow hq3;have hay:=(hay.at hS hF2).grow hq3;replace hS:=hS.pcl hF2 hO2 hp2 hq3;obtain⟨F3,hF3,-,hp3,hO3,hS⟩:=hS;simp only [fRes]
 go_wp2_with (with_reducible first|refine alA hS Tryz.zeroValue54 fun b13 wb13 hS=>?_|refine stA 7 hS Tryz.sizeOf54 fun _ hS=>?_|refine ldA 7 hS Tryz.isAgg54 Tryz.sizeOf54 ?_|refine ldA 6 hS Tryz.isAgg54 Tryz.sizeOf54 ?_)
 refine (mulF_any u z _ _ (j+k+1) 33 _ S3 (hu.at hS hF3) (hz.at hS hF3) (Liv.at hS hF3) (hj.sub hba.1) b1 (by omega)).mono ?_;rintro e' w' ⟨v,S4,rfl,hq4,hv⟩;have hay:=(hay.at hS hF3).grow hq4;replace hS:=hS.pcl hF3 hO3 hp3 hq4;obtain⟨F4,hF4,-,hp4,hO4,hS⟩:=hS;simp only [fRes]
 go_wp2_with (with_reducible first|refine stA 7 hS Tryz.sizeOf54 fun _ hS=>?_|refine ldA 7 hS Tryz.isAgg54 Tryz.sizeOf54 ?_|refine ldK 4 hS Tryz.isAgg54 Tryz.sizeOf54 ?_)
 refine (addF_any A1.y v _ _ k (j+k+1+33) _ S4 (hay.at hS hF4) (hv.at hS hF4) (Liv.at hS hF4) hba.2 ((hj.sub hba.1).mul b1) (by omega)).mono ?_;rintro e' w' ⟨y,S5,rfl,hq5,hy⟩;replace hS:=hS.pcl hF4 hO4 hp4 hq5;obtain⟨F5,hF5,-,hp5,hO5,hS⟩:=hS;simp only [fRes]
 go_wp2_with (with_reducible refine stA 2 hS Tryz.sizeOf54 fun _ hS=>?_)
 exact ret_ct 2 hS rfl rfl rfl Tryz.isAgg54 Tryz.sizeOf54 rfl rfl ⟨y,S5,rfl,hp5.step hS hO5 hF5,hy.at hS hF5⟩
theorem higher_first (e:Nat) (y:FR) (bb bt b2:Nat) (w:World) (S:Nat→Prop) (hb:CellsAt w (Old w) ⟨bb,0,none⟩ [.int .i64 (-1)]) :
 Calls Tryz.prog 45 #[.int .i64 (e:Int),.agg #[.bool y.num.neg,.slice y.num.ad y.num.n y.num.cap,.bool y.less.neg,.slice y.less.ad y.less.n y.less.cap],.pointer (some ⟨bb,0,none⟩),.pointer (some ⟨bt,0,none⟩),.pointer (some ⟨b2,0,none⟩)] w fun en w'=>en=.returned (.bool true)∧Pure w S w' S:=by
 have hS:=Heap.start w
 go_enter Tryz.func45,Tryz.ntmps45
 go_wp2_with (first|(with_reducible refine bxA hS fun bx wbx hS=>?_)|((with_reducible refine g_load (T:=3) ?_);refine seq_of hS rfl (stp_loadj (T:=3) 0 Tryz.isAgg3 rfl hb (by simp) rfl ?_);simp only [NRM]))
 go_ret;exact⟨rfl,hS.pure S⟩
theorem higher_any (L:LocR) (rs:List ER) (es:List Ed) (prs:List PR) (V:List Pt) (k:Nat) (f:FRec) (e b:Nat) (y t:FR) (yq tq:Rat) (bb bt b2:Nat) (w:World) (S:Nat→Prop) (h:LocIn w S L rs es prs V k f) (he:e<es.length) (hbl:b<es.length) (hy:IsF w S y yq) (ht:IsF w S t tq) (hd:∀ e ∈ es,e.dir.dir) (hEl:es.length≤1000000) (hb:CellsAt w (Old w) ⟨bb,0,none⟩ [.int .i64 (b:Int)]) (hbt:CellsAt w (Old w) ⟨bt,0,none⟩ [.bool t.num.neg,.slice t.num.ad t.num.n t.num.cap,.bool t.less.neg,.slice t.less.ad t.less.n t.less.cap]) (hb2:CellsAt w (Old w) ⟨b2,0,none⟩ [.pointer (some ⟨L.bl,0,none⟩)]) :
 Calls Tryz.prog 45 #[.int .i64 (e:Int),.agg #[.bool y.num.neg,.slice y.num.ad y.num.n y.num.cap,.bool y.less.neg,.slice y.less.ad y.less.n y.less.cap],.pointer (some ⟨bb,0,none⟩),.pointer (some ⟨bt,0,none⟩),.pointer (some ⟨b2,0,none⟩)] w fun en w'=>en=.returned (.bool (if yq=tq then decide (0<turnZ (nth ed0 es e).dir.rot (nth ed0 es b).dir.rot) else decide (tq<yq)))∧Pure w S w' S:=by
 have hL:=h.arr.live;have hsl:=h.arr.hE.old;have hc:=h.cell.old hL;have hE:=h.arr.hEs.el e he;have hB:=h.arr.hEs.el b hbl;have hce:=flat_cell ec_len er0 (show e<rs.length by rw [h.arr.hEs.len];omega);have hcb:=flat_cell ec_len er0 (show b<rs.length by rw [h.arr.hEs.len];omega);have hde:=hd _ (nth_mem ed0 es e he);have hdb:=hd _ (nth_mem ed0 es b hbl);obtain⟨r,hr⟩:∃ r,nth er0 rs e=r:=⟨_,rfl⟩;obtain⟨q,hq⟩:∃ r,nth er0 rs b=r:=⟨_,rfl⟩;rw [hr] at hce hE;rw [hq] at hcb hB;rw [← hE.dir] at hde ⊢;rw [← hB.dir] at hdb ⊢;replace hce:((rs.flatMap ec).drop (e*5)).take 5=[.int .i64 (r.a:Int),.int .i64 (r.b:Int),.slice r.ad r.n r.c,.int .i64 r.dir.x,.int .i64 r.dir.y]:=hce;replace hcb:((rs.flatMap ec).drop (b*5)).take 5=[.int .i64 (q.a:Int),.int .i64 (q.b:Int),.slice q.ad q.n q.c,.int .i64 q.dir.x,.int .i64 q.dir.y]:=hcb;clear hE hB hr hq hd h;have r1:=Gp.rot_dir hde;have r2:=Gp.rot_dir hdb;have w1:IntKind.i64.wrap (-r.dir.y) = -r.dir.y:=by unfold Gp.dir at hde;exact w6
 have w2:IntKind.i64.wrap (-q.dir.y) = -q.dir.y:=by unfold Gp.dir at hdb;exact w6
 have ct:=fun w' S' hL'=>turn_any r.dir.rot q.dir.rot w' S' hL' r1 r2
 have hg0:=@cmpQ_eq yq tq;have hg1:=@cmpQ_ltx yq tq;have hg2:cmpQ yq tq > 0↔tq<yq:=by unfold cmpQ;split <;> (try split) <;> grind
 have cq:=fun w' S' p1 p2 hL'=>compareQ_any y t yq tq w' S' p1 p2 hL'
 obtain⟨c,hc0⟩:∃ c,cmpQ yq tq=c:=⟨_,rfl⟩;obtain⟨T,hT⟩:∃ T,turnZ r.dir.rot q.dir.rot=T:=⟨_,rfl⟩;rw [hT] at ct ⊢;simp only [hc0] at cq hg0 hg1 hg2;clear hc0 hT hde hdb r1 r2 hg1;have hneg:decide ((b:Int)<0)=false:=by simp
 obtain⟨hS,hF0,hO0,hp0⟩:=st0 hL
 by_cases hz:c=0
 ·subst hz
  rw [if_pos (hg0.1 rfl)];clear hg0 hg2
  go_enter Tryz.func45,Tryz.ntmps45
  go_wp2_with (first|(with_reducible refine bxA hS fun bx wbx hS=>?_)|((with_reducible refine g_load (T:=3) ?_);refine seq_of hS rfl (stp_loadj (T:=3) 0 Tryz.isAgg3 rfl hb (by simp) rfl ?_);simp only [NRM])|(with_reducible first|refine ldA 1 hS Tryz.isAgg54 Tryz.sizeOf54 ?_|refine ldG hS Tryz.isAgg54 Tryz.sizeOf54 ?_))
  refine (cq _ S (hy.at hS hF0) (ht.at hS hF0) (Liv.at hS hF0)).mono ?_;rintro e' w' ⟨rfl,hq1⟩;have hS:=hS.below hq1.below hq1.drawn;simp only [];go_wp2;refine wp_region_box 1 [.r 0,.p 1,.p 2,.p 3,.r 4,.p 5,.p 6,.p 7,.r 8,.r 9,.p 10,.p 11,.p 12,.r 13,.r 14,.p 15,.p 16,.r 17] [.e 20,.e 21] [] [bxz 18 9 29 (.agg #[.int .i64 0,.int .i64 0]),bxz 19 10 29 (.agg #[.int .i64 0,.int .i64 0])] w _ (by kernel_rfl) (by kernel_rfl) (boxesOk2 rfl Tryz.zeroValue29 rfl Tryz.zeroValue29 (by decide) (by decide)) hS.drew ?_;obtain⟨hsC,hkC⟩:=hS.cstart
  repeat (first|(with_reducible refine pskL ?_)|((with_reducible refine p_read ?_);refine pre_of rfl rfl (stp_loadj (T:=38) 0 Tryz.isAgg38 rfl hb2 (by simp) rfl ?_);simp only [NRM])|((with_reducible refine p_read ?_);refine pre_of rfl rfl (stp_loadj (T:=32) 3 Tryz.isAgg32 rfl hc (by simp) rfl ?_);simp only [NRM])|(((with_reducible refine p_pure ?_);refine pre_any rfl rfl (any_index (T:=32) Tryz.underlying32 Tryz.sizeOf101 rfl rfl hsl (by omega) (by omega) (by omega) (fun bq oq hcellq=>?_));simp only [Int.toNat_natCast] at hcellq;rw [hce] at hcellq;simp only [NRM]);replace hcellq:CellsAt _ _ ⟨bq,oq+3,none⟩ [.int .i64 r.dir.x,.int .i64 r.dir.y]:=hcellq.part 3 2)|(((with_reducible refine p_pure ?_);refine pre_any rfl rfl (any_index (T:=32) Tryz.underlying32 Tryz.sizeOf101 rfl rfl hsl (by omega) (by omega) (by omega) (fun bq oq hcellq=>?_));simp only [Int.toNat_natCast] at hcellq;rw [hcb] at hcellq;simp only [NRM]);replace hcellq:CellsAt _ _ ⟨bq,oq+3,none⟩ [.int .i64 q.dir.x,.int .i64 q.dir.y]:=hcellq.part 3 2)|((with_reducible refine p_read ?_);refine pre_of rfl rfl (stp_loadk (T:=29) Tryz.isAgg29 Tryz.sizeOf29 rfl (by with_reducible assumption) (by simp) rfl ?_);simp only [NRM])|((with_reducible refine p_read ?_);refine pre_of rfl rfl (stp_loadj (T:=3) 0 Tryz.isAgg3 rfl hb (by simp) rfl ?_);simp only [NRM])|(with_reducible refine ppL ?_))
  refine pre_nil2 (fun b9 b10 wB hS=>?_);simp only [NRH] at hS;simp only [NRM];refine exL ?_
  (with_reducible refine stA 2 hS Tryz.sizeOf29 fun _ hS=>?_)
  refine ext_end (Heap.toC hS.sb hsC hkC) ?_;refine mvs ?_;refine exL ?_
  (with_reducible refine stA 3 hS Tryz.sizeOf29 fun _ hS=>?_)
  refine ext_end (Heap.toC hS.sb hsC hkC) ?_;refine mvs ?_;refine snL ?_;clear hsC hkC hce hcb
  go_wp2_with (with_reducible first|refine ldB 2 hS Tryz.isAgg3 ?_|refine ldB 3 hS Tryz.isAgg3 ?_)
  refine (ct _ S (Liv.at hS hF0)).mono ?_;rintro e' w' ⟨rfl,hq2⟩;replace hS:=hS.pcl hF0 hO0 hp0 hq2;obtain⟨F1,hF1,-,hp1,hO1,hS⟩:=hS;simp only [];go_wp2;go_ret;exact⟨rfl,hp1.step hS hO1 hF1⟩
 ·rw [if_neg (fun e=>hz (hg0.2 e))]
  have hR:decide (tq<yq)=decide (0<c):=by simp only [← hg2]
  rw [hR];have hzf:(c != 0)=true:=by simpa using hz
  clear hg0 hg2 hR hz
  go_enter Tryz.func45,Tryz.ntmps45
  go_wp2_with (first|(with_reducible refine bxA hS fun bx wbx hS=>?_)|((with_reducible refine g_load (T:=3) ?_);refine seq_of hS rfl (stp_loadj (T:=3) 0 Tryz.isAgg3 rfl hb (by simp) rfl ?_);simp only [NRM])|(with_reducible first|refine ldA 1 hS Tryz.isAgg54 Tryz.sizeOf54 ?_|refine ldG hS Tryz.isAgg54 Tryz.sizeOf54 ?_))
  refine (cq _ S (hy.at hS hF0) (ht.at hS hF0) (Liv.at hS hF0)).mono ?_;rintro e' w' ⟨rfl,hq1⟩;replace hS:=hS.pcl hF0 hO0 hp0 hq1;obtain⟨F1,hF1,-,hp1,hO1,hS⟩:=hS;simp only [];go_wp2;go_ret;exact⟨rfl,hp1.step hS hO1 hF1⟩
end Go.Proofs
namespace Go.Hp
open Go
def vtxQ (V:List Pt) (p:Pt):Option Nat:=(List.range V.length).find? fun v=>decide (nth pt0 V v=p)
theorem vtxQ_none {V:List Pt} {p:Pt} (h:∀ v,v<V.length→nth pt0 V v≠p):vtxQ V p=none:=by
 unfold vtxQ;rw [List.find?_eq_none];intro v hv
 simpa using h v (List.mem_range.1 hv)
theorem vtxQ_spec {V:List Pt} {p:Pt} {v:Nat} (h:vtxQ V p=some v):v<V.length∧nth pt0 V v=p:=by
 unfold vtxQ at h;exact⟨List.mem_range.1 (List.mem_of_find?_eq_some h),by simpa using List.find?_some h⟩
theorem nthV_inj {V:List Pt} (hV:V.Pairwise Pt.lt) {u v:Nat} (hu:u<V.length) (hv:v<V.length) (h:nth pt0 V u=nth pt0 V v):u=v:=by
 rcases Nat.lt_trichotomy u v with hlt|hlt|hlt
 ·have h1:=List.pairwise_iff_getElem.1 hV u v hu hv hlt
  rw [← nth_eq pt0 V u hu,← nth_eq pt0 V v hv,h] at h1;exact absurd h1 (Pt.lt_irrefl _)
 ·exact hlt
 ·have h1:=List.pairwise_iff_getElem.1 hV v u hv hu hlt
  rw [← nth_eq pt0 V u hu,← nth_eq pt0 V v hv,h] at h1;exact absurd h1 (Pt.lt_irrefl _)
theorem vtxQ_some {V:List Pt} (hV:V.Pairwise Pt.lt) {p:Pt} {v:Nat} (hv:v<V.length) (h:nth pt0 V v=p):vtxQ V p=some v:=by
 cases hq:vtxQ V p with
 | none =>
  exfalso
  unfold vtxQ at hq;have:=List.find?_eq_none.1 hq v (List.mem_range.2 hv);simp [h] at this
 | some u =>
  obtain⟨h1,h2⟩:=vtxQ_spec hq;rw [nthV_inj hV h1 hv (h2.trans h.symm)]
theorem Stands.none {V:List Pt} {p:Pt} {i:Nat} (hs:Stands V p i) (h:¬ (i<V.length∧nth pt0 V i=p)) (hV:V.Pairwise Pt.lt):vtxQ V p=none:=by
 refine vtxQ_none fun v hv e=>h ?_
 obtain⟨h1,h2,h3⟩:=hs
 have hiv:i≤v:=by
  rcases Nat.lt_or_ge v i with hlt|hge
  ·have:=h2 v hlt
   rw [e] at this;exact absurd this (Pt.lt_irrefl _)
  ·exact hge
 rcases Nat.lt_or_ge i v with hlt|hge
 ·have h4:=List.pairwise_iff_getElem.1 hV i v (by omega) hv hlt
  rw [← nth_eq pt0 V i (by omega),← nth_eq pt0 V v hv,e] at h4;exact absurd h4 (h3 i (Nat.le_refl _) (by omega))
 ·obtain rfl:i=v:=by omega
  exact⟨hv,e⟩
def fstOn (V:List Pt) (es:List Ed) (p:Pt):Nat→Option Nat
 | 0=>none
 | e+1=>match fstOn V es p e with
  | some x=>some x
  | none=>if btwP (nth pt0 V (nth ed0 es e).a) (nth pt0 V (nth ed0 es e).b) p=true then some e else none
theorem fstOn_next {V:List Pt} {es:List Ed} {p:Pt} {e:Nat} (h:fstOn V es p e=none) (hb:btwP (nth pt0 V (nth ed0 es e).a) (nth pt0 V (nth ed0 es e).b) p=false):fstOn V es p (e+1)=none:=by
 unfold fstOn;rw [h];simp [hb]
theorem fstOn_hit {V:List Pt} {es:List Ed} {p:Pt} {e:Nat} (h:fstOn V es p e=none) (hb:btwP (nth pt0 V (nth ed0 es e).a) (nth pt0 V (nth ed0 es e).b) p=true):∀ k,fstOn V es p (e+1+k)=some e
 | 0=>by show fstOn V es p (e+1)=some e;unfold fstOn;rw [h];simp [hb]
 | k+1=>by
  have ih:=fstOn_hit h hb k;show fstOn V es p (e+1+k+1)=some e;unfold fstOn;rw [ih]
theorem fstOn_spec {V:List Pt} {es:List Ed} {p:Pt}:∀ k e,fstOn V es p k=some e→e<k∧btwP (nth pt0 V (nth ed0 es e).a) (nth pt0 V (nth ed0 es e).b) p=true
 | 0,e,h=>by cases h
 | k+1,e,h=>by
  unfold fstOn at h;cases hk:fstOn V es p k with
  | some x =>
   rw [hk] at h;cases h;obtain⟨h1,h2⟩:=fstOn_spec k e hk;exact⟨by omega,h2⟩
  | none =>
   rw [hk] at h;simp only at h
   split at h
   ·rename_i hb
    cases h;exact⟨by omega,hb⟩
   ·cases h
theorem fstOn_none {V:List Pt} {es:List Ed} {p:Pt}:∀ k,fstOn V es p k=none→∀ e,e<k→btwP (nth pt0 V (nth ed0 es e).a) (nth pt0 V (nth ed0 es e).b) p=false
 | 0,h,e,he=>by omega
 | k+1,h,e,he=>by
  unfold fstOn at h;cases hk:fstOn V es p k with
  | some x=>rw [hk] at h;cases h
  | none =>
   rw [hk] at h;simp only at h
   split at h
   ·cases h
   ·rename_i hb
    rcases Nat.lt_or_ge e k with hlt|hge
    ·exact fstOn_none k hk e hlt
    ·obtain rfl:e=k:=by omega
     simpa using hb
theorem bstQ_succ (V:List Pt) (es:List Ed) (p:Pt) (e:Nat):bstQ V es p (e+1)=if (spnQ V es e p.x && decide (hgtQ V es e p.x<p.y) && higQ V es p (bstQ V es p e) e)=true then some e else bstQ V es p e:=rfl
def findQ (V:List Pt) (es:List Ed) (Lf:List Int) (p:Pt):Int × Int :=
 match vtxQ V p with
 | some v=>(0,(v:Int))
 | none=>match fstOn V es p es.length with
  | some e=>(1,(e:Int))
  | none=>match bstQ V es p es.length with
   | none=>(2,0)
   | some b=>(2,nth 0 Lf (2*b))
theorem findQ_v {V:List Pt} {es:List Ed} {Lf:List Int} {p:Pt} {v:Nat} (h:vtxQ V p=some v):findQ V es Lf p=(0,(v:Int)):=by unfold findQ;rw [h]
theorem findQ_e {V:List Pt} {es:List Ed} {Lf:List Int} {p:Pt} {e:Nat} (h:vtxQ V p=none) (h1:fstOn V es p es.length=some e):findQ V es Lf p=(1,(e:Int)):=by unfold findQ;rw [h,h1]
theorem findQ_0 {V:List Pt} {es:List Ed} {Lf:List Int} {p:Pt} (h:vtxQ V p=none) (h1:fstOn V es p es.length=none) (h2:bstQ V es p es.length=none):findQ V es Lf p=(2,0):=by unfold findQ;rw [h,h1,h2]
theorem findQ_f {V:List Pt} {es:List Ed} {Lf:List Int} {p:Pt} {b:Nat} (h:vtxQ V p=none) (h1:fstOn V es p es.length=none) (h2:bstQ V es p es.length=some b):findQ V es Lf p=(2,nth 0 Lf (2*b)):=by unfold findQ;rw [h,h1,h2]
section
variable (m:Mv2) {V:List Pt} {es:List Ed} (hab:∀ e ∈ es,e.a<V.length∧e.b<V.length)
theorem Mv2.p_inj (a b:Pt):m.p a=m.p b↔a=b:=by
 constructor
 ·intro h
  have h1:(m.p a).x=(m.p b).x:=by rw [h]
  have h2:(m.p a).y=(m.p b).y:=by rw [h]
  unfold Mv2.p at h1 h2;simp only [lin_eq m.kpos] at h1 h2;exact Pt.ext' h1 h2
 ·rintro rfl;rfl
theorem Mv2.vtxQ (p:Pt):vtxQ (V.map m.p) (m.p p)=vtxQ V p:=by
 unfold Hp.vtxQ;rw [List.length_map]
 have:∀ (l:List Nat),(∀ v ∈ l,v<V.length)→l.find? (fun v=>decide (Hp.nth pt0 (V.map m.p) v=m.p p))=l.find? (fun v=>decide (Hp.nth pt0 V v=p)):=by
  intro l
  induction l with
  | nil=>intro _;rfl
  | cons v l ih =>
   intro hl
   have h1:decide (Hp.nth pt0 (V.map m.p) v=m.p p)=decide (Hp.nth pt0 V v=p):=by
    rw [m.nth (hl v List.mem_cons_self)];simp only [m.p_inj]
   rw [List.find?_cons,List.find?_cons,h1,ih fun v hv=>hl v (List.mem_cons_of_mem _ hv)]
 exact this _ fun v hv=>List.mem_range.1 hv
theorem cmpQ_sgn {k a:Rat} (hk:0<k):cmpQ (k*a) 0=cmpQ a 0:=by
 have h1:k*a<0↔a<0:=by have:=mul_lt (a:=a) (b:=0) hk;simpa using this
 have h2:0<k*a↔0<a:=by have:=mul_lt (a:=0) (b:=a) hk;simpa using this
 unfold cmpQ;simp only [h1,h2]
theorem Mv2.cmpQ_x (a b:Pt):cmpQ (m.p a).x (m.p b).x=cmpQ a.x b.x:=by
 unfold Mv2.p cmpQ;simp only [lin_lt m.kpos]
theorem Mv2.cmpQ_y (a b:Pt):cmpQ (m.p a).y (m.p b).y=cmpQ a.y b.y:=by
 unfold Mv2.p cmpQ;simp only [lin_lt m.kpos]
theorem Mv2.btwP (a b c:Pt):btwP (m.p a) (m.p b) (m.p c)=btwP a b c:=by
 unfold Hp.btwP Hp.btw;rw [m.cmpQ_x,m.cmpQ_x,m.cmpQ_y,m.cmpQ_y];rw [m.area,cmpQ_sgn m.k2]
 include hab
theorem Mv2.fstOn (p:Pt):∀ k,k≤es.length→fstOn (V.map m.p) es (m.p p) k=fstOn V es p k
 | 0,_=>rfl
 | k+1,hk=>by
  have ih:=Mv2.fstOn p k (by omega);obtain⟨h1,h2⟩:=hab _ (nth_mem ed0 es k (by omega));unfold Hp.fstOn;rw [ih,m.nth h1,m.nth h2,m.btwP]
theorem Mv2.findQ (Lf:List Int) (p:Pt):findQ (V.map m.p) es Lf (m.p p)=findQ V es Lf p:=by
 unfold Hp.findQ;rw [m.vtxQ,m.fstOn hab p _ (Nat.le_refl _),m.bstQ hab p _ (Nat.le_refl _)]
end
end Go.Hp
