/- Texts for the walk of the law: FN. -/
import Derived.Test.YtihpoboahbpaiaaGreatQ36
set_option maxRecDepth 100000
set_option maxHeartbeats 16000000
set_option linter.unusedVariables false
set_option linter.unusedSimpArgs false
namespace Go.Proofs
open Go.Proofs.Tryz
open Go.RowKit Go.Hp Go.Sort Go.Shelf
theorem fnew_any (a1 a2 a3 a4:Option Addr) (n1 c1 n2 c2 n3 c3 n4 c4:Nat) (rs:List ER) (es:List Ed) (prs:List PR) (V:List Pt) (m:Nat) (w:World) (S:Nat→Prop) (hA:ArrIn w S a3 a4 n3 c3 n4 c4 rs es prs V m) (hm:8*m+8≤16384) (hd:∀ e ∈ es,e.dir.dir) (hne:∀ e ∈ es,e.a≠e.b) (hV:V.Pairwise Pt.lt) (hel:es.length≤30000) (hVl:V.length≤65536) :
 Calls Tryz.prog 35 #[.agg #[.slice a1 n1 c1,.slice a2 n2 c2,.slice a3 n3 c3,.slice a4 n4 c4]] w fun e w'=>∃ (RL:List (List Nat)) (s1 s2 s3 s4 s5:Option Addr × Nat × Nat) (S':Nat→Prop),e=.returned (.tuple #[.agg #[sv s1,sv s2,sv s3,sv s4,sv s5],.int .i64 0])∧RL.length=V.length∧(∀ v,v<V.length→AroundL es v (nth [] RL v))∧Pure (nd w) S w' S'∧Liv w' S'∧IsFc w' S' s1 s2 s3 s4 s5 (faceIn V es RL (fun v=>outL es (nth [] RL v))).fr:=by
 have hn3:=hA.n3;have hn4:=hA.n4;subst hn3 hn4;have hS:=Heap.startD w;have hD0:=nd_drawn w;have hF0:∀ k,S k→Old w k:=hA.live;have hLw:=hA.live;have hO0:=fun k (h:Old w k)=>h
 have hp0:=Pure.startD w S
 go_enter func35,ntmps35
 go_wp2_with (with_reducible first|refine bxA hS fun bx wbx hS=>?_|refine alA hS zeroValue37 fun br wbr hS=>?_|refine ldA 1 hS isAgg34 sizeOf34 ?_)
 refine (next_any a1 a2 a3 a4 n1 c1 n2 c2 V.length c3 es.length c4 rs es _ S (Liv.at hS hF0) (hA.hE.move (hS.keep hF0)) (hA.hEs.at hS hF0) hd hel hVl).mono ?_;rintro e wc ⟨RL,g,c,bm,o,l,F',S1,rfl,hS1,hSF,hOF,hpc,hL1,hmi,hRl,hRL,hAM⟩;obtain⟨F1,hF1,hOO1,hS2⟩:=hS.pimport hF0 hpc hS1 hOF hSF;have hA1:=(hA.at hS hF0).grow hpc;have hp1:=(hp0.step hS hO0 hF0).trans hpc;have hO1:=fun k h=>hOO1 k (hO0 k h)
 clear hS;have hS:=hS2;clear hS2 hS1 hSF hOF hpc hF0 hO0 hp0 hOO1 hA;simp only [NRH] at hS;replace hRL:=Hd hRL;replace hRl:=Hd hRl
 go_wp2_with (with_reducible first|refine alA hS zeroValue22 fun b4 wb4 hS=>?_|refine stA 5 hS sizeOf22 fun _ hS=>?_)
 refine G.wp_region_box2 [.r 0,.r 1,.p 2,.e 3] [.p 7] [.e 9] [] [⟨4,30,fun b=>.slice (some ⟨b,0,none⟩) 1 1,.cells #[.int .i64 (-1)] 3 (0,0)⟩,⟨5,31,fun b=>.slice (some ⟨b,0,none⟩) 1 1,.cells #[.slice none 0 0] 22 (0,0)⟩,⟨6,32,fun b=>.slice (some ⟨b,0,none⟩) 1 1,.cells #[.slice none 0 0] 22 (0,0)⟩] [⟨8,6,fun b=>.pointer (some ⟨b,0,none⟩),.cells #[.slice none 0 0,.slice none 0 0,.slice none 0 0,.slice none 0 0,.slice none 0 0] 37 (0,0)⟩] (nd w) _ (by kernel_rfl) (by as_aux_lemma=>kernel_rfl) ⟨fun p hp=>by
  simp only [List.cons_append,List.nil_append,List.mem_cons,List.not_mem_nil,or_false] at hp
  rcases hp with rfl|rfl|rfl|rfl
  ·exact⟨_,rfl,rfl,rfl,fun a w=>G.run_lit (k:=1) (len:=1) (parts:=#[(0,.const (.int .i64 (-1)))]) (cells:=#[.int .i64 (-1)]) underlying22 sizeOf3 zeroValue3 (by decide) (by decide) a (fill_one (z:=.int .i64 0) (v:=.int .i64 (-1)) (k:=1) rfl rfl (by decide)) w⟩
  ·exact⟨_,rfl,rfl,rfl,fun a w=>G.run_lit (k:=1) (len:=1) (parts:=#[(0,.const (.slice none 0 0))]) (cells:=#[.slice none 0 0]) underlying35 sizeOf22 zeroValue22 (by decide) (by decide) a (fill_one (z:=.slice none 0 0) (v:=.slice none 0 0) (k:=1) rfl rfl (by decide)) w⟩
  ·exact⟨_,rfl,rfl,rfl,fun a w=>G.run_lit (k:=1) (len:=1) (parts:=#[(0,.const (.slice none 0 0))]) (cells:=#[.slice none 0 0]) underlying35 sizeOf22 zeroValue22 (by decide) (by decide) a (fill_one (z:=.slice none 0 0) (v:=.slice none 0 0) (k:=1) rfl rfl (by decide)) w⟩
  ·exact⟨_,rfl,rfl,rfl,fun a w=>run_al zeroValue37 a w⟩,by decide,by decide⟩ hS.drew ?_
 refine G.pre1_of rfl rfl (stp_load_blk (T:=22) 5 isAgg22 rfl rfl rfl ?_);simp only [NRM];refine G.pre1_of rfl rfl (stp_load_blk (T:=22) 5 isAgg22 rfl rfl rfl ?_);simp only [NRM];refine G.pre1_run rfl rfl (fun K hK=>?_)
 go_simp
 refine hK _ ?_;clear hK K hS;refine G.pre1_ext rfl (fun B wB hS=>?_)
 ((with_reducible refine g_mks' (T:=22) ?_);refine seq_make_ints (n:=2*es.length) (T:=22) (E:=3) hS underlying22 infoI rfl rfl (by omega) (by omega) (fun g2 wg2 hS=>?_);simp only [NRM];simp only [NRH] at hS)
 replace hS:=G.swapB (X:=[.frz F1 wc,.blk bx (.cells #[.slice a1 n1 c1,.slice a2 n2 c2,.slice a3 V.length c3,.slice a4 es.length c4] 34 (0,0)),.blk br (.cells #[.slice none 0 0,.slice none 0 0,.slice none 0 0,.slice none 0 0,.slice none 0 0] 37 (0,0)),.row (.slice (some ⟨g,0,none⟩) (2*es.length) c) 3 1 (2*es.length) (iv (zs (nxTo es.length RL V.length))),.blk bm o,.blk b4 (.cells #[.slice (some ⟨g,0,none⟩) (2*es.length) c] 22 (0,0))]) hS;refine G.pre1_end hS (fun B w hb=>(hb.sub (List.sublist_append_left _ _)).sub (List.sublist_append_left _ _)) ?_;clear hS;refine G.pre1_nil (G.end3H (fun o2 i3 a5=>?_));simp only [NRM];refine pre_run rfl rfl (fun K hK=>?_)
 go_simp
 refine hK _ ?_;clear hK K;refine G.pre_nil1 (fun f6 wB hS=>?_);simp only [NRH] at hS;simp only [NRM];refine exL ?_
 (with_reducible refine stA 10 hS sizeOf37 fun _ hS=>?_)
 refine ext_end hS.sb ?_;refine snL ?_
 go_wp2_with (with_reducible refine ldA 1 hS isAgg34 sizeOf34 ?_)
 refine (components_any a1 a2 a3 a4 n1 c1 n2 c2 V.length c3 es.length c4 rs es _ S1 (Liv.at hS hF1) (hA1.hE.move (hS.keep hF1)) (hA1.hEs.at hS hF1) hVl (by omega) hA1.ab).mono ?_;rintro e wd ⟨gr,cr,rfl,hS1⟩;replace hS:=hS.import hS1;simp only [NRH] at hS;clear hS1
 go_wp2_with (with_reducible refine ldB 10 hS isAgg22 ?_)
 replace hLw:=Hd hLw;have hRok:=RLok.of hne hRl.out hRL.out;have hxk:=faceIn_ok (out:=fun v=>outL es (nth [] RL v)) hV hA1.ab hRok (fun v _ h=>outL_mem h);obtain⟨x,hxe⟩:∃ x,faceIn V es RL (fun v=>outL es (nth [] RL v))=x:=⟨_,rfl⟩;have hxN:nxTo es.length RL V.length=x.N:=by rw [← hxe];rfl
 have hxr:comps (endsL es) V.length=x.root:=by rw [← hxe];rfl
 have hxn:x.n=V.length:=by rw [← hxe];rfl
 have hxm:x.m=es.length:=by rw [← hxe];rfl
 have hxo:∀ v,outL es (nth [] RL v)=x.out v:=fun v=>by rw [← hxe];rfl
 have hxb:∀ v,x.bel v=belO V es v:=fun v=>by rw [← hxe];rfl
 have hxh:∀ v,x.hasE v=decide (nth [] RL v≠[]):=fun v=>by rw [← hxe];rfl
 have hNl:x.N.length=2*es.length:=by rw [← hxN];exact nxTo_length _ _ _
 have hrl:x.root.length=V.length:=by rw [← hxr];exact comps_length _ _
 rw [hxe] at hxk;rw [hxN,hxr] at hS;replace hxe:=Hd hxe;replace hxN:=Hd hxN;replace hxr:=Hd hxr;replace hxn:=Hd hxn;replace hxm:=Hd hxm;replace hxo:=Hd hxo;replace hxb:=Hd hxb;replace hxh:=Hd hxh;replace hNl:=Hd hNl;replace hrl:=Hd hrl;have hM2:2*es.length≤60000:=by omega
 obtain⟨M,hM⟩:∃ M,2*es.length=M:=⟨_,rfl⟩;rw [hM] at hS hNl hM2 ⊢;replace hS:=hS.toRow (k:=1) (m:=1) 7 rfl (by simp) (by decide);replace hS:=hS.toRow (k:=1) (m:=1) 8 rfl (by simp) (by decide);replace hS:=hS.toRow (k:=1) (m:=1) 9 rfl (by simp) (by decide);replace hS:=hS.order [0,3,10,5,6,1,11,7,8,9,4,2] (by kernel_rfl);simp only [List.set_cons_succ,List.set_cons_zero,List.filterMap_cons,List.getElem?_cons_zero,List.getElem?_cons_succ,List.filterMap_nil] at hS;rw [← lft_zero] at hS;have e1:iv [(-1:Int)]=[.int .i64 (-1)]:=rfl;rw [← e1] at hS;clear e1
 go_wp2_with (with_reducible refine ldB 2 hS isAgg22 ?_)
 try try simp only [NRG]
 go_loopw [40] (fun v40 wr=>∃ k:Nat,k≤M∧v40=.int .i64 (k:Int)∧Heap (nd w) wr [.frz F1 wc,.row (.slice (some ⟨g,0,none⟩) M c) 3 1 M (iv (zs x.N)),.blk f6 (.cells #[.slice (some ⟨g,0,none⟩) M c,.slice (some ⟨g2,0,none⟩) M M,.slice (some ⟨o2,0,none⟩) 1 1,.slice (some ⟨i3,0,none⟩) 1 1,.slice (some ⟨a5,0,none⟩) 1 1] 37 (0,0)),.blk b4 (.cells #[.slice (some ⟨g,0,none⟩) M c] 22 (0,0)),.row (.slice (some ⟨g2,0,none⟩) M M) 3 1 M (iv ((lft M k))),.blk bx (.cells #[.slice a1 n1 c1,.slice a2 n2 c2,.slice a3 V.length c3,.slice a4 es.length c4] 34 (0,0)),.row (.slice (some ⟨gr,0,none⟩) V.length cr) 3 1 V.length (iv (zs x.root)),.row (.slice (some ⟨o2,0,none⟩) 1 1) 3 1 (1) (iv ([-1])),.row (.slice (some ⟨i3,0,none⟩) 1 1) 22 1 (1) ([.slice none 0 0]),.row (.slice (some ⟨a5,0,none⟩) 1 1) 22 1 (1) ([.slice none 0 0]),.blk bm o,.blk br (.cells #[.slice none 0 0,.slice none 0 0,.slice none 0 0,.slice none 0 0,.slice none 0 0] 37 (0,0))]) (fun v40 _=>M - (intOf v40).toNat)
 case atStart=>exact⟨0,by omega,rfl,hS⟩
 case round =>
  clear hS;obtain⟨k,hk,rfl,hS⟩:=hrel
  by_cases hkl:k<M
  ·have hst:=Hd (lft_succ hkl)
   go_wp2_with (with_reducible first|refine ldB 2 hS isAgg22 ?_|refine ixS underlying22 sizeOf3 ?_|refine stR 4 hS sizeOf3 fun _ hS=>?_)
   rw [hst.out] at hS;go_roundw
   case rel=>exact⟨k+1,by omega,by simp,hS⟩
   case measure=>simp [intOf];omega
  ·obtain rfl:M=k:=by omega
   rw [lft_end,← hNl.out,← FI.L1_nil,hNl.out] at hS;clear hk hkl
   go_wp2_with (first|((with_reducible refine g_mm (T:=133) ?_);refine seq_makeMap hS (fun bc wbc hS=>?_);simp only [NRM];simp only [NRH] at hS)|((with_reducible refine g_rng (T:=159) ?_);refine seq_range 10 hS underlying159 rfl rfl (by with_reducible assumption) rfl (fun bi obi wbi hit hS=>?_);simp only [NRM];simp only [NRH] at hS))
   try try simp only [NRG]
   have hnm:=Hd (x.named_nil);have hmc:MapIs ik ik (.map #[] 0) []:=MapIs.empty _ _
   go_loopw [53] (fun _ wx=>∃ (d:List (Int × (Option Addr × Nat × Nat))) (oi oc:Obj) (lc:List (Int × Int)),ItIs ik sv bm o oi l d∧MapIs ik ik oc lc∧Hid (x.named (d.map fun p=>p.1.toNat) lc)∧Heap (nd w) wx [.frz F1 wc,.row (.slice (some ⟨g,0,none⟩) M c) 3 1 M (iv (zs x.N)),.blk f6 (.cells #[.slice (some ⟨g,0,none⟩) M c,.slice (some ⟨g2,0,none⟩) M M,.slice (some ⟨o2,0,none⟩) 1 1,.slice (some ⟨i3,0,none⟩) 1 1,.slice (some ⟨a5,0,none⟩) 1 1] 37 (0,0)),.blk b4 (.cells #[.slice (some ⟨g,0,none⟩) M c] 22 (0,0)),.row (.slice (some ⟨g2,0,none⟩) M M) 3 1 M (iv ((x.L1 (d.map fun p=>p.1.toNat)))),.blk bx (.cells #[.slice a1 n1 c1,.slice a2 n2 c2,.slice a3 V.length c3,.slice a4 es.length c4] 34 (0,0)),.row (.slice (some ⟨gr,0,none⟩) V.length cr) 3 1 V.length (iv (zs x.root)),.row (.slice (some ⟨o2,0,none⟩) 1 1) 3 1 (1) (iv ([-1])),.row (.slice (some ⟨i3,0,none⟩) 1 1) 22 1 (1) ([.slice none 0 0]),.row (.slice (some ⟨a5,0,none⟩) 1 1) 22 1 (1) ([.slice none 0 0]),.blk bm o,.blk br (.cells #[.slice none 0 0,.slice none 0 0,.slice none 0 0,.slice none 0 0,.slice none 0 0] 37 (0,0)),.blk bc oc,.blk bi oi]) (fun _ wx=>l.length - itSize wx bi)
   case atStart=>exact⟨[],_,_,[],hit,hmc,hnm,hS⟩
   case round =>
    clear hS hit hmc hnm;obtain⟨d,oi,oc,lc,hit,hmc,hnm,hS⟩:=hrel;have hsz:=itSize_eq hit (hS.blk (b:=bi) (o:=oi) (by simp));have hdl:=itLen hit
    repeat ((fail_if_success ((with_reducible refine g_nxt ?_)));go_step)
    ((with_reducible refine g_nxt ?_);refine seq_next 10 13 hS rfl rfl rfl (by with_reducible assumption) rfl (fun hover=>?_) (fun kk vv oi' w' hkl hkd hit' hS=>?_) <;> (simp only [NRM];try simp only [NRH] at hS))
    ·have hkeys:=hAM.over hover (x:=x) (by rw [hxn.out,hRl.out]) hxh.out
     rw [x.L1_mem hkeys] at hS;have hnm2:=Hd (x.named_mem hkeys hnm.out);replace hS:=hS.order [0,1,2,3,4,5,6,7,8,9,10,11,12,13] (by kernel_rfl);have hS:=hS.sub (H':=[.frz F1 wc,.row (.slice (some ⟨g,0,none⟩) M c) 3 1 M (iv (zs x.N)),.blk f6 (.cells #[.slice (some ⟨g,0,none⟩) M c,.slice (some ⟨g2,0,none⟩) M M,.slice (some ⟨o2,0,none⟩) 1 1,.slice (some ⟨i3,0,none⟩) 1 1,.slice (some ⟨a5,0,none⟩) 1 1] 37 (0,0)),.blk b4 (.cells #[.slice (some ⟨g,0,none⟩) M c] 22 (0,0)),.row (.slice (some ⟨g2,0,none⟩) M M) 3 1 M (iv ((x.L1 x.keys))),.blk bx (.cells #[.slice a1 n1 c1,.slice a2 n2 c2,.slice a3 V.length c3,.slice a4 es.length c4] 34 (0,0)),.row (.slice (some ⟨gr,0,none⟩) V.length cr) 3 1 V.length (iv (zs x.root)),.row (.slice (some ⟨o2,0,none⟩) 1 1) 3 1 (1) (iv ([-1])),.row (.slice (some ⟨i3,0,none⟩) 1 1) 22 1 (1) ([.slice none 0 0]),.row (.slice (some ⟨a5,0,none⟩) 1 1) 22 1 (1) ([.slice none 0 0]),.blk bm o,.blk br (.cells #[.slice none 0 0,.slice none 0 0,.slice none 0 0,.slice none 0 0,.slice none 0 0] 37 (0,0)),.blk bc oc]) (by repeat (first|exact List.Sublist.refl _|apply List.Sublist.cons_cons|apply List.Sublist.cons));clear hit hnm hsz hdl hover hkeys
     go_wp2_with (with_reducible refine ldB 2 hS isAgg22 ?_)
     go_loopw [72] (fun v72 wx=>∃ (h:Nat) (ado adi ada:Option Addr) (co ci ca:Nat),h≤M∧v72=.int .i64 (h:Int)∧Heap (nd w) wx [.frz F1 wc,.row (.slice (some ⟨g,0,none⟩) M c) 3 1 M (iv (zs x.N)),.blk f6 (.cells #[.slice (some ⟨g,0,none⟩) M c,.slice (some ⟨g2,0,none⟩) M M,.slice ado (x.ph2 h).2.length co,.slice adi (x.ph2 h).2.length ci,.slice ada (x.ph2 h).2.length ca] 37 (0,0)),.blk b4 (.cells #[.slice (some ⟨g,0,none⟩) M c] 22 (0,0)),.row (.slice (some ⟨g2,0,none⟩) M M) 3 1 M (iv ((x.ph2 h).1)),.blk bx (.cells #[.slice a1 n1 c1,.slice a2 n2 c2,.slice a3 V.length c3,.slice a4 es.length c4] 34 (0,0)),.row (.slice (some ⟨gr,0,none⟩) V.length cr) 3 1 V.length (iv (zs x.root)),.row (.slice ado (x.ph2 h).2.length co) 3 1 ((x.ph2 h).2.length) (iv ((x.ph2 h).2)),.row (.slice adi (x.ph2 h).2.length ci) 22 1 ((x.ph2 h).2.length) ((List.replicate (x.ph2 h).2.length (.slice none 0 0))),.row (.slice ada (x.ph2 h).2.length ca) 22 1 ((x.ph2 h).2.length) ((List.replicate (x.ph2 h).2.length (.slice none 0 0))),.blk bm o,.blk br (.cells #[.slice none 0 0,.slice none 0 0,.slice none 0 0,.slice none 0 0,.slice none 0 0] 37 (0,0)),.blk bc oc]) (fun v72 _=>M - (intOf v72).toNat)
     case atStart=>exact⟨0,some ⟨o2,0,none⟩,some ⟨i3,0,none⟩,some ⟨a5,0,none⟩,1,1,1,by omega,rfl,hS⟩
     case round =>
      clear hS;obtain⟨h,ado,adi,ada,co,ci,ca,hh,rfl,hS⟩:=hrel;have p2:=hxk.ph2 h (by rw [hNl.out];exact hh);have hLl:=p2.len.trans hNl.out;have hmany:=p2.many;have hpos:=p2.pos;have hstep:x.ph2 (h+1)=if nth 0 (x.ph2 h).1 h = -1 then (setAll (x.ph2 h).1 (orb x.N h) (x.ph2 h).2.length,(x.ph2 h).2++[(leastF x.N h:Int)]) else x.ph2 h:=rfl
      by_cases hhl:h<M
      ·obtain⟨P,hP⟩:∃ P,x.ph2 h=P:=⟨_,rfl⟩
       rw [hP] at hS hLl hmany hpos hstep;obtain⟨L,O⟩:=P;simp only at hS hLl hmany hpos hstep;clear hP p2
       by_cases h1:nth 0 L h = -1
       ·rw [if_pos h1] at hstep
        have hq:(nth 0 L h == -1)=true:=by rw [h1];rfl
        replace h1:=Hd h1;replace hstep:=Hd hstep
        go_wp2_with (with_reducible first|refine ldB 2 hS isAgg22 ?_|refine ixS underlying22 sizeOf3 ?_|refine ldR 4 hS isAgg3 ?_)
        refine wp_region_sched2 [.p 0,.r 1,.p 2,.p 3,.p 4,.r 5,.p 6,.e 7,.e 8,.m 9,.p 10,.m 11] [9,11] (fun w'=>Heap (nd w) w' [.frz F1 wc,.row (.slice (some ⟨g,0,none⟩) M c) 3 1 M (iv (zs x.N)),.blk f6 (.cells #[.slice (some ⟨g,0,none⟩) M c,.slice (some ⟨g2,0,none⟩) M M,.slice ado O.length co,.slice adi O.length ci,.slice ada O.length ca] 37 (0,0)),.blk b4 (.cells #[.slice (some ⟨g,0,none⟩) M c] 22 (0,0))]) (fun w'=>Heap (nd w) w' _) (by kernel_rfl) (by kernel_rfl) hS.drew (fun _ hZ=>Heap.sub hZ (by repeat (first|exact List.Sublist.refl _|apply List.Sublist.cons_cons|apply List.Sublist.cons))) (fun w1 hS=>?_)
        repeat (with_reducible first|refine sldB 2 isAgg22 ?_|refine spL ?_)
        refine exL ?_
        go_wp2_with (fail)
        refine (paint_at hxk.perm hNl.out hhl (by omega) L hLl (O.length:Int) f6 b4 g2 M c g _ _ _ hS).mono ?_;rintro e w2 ⟨rfl,hS2⟩;clear hS;have hS:=hS2;clear hS2;simp only [];go_step;refine ext_end hS.sb ?_;refine exL ?_
        ((with_reducible refine g_bs (T:=22) ?_);refine seq_bs1 (T:=22) (v:=.int .i64 _) hS underlying22 sizeOf3 zeroValue3 rfl rfl rfl (by decide) (by decide) rfl (fun _ _ hS=>?_);simp only [NRM];simp only [Value.cells] at hS)
        refine ext_end hS.sb ?_;refine muL ?_
        ((with_reducible refine g_app ?_);refine seq_append_lit (t:=22) 7 hS underlying22 infoInt rfl (by decide) rfl rfl rfl rfl (by simp [Value.oneCell']) (by omega) (by unfold maxLen;omega) (fun ad2 cp2 _ hS=>?_);simp only [NRM];simp only [NRH] at hS)
        refine mut_end ?_;refine mvs ?_;refine muL ?_
        (with_reducible refine stA 2 hS sizeOf22 fun _ hS=>?_)
        refine mut_end ?_;refine mvs ?_;refine snL ?_;go_wp2;apply wp_region_ap2 (.fork [.p 0,.r 1,.p 4,.r 5] 2 (.fork [] 3 (.line [.p 8,.e 6,.e 7,.m 9,.p 10,.m 11]) 6 (.line [.e 3,.p 8,.e 7,.m 9,.p 10,.m 11])) 6 (.line [.e 2,.e 3,.p 8,.e 7,.m 9,.p 10,.m 11])) [9,11] (fun w'=>Heap (nd w) w' [.frz F1 wc,.row (.slice (some ⟨g,0,none⟩) M c) 3 1 M (iv (zs x.N)),.blk f6 (.cells #[.slice (some ⟨g,0,none⟩) M c,.slice (some ⟨g2,0,none⟩) M M,.slice ad2 (O.length+1) cp2,.slice adi O.length ci,.slice ada O.length ca] 37 (0,0)),.blk b4 (.cells #[.slice (some ⟨g,0,none⟩) M c] 22 (0,0))]) (fun w'=>Heap (nd w) w' _) (by kernel_rfl) (by kernel_rfl) hS.drew (fun _ hZ=>Heap.sub hZ (by repeat (first|exact List.Sublist.refl _|apply List.Sublist.cons_cons|apply List.Sublist.cons))) (fun ai2 ci2 aa2 ca2 w'=>Heap (nd w) w' [.frz F1 wc,.row (.slice (some ⟨g,0,none⟩) M c) 3 1 M (iv (zs x.N)),.blk f6 (.cells #[.slice (some ⟨g,0,none⟩) M c,.slice (some ⟨g2,0,none⟩) M M,.slice ad2 (O.length+1) cp2,.slice ai2 (O.length+1) ci2,.slice aa2 (O.length+1) ca2] 37 (0,0)),.blk b4 (.cells #[.slice (some ⟨g,0,none⟩) M c] 22 (0,0)),.row (.slice (some ⟨g2,0,none⟩) M M) 3 1 M (iv ((setAll L (orb x.N h) (O.length:Int)))),.blk bx (.cells #[.slice a1 n1 c1,.slice a2 n2 c2,.slice a3 V.length c3,.slice a4 es.length c4] 34 (0,0)),.row (.slice (some ⟨gr,0,none⟩) V.length cr) 3 1 V.length (iv (zs x.root)),.row (.slice ad2 (O.length+1) cp2) 3 1 ((O.length+1)) (iv ((O++[(leastF x.N h:Int)]))),.row (.slice ai2 (O.length+1) ci2) 22 1 ((O.length+1)) ((List.replicate O.length (Value.slice none 0 0)++[Value.slice none 0 0])),.row (.slice aa2 (O.length+1) ca2) 22 1 ((O.length+1)) ((List.replicate O.length (Value.slice none 0 0)++[Value.slice none 0 0])),.blk bm o,.blk br (.cells #[.slice none 0 0,.slice none 0 0,.slice none 0 0,.slice none 0 0,.slice none 0 0] 37 (0,0)),.blk bc oc])
        case h =>
         intro hR w3 hS;refine tr_fork ?_
         repeat (with_reducible first|refine sldB 2 isAgg35 ?_|refine spL ?_)
         refine sched_nil ?_;simp only [NoPanic,WithK];refine⟨?_,?_⟩
         ·skip
          refine fork_op rfl ?_
          ((with_reducible refine g_bs (T:=35) ?_);refine seq_bs1 (T:=35) (v:=.slice none 0 0) hS underlying35 sizeOf22 zeroValue22 rfl rfl rfl (by decide) (by decide) rfl (fun l1 wl1 hS=>?_);simp only [NRM];simp only [Value.cells] at hS)
          refine ext_end hS.sb ?_;refine tr_fork ?_;refine mvs ?_;refine sched_nil ?_;simp only [NoPanic,WithK];refine⟨?_,?_⟩
          ·skip
           refine fork_op rfl ?_
           ((with_reducible refine g_app ?_);refine seq_append_lit (t:=35) 8 hS underlying35 infoRI rfl (by decide) rfl rfl rfl rfl (by simp [Value.oneCell']) (by omega) (by unfold maxLen;omega) (fun ad4 cp4 _ hS=>?_);simp only [NRM];simp only [NRH] at hS)
           refine ext_end hS.sb ?_;refine tr_line ?_;refine mvs ?_;refine exL ?_
           ((with_reducible refine g_bs (T:=35) ?_);refine seq_bs1 (T:=35) (v:=.slice none 0 0) hS underlying35 sizeOf22 zeroValue22 rfl rfl rfl (by decide) (by decide) rfl (fun l2 wl2 hS=>?_);simp only [NRM];simp only [Value.cells] at hS)
           refine ext_end hS.sb ?_;refine exL ?_
           ((with_reducible refine g_app ?_);refine seq_append_lit (t:=35) 9 hS underlying35 infoRI rfl (by decide) rfl rfl rfl rfl (by simp [Value.oneCell']) (by omega) (by unfold maxLen;omega) (fun ad5 cp5 _ hS=>?_);simp only [NRM];simp only [NRH] at hS)
           refine ext_end hS.sb ?_;refine mvs ?_;refine muL ?_
           (with_reducible refine stA 2 hS sizeOf35 fun _ hS=>?_)
           refine mut_end ?_;refine mvs ?_;refine muL ?_
           (with_reducible refine stA 2 hS sizeOf35 fun _ hS=>?_)
           refine mut_end ?_;refine mvs ?_;refine snL ?_;exact hR l1 l2 _ _ _ _ _ hS
          ·skip
           refine fork_op rfl ?_
           ((with_reducible refine g_bs (T:=35) ?_);refine seq_bs1 (T:=35) (v:=.slice none 0 0) hS underlying35 sizeOf22 zeroValue22 rfl rfl rfl (by decide) (by decide) rfl (fun l2 wl2 hS=>?_);simp only [NRM];simp only [Value.cells] at hS)
           refine ext_end hS.sb ?_;replace hS:=hS.swap2;refine tr_line ?_;refine exL ?_
           ((with_reducible refine g_app ?_);refine seq_append_lit (t:=35) 8 hS underlying35 infoRI rfl (by decide) rfl rfl rfl rfl (by simp [Value.oneCell']) (by omega) (by unfold maxLen;omega) (fun ad4 cp4 _ hS=>?_);simp only [NRM];simp only [NRH] at hS)
           refine ext_end hS.sb ?_;replace hS:Heap _ _ ([_,_,_,_,_,_,_,_,_,_,_,_,_]++[_]):=hS;refine mvs ?_;refine exL ?_
           ((with_reducible refine g_app ?_);refine seq_append_lit (t:=35) 9 hS underlying35 infoRI rfl (by decide) rfl rfl rfl rfl (by simp [Value.oneCell']) (by omega) (by unfold maxLen;omega) (fun ad5 cp5 _ hS=>?_);simp only [NRM];simp only [NRH] at hS)
           refine ext_end hS.sb ?_;refine mvs ?_;refine muL ?_
           (with_reducible refine stA 2 hS sizeOf35 fun _ hS=>?_)
           refine mut_end ?_;refine mvs ?_;refine muL ?_
           (with_reducible refine stA 2 hS sizeOf35 fun _ hS=>?_)
           refine mut_end ?_;refine mvs ?_;refine snL ?_;exact hR l1 l2 _ _ _ _ _ hS
         ·skip
          refine fork_op rfl ?_
          ((with_reducible refine g_bs (T:=35) ?_);refine seq_bs1 (T:=35) (v:=.slice none 0 0) hS underlying35 sizeOf22 zeroValue22 rfl rfl rfl (by decide) (by decide) rfl (fun l2 wl2 hS=>?_);simp only [NRM];simp only [Value.cells] at hS)
          refine ext_end hS.sb ?_;refine tr_line ?_;refine exL ?_
          ((with_reducible refine g_bs (T:=35) ?_);refine seq_bs1 (T:=35) (v:=.slice none 0 0) hS underlying35 sizeOf22 zeroValue22 rfl rfl rfl (by decide) (by decide) rfl (fun l1 wl1 hS=>?_);simp only [NRM];simp only [Value.cells] at hS)
          refine ext_end hS.sb ?_;refine exL ?_
          ((with_reducible refine g_app ?_);refine seq_append_lit (t:=35) 8 hS underlying35 infoRI rfl (by decide) rfl rfl rfl rfl (by simp [Value.oneCell']) (by omega) (by unfold maxLen;omega) (fun ad4 cp4 _ hS=>?_);simp only [NRM];simp only [NRH] at hS)
          refine ext_end hS.sb ?_;replace hS:Heap _ _ ([_,_,_,_,_,_,_,_,_,_,_,_,_]++[_]):=hS;refine mvs ?_;refine exL ?_
          ((with_reducible refine g_app ?_);refine seq_append_lit (t:=35) 9 hS underlying35 infoRI rfl (by decide) rfl rfl rfl rfl (by simp [Value.oneCell']) (by omega) (by unfold maxLen;omega) (fun ad5 cp5 _ hS=>?_);simp only [NRM];simp only [NRH] at hS)
          refine ext_end hS.sb ?_;refine mvs ?_;refine muL ?_
          (with_reducible refine stA 2 hS sizeOf35 fun _ hS=>?_)
          refine mut_end ?_;refine mvs ?_;refine muL ?_
          (with_reducible refine stA 2 hS sizeOf35 fun _ hS=>?_)
          refine mut_end ?_;refine mvs ?_;refine snL ?_;exact hR l1 l2 _ _ _ _ _ hS
        clear hS;intro l1 l2 ai2 ci2 aa2 ca2 w4 hS;have hlen:(O++[(leastF x.N h:Int)]).length=O.length+1:=by simp
        have hrep:List.replicate O.length (Value.slice none 0 0)++[.slice none 0 0]=List.replicate (O.length+1) (.slice none 0 0):=List.replicate_succ'.symm;rw [hrep,← hlen] at hS;replace hlen:=Hd hlen;replace hrep:=Hd hrep;simp only [Exit.inBlock,Exit.then];go_wp2;go_roundw
        case rel =>
         exact⟨h+1,ad2,ai2,aa2,cp2,ci2,ca2,by omega,by simp,by rw [hstep.out];exact hS⟩
        case measure=>simp [intOf];omega
       ·rw [if_neg h1] at hstep
        have hq:(nth 0 L h == -1)=false:=by simpa using h1
        replace h1:=Hd h1;replace hstep:=Hd hstep
        go_wp2_with (with_reducible first|refine ldB 2 hS isAgg22 ?_|refine ixS underlying22 sizeOf3 ?_|refine ldR 4 hS isAgg3 ?_)
        go_roundw
        case rel=>exact⟨h+1,ado,adi,ada,co,ci,ca,by omega,by simp,by rw [hstep.out];exact hS⟩
        case measure=>simp [intOf];omega
      ·obtain rfl:M=h:=by omega
       have e1:x.ph2 M=(x.L2,x.O):=by rw [← hNl.out];rfl
       rw [e1] at hS;have hpos:0<x.O.length:=by rw [e1] at hpos;exact hpos
       have hmany:x.O.length≤M+1:=by rw [e1] at hmany;exact hmany
       obtain⟨k,hk⟩:∃ k,x.O.length=k:=⟨_,rfl⟩;simp only at hS;rw [hk] at hS hpos hmany;obtain⟨go,rfl⟩:=hS.rowPtr 7 rfl hpos;obtain⟨gi,rfl⟩:=hS.rowPtr 8 rfl hpos;obtain⟨ga,rfl⟩:=hS.rowPtr 9 rfl hpos;replace hS:=(hS.addNils 3 k).addNils 3 k;rw [← oc_nil] at hS;obtain⟨oc1,rfl⟩:∃ q,q=oc:=⟨_,rfl⟩;rw [List.append_assoc] at hS;replace hS:Heap (nd w) _ (.frz F1 wc::.row (.slice (some ⟨g,0,none⟩) M c) 3 1 M (iv (zs x.N))::.blk f6 (.cells #[.slice (some ⟨g,0,none⟩) M c,.slice (some ⟨g2,0,none⟩) M M,.slice (some ⟨go,0,none⟩) k co,.slice (some ⟨gi,0,none⟩) k ci,.slice (some ⟨ga,0,none⟩) k ca] 37 (0,0))::.blk b4 (.cells #[.slice (some ⟨g,0,none⟩) M c] 22 (0,0))::.row (.slice (some ⟨g2,0,none⟩) M M) 3 1 M (iv (x.L2))::.blk bx (.cells #[.slice a1 n1 c1,.slice a2 n2 c2,.slice a3 V.length c3,.slice a4 es.length c4] 34 (0,0))::.row (.slice (some ⟨gr,0,none⟩) V.length cr) 3 1 V.length (iv (zs x.root))::.row (.slice (some ⟨go,0,none⟩) k co) 3 1 k (iv x.O)::.row (.slice (some ⟨gi,0,none⟩) k ci) 22 1 k (oc (List.replicate k nilRow))::.row (.slice (some ⟨ga,0,none⟩) k ca) 22 1 k (oc (List.replicate k nilRow))::.blk bm o::.blk br (.cells #[.slice none 0 0,.slice none 0 0,.slice none 0 0,.slice none 0 0,.slice none 0 0] 37 (0,0))::.blk bc oc1::((List.replicate k nilRow).map (ORow.ch 3)++(List.replicate k nilRow).map (ORow.ch 3))):=hS;have h30:x.ph3 0=⟨x.L2,List.replicate k [],List.replicate k []⟩:=by rw [← hk];rfl
       clear e1 hh hhl hLl p2 hstep;replace hk:=Hd hk;have hr0:∀ r ∈ List.replicate k nilRow,r.n≤0:=fun r hr=>by rw [(List.mem_replicate.1 hr).2];exact Nat.le_refl _
       go_wp2_with (with_reducible refine ldB 5 hS isAgg31 ?_)
       go_loopw [106] (fun v106 wx=>∃ (v:Nat) (RI RA:List ORow),v≤V.length∧v106=.int .i64 (v:Int)∧RI.length=k∧RA.length=k∧Hid (ois RI=(x.ph3 v).I)∧Hid (ois RA=(x.ph3 v).A)∧Hid (∀ r ∈ RI,r.n≤v)∧Hid (∀ r ∈ RA,r.n≤v)∧Heap (nd w) wx (.frz F1 wc::.row (.slice (some ⟨g,0,none⟩) M c) 3 1 M (iv (zs x.N))::.blk f6 (.cells #[.slice (some ⟨g,0,none⟩) M c,.slice (some ⟨g2,0,none⟩) M M,.slice (some ⟨go,0,none⟩) k co,.slice (some ⟨gi,0,none⟩) k ci,.slice (some ⟨ga,0,none⟩) k ca] 37 (0,0))::.blk b4 (.cells #[.slice (some ⟨g,0,none⟩) M c] 22 (0,0))::.row (.slice (some ⟨g2,0,none⟩) M M) 3 1 M (iv ((x.ph3 v).L))::.blk bx (.cells #[.slice a1 n1 c1,.slice a2 n2 c2,.slice a3 V.length c3,.slice a4 es.length c4] 34 (0,0))::.row (.slice (some ⟨gr,0,none⟩) V.length cr) 3 1 V.length (iv (zs x.root))::.row (.slice (some ⟨go,0,none⟩) k co) 3 1 k (iv x.O)::.row (.slice (some ⟨gi,0,none⟩) k ci) 22 1 k (oc (RI))::.row (.slice (some ⟨ga,0,none⟩) k ca) 22 1 k (oc (RA))::.blk bm o::.blk br (.cells #[.slice none 0 0,.slice none 0 0,.slice none 0 0,.slice none 0 0,.slice none 0 0] 37 (0,0))::.blk bc oc1::((RI).map (ORow.ch 3)++(RA).map (ORow.ch 3)))) (fun v106 _=>V.length - (intOf v106).toNat)
       case atStart=>exact⟨0,_,_,by omega,rfl,by simp,by simp,Hd (by rw [h30,ois_nil]),Hd (by rw [h30,ois_nil]),Hd hr0,Hd hr0,by rw [h30];exact hS⟩
       case round =>
        clear hS h30 hr0;obtain⟨v,RI,RA,hv,rfl,hRI,hRA,hoI,hoA,hnI,hnA,hS⟩:=hrel;have hrl2:=hrl.out;have p3:=hxk.ph3 v (by rw [hxn.out];exact hv);have hLl:=p3.len.trans hNl.out;have hst:x.ph3 (v+1)=x.step3 (x.ph3 v) v:=rfl
        by_cases hvl:v<V.length
        ·obtain⟨f,hf,hfe⟩:=hxk.face_ok (by rw [hxn.out];exact hvl) p3
         rw [hk.out] at hf;obtain⟨s,hs⟩:∃ s,x.ph3 v=s:=⟨_,rfl⟩;rw [hs] at hS hLl hst hoI hoA hfe p3;obtain⟨L,I,A⟩:=s;simp only at hS hLl hoI hoA hfe;clear hs p3
         by_cases hr:nth 0 x.root v=v
         ·have hq:(nth 0 (zs x.root) v != (v:Int))=false:=by rw [nth_zs,hr];simp
          have hq2:(nth 0 (zs x.root) v == (v:Int))=true:=by rw [nth_zs,hr];simp
          unfold FI.step3 at hst;rw [if_pos hr] at hst;replace hr:=Hd hr;replace hst:=Hd hst
          go_wp2_with (with_reducible first|refine ixS underlying22 sizeOf3 ?_|refine ldR 6 hS isAgg3 ?_|refine ldA 5 hS isAgg34 sizeOf34 ?_)
          refine (below_any a1 a2 a3 a4 n1 c1 n2 c2 V.length c3 es.length c4 rs es prs V m v _ S1 (hA1.at hS hF1) hm hvl (by omega) (by omega)).mono ?_;rintro e w1 ⟨rfl,hpq⟩;replace hS:=hS.belowD (nd_drawn w) hpq.below;clear hpq;have hbx:=hxb.out v;unfold belO at hbx;unfold FI.face at hfe hst;rw [hbx] at hfe;have hstq:=hst.out;rw [hbx] at hstq;clear hst;have hbl:=belTo_lt V es v es.length;obtain⟨B,hB⟩:∃ B,belTo V es v es.length=B:=⟨_,rfl⟩;rw [hB] at hbl hbx hfe hstq;rw [hB];replace hB:=Hd hB;clear hbx;simp only []
          by_cases hB0:B<0
          ·rw [if_pos hB0] at hfe hstq
           have d1:decide (0≤B)=false:=by simp;omega
           simp only at hfe hstq;obtain rfl:f=0:=by omega
           simp only [Int.toNat_zero] at hstq;clear hfe;have hkm:v ∈ x.keys↔x.hasE v=true:=by unfold FI.keys;rw [List.mem_filter,List.mem_range,hxn.out];exact⟨fun h=>h.2,fun h=>⟨hvl,h⟩⟩
           have hlk:=hnm2.out v
           by_cases he:x.hasE v=true
           ·have hol:=hxk.out_lt v (by rw [hxn.out];exact hvl) he
            have hsa:=setAll_orb hxk.perm hol L (by rw [hLl,hNl.out]) (0);have hll:=leastF_lt hxk.perm hol;rw [hNl.out] at hol hll;rw [if_pos ⟨hkm.2 he,hr.out⟩] at hlk;rw [if_pos he] at hstq;obtain⟨y,hy⟩:∃ y,leastF x.N (x.out v)=y:=⟨_,rfl⟩;rw [hy] at hsa hll hlk hstq;have hll2:leastF x.N y=y:=by rw [← hy];exact least_least hxk.perm (by rw [hNl.out];exact hol)
            have hrc:=oc_at (R:=RI) (i:=0) (by omega);have hrn:=hnI.out (nth or0 RI 0) (nth_mem or0 RI 0 (by omega));replace hsa:=Hd hsa;replace hstq:=Hd hstq;replace hy:=Hd hy;replace he:=Hd he;replace hll2:=Hd hll2;clear hkm
            go_wp2_with (first|((with_reducible refine g_look2 (T:=133) ?_);refine seq_of hS rfl (stp_lookup_ok (ev:=ik) (k:=(v:Int)) (z:=(0:Int)) 12 underlying133 zeroValue3 (keyOk_int underlying3) rfl rfl rfl hmc ?_);simp only [NRM];simp only [ik])|fail)
            refine (paint_at hxk.perm hNl.out hll (by omega) L hLl (0) f6 b4 g2 M c g _ _ _ hS).mono ?_;rintro e2 w2 ⟨rfl,hS2⟩;clear hS;have hS:=hS2;clear hS2;rw [hsa.out] at hS;simp only [];go_wp2;refine wp_region_sched2 [.p 0,.r 1,.p 2,.p 3,.r 4,.p 5,.p 6,.r 7,.p 8,.e 9,.e 10,.p 11,.m 12] [12] (fun w'=>Heap (nd w) w' (.frz F1 wc::.row (.slice (some ⟨g,0,none⟩) M c) 3 1 M (iv (zs x.N))::.blk f6 (.cells #[.slice (some ⟨g,0,none⟩) M c,.slice (some ⟨g2,0,none⟩) M M,.slice (some ⟨go,0,none⟩) k co,.slice (some ⟨gi,0,none⟩) k ci,.slice (some ⟨ga,0,none⟩) k ca] 37 (0,0))::.blk b4 (.cells #[.slice (some ⟨g,0,none⟩) M c] 22 (0,0))::.row (.slice (some ⟨g2,0,none⟩) M M) 3 1 M (iv (setAll L (orb x.N (x.out v)) (0)))::.blk bx (.cells #[.slice a1 n1 c1,.slice a2 n2 c2,.slice a3 V.length c3,.slice a4 es.length c4] 34 (0,0))::.row (.slice (some ⟨gr,0,none⟩) V.length cr) 3 1 V.length (iv (zs x.root))::.row (.slice (some ⟨go,0,none⟩) k co) 3 1 k (iv x.O)::.row (.slice (some ⟨gi,0,none⟩) k ci) 22 1 k (oc (RI))::[])) (fun w'=>Heap (nd w) w' _) (by kernel_rfl) (by kernel_rfl) hS.drew (fun _ hZ=>Heap.sub hZ (by repeat (first|apply List.Sublist.cons_cons|apply List.Sublist.cons|exact List.nil_sublist _))) (fun w1 hS=>?_)
            repeat (first|(with_reducible refine sldB 2 isAgg35 ?_)|((with_reducible refine m_pure ?_);refine sched_any rfl rfl (any_index_at (T:=35) underlying35 sizeOf22 rfl rfl (by omega) (by omega) ?_);simp only [NRM];simp only [Nat.zero_add,Int.toNat_natCast])|((with_reducible refine m_read ?_);refine sched_of rfl rfl (stp_load_rowc (T:=22) 8 isAgg22 rfl rfl hrc ?_);simp only [NRM])|(with_reducible refine spL ?_))
            refine exL ?_
            ((with_reducible refine g_bs (T:=22) ?_);refine seq_bs1 (T:=22) (v:=.int .i64 _) hS underlying22 sizeOf3 zeroValue3 rfl rfl rfl (by decide) (by decide) rfl (fun lb wlb hS=>?_);simp only [NRM];simp only [Value.cells] at hS)
            refine ext_end hS.sb ?_;refine exL ?_
            ((with_reducible refine g_app ?_);refine seq_append_in1 (H0:=[_,_,_,_,_,_,_,_,_,_,_,_,_]) (RI:=RI) (RA:=RA) hS underlying22 infoInt (by omega) rfl rfl (by omega) (fun ad2 cp2 _ hS=>?_);simp only [NRM];simp only [NRH] at hS)
            refine ext_end hS.sb ?_
            repeat (first|((with_reducible refine m_pure ?_);refine sched_any rfl rfl (any_index_at (T:=35) underlying35 sizeOf22 rfl rfl (by omega) (by omega) ?_);simp only [NRM];simp only [Nat.zero_add,Int.toNat_natCast]))
            refine muL ?_
            ((with_reducible refine g_store (T:=22) ?_);refine seq_store_rowc (T:=22) (v:=.slice _ _ _) 8 hS rfl rfl rfl (by rw [oc_length];omega) sizeOf22 rfl rfl (fun _ hS=>?_);simp only [NRM];simp only [NRH] at hS)
            refine mut_end ?_;refine snL ?_;obtain⟨r2,hr2⟩:∃ r2:ORow,r2=⟨(nth or0 RI 0).k,ad2,(nth or0 RI 0).n+1,cp2,(nth or0 RI 0).is++[y]⟩:=⟨_,rfl⟩;have hoc:(oc RI).set 0 (.slice ad2 ((nth or0 RI 0).n+1) cp2)=oc (RI.set 0 r2):=by rw [oc_set,hr2]
            rw [hoc,← hr2] at hS;have hr3:r2.is=(nth or0 RI 0).is++[y]:=by rw [hr2]
            have hr4:r2.n=(nth or0 RI 0).n+1:=by rw [hr2]
            have hoI2:=ois_add (R:=RI) hr3;rw [hoI.out] at hoI2
            have hnI2:∀ r ∈ RI.set 0 r2,r.n≤v+1:=fun r hr=>by
             rcases List.mem_or_eq_of_mem_set hr with h|h
             ·exact Nat.le_succ_of_le (hnI.out r h)
             ·rw [h,hr4];omega
            replace hoI2:=Hd hoI2;replace hnI2:=Hd hnI2;clear hoc hr2 hr3 hr4 hrc;go_wp2;go_roundw
            case rel =>
             exact⟨v+1,_,RA,by omega,by simp,by rw [List.length_set];exact hRI,hRA,by rw [hstq.out];exact hoI2,by rw [hstq.out];exact hoA,hnI2,Hd (fun r hr=>Nat.le_succ_of_le (hnA.out r hr)),by rw [hstq.out];exact hS⟩
            case measure=>simp [intOf];omega
           ·rw [if_neg (fun h=>he (hkm.1 h.1))] at hlk
            rw [if_neg he] at hstq;have hrc:=oc_at (R:=RA) (i:=0) (by omega);have hrn:=hnA.out (nth or0 RA 0) (nth_mem or0 RA 0 (by omega));replace hstq:=Hd hstq;replace he:=Hd he;clear hkm
            go_wp2_with (first|((with_reducible refine g_look2 (T:=133) ?_);refine seq_of hS rfl (stp_lookup_ok (ev:=ik) (k:=(v:Int)) (z:=(0:Int)) 12 underlying133 zeroValue3 (keyOk_int underlying3) rfl rfl rfl hmc ?_);simp only [NRM];simp only [ik])|fail)
            refine wp_region_sched2 [.p 0,.r 1,.p 2,.p 3,.r 4,.p 5,.p 6,.r 7,.p 8,.e 9,.e 10,.p 11,.m 12] [12] (fun w'=>Heap (nd w) w' (.frz F1 wc::.row (.slice (some ⟨g,0,none⟩) M c) 3 1 M (iv (zs x.N))::.blk f6 (.cells #[.slice (some ⟨g,0,none⟩) M c,.slice (some ⟨g2,0,none⟩) M M,.slice (some ⟨go,0,none⟩) k co,.slice (some ⟨gi,0,none⟩) k ci,.slice (some ⟨ga,0,none⟩) k ca] 37 (0,0))::.blk b4 (.cells #[.slice (some ⟨g,0,none⟩) M c] 22 (0,0))::.row (.slice (some ⟨g2,0,none⟩) M M) 3 1 M (iv (L))::.blk bx (.cells #[.slice a1 n1 c1,.slice a2 n2 c2,.slice a3 V.length c3,.slice a4 es.length c4] 34 (0,0))::.row (.slice (some ⟨gr,0,none⟩) V.length cr) 3 1 V.length (iv (zs x.root))::.row (.slice (some ⟨go,0,none⟩) k co) 3 1 k (iv x.O)::.row (.slice (some ⟨gi,0,none⟩) k ci) 22 1 k (oc (RI))::.row (.slice (some ⟨ga,0,none⟩) k ca) 22 1 k (oc RA)::[])) (fun w'=>Heap (nd w) w' _) (by kernel_rfl) (by kernel_rfl) hS.drew (fun _ hZ=>Heap.sub hZ (by repeat (first|apply List.Sublist.cons_cons|apply List.Sublist.cons|exact List.nil_sublist _))) (fun w1 hS=>?_)
            repeat (first|(with_reducible refine sldB 2 isAgg35 ?_)|((with_reducible refine m_pure ?_);refine sched_any rfl rfl (any_index_at (T:=35) underlying35 sizeOf22 rfl rfl (by omega) (by omega) ?_);simp only [NRM];simp only [Nat.zero_add,Int.toNat_natCast])|((with_reducible refine m_read ?_);refine sched_of rfl rfl (stp_load_rowc (T:=22) 9 isAgg22 rfl rfl hrc ?_);simp only [NRM])|(with_reducible refine spL ?_))
            refine exL ?_
            ((with_reducible refine g_bs (T:=22) ?_);refine seq_bs1 (T:=22) (v:=.int .i64 _) hS underlying22 sizeOf3 zeroValue3 rfl rfl rfl (by decide) (by decide) rfl (fun lb wlb hS=>?_);simp only [NRM];simp only [Value.cells] at hS)
            refine ext_end hS.sb ?_;refine exL ?_
            ((with_reducible refine g_app ?_);refine seq_append_in2 (H0:=[_,_,_,_,_,_,_,_,_,_,_,_,_]) (RI:=RI) (RA:=RA) hS underlying22 infoInt (by omega) rfl rfl (by omega) (fun ad2 cp2 _ hS=>?_);simp only [NRM];simp only [NRH] at hS)
            refine ext_end hS.sb ?_
            repeat (first|((with_reducible refine m_pure ?_);refine sched_any rfl rfl (any_index_at (T:=35) underlying35 sizeOf22 rfl rfl (by omega) (by omega) ?_);simp only [NRM];simp only [Nat.zero_add,Int.toNat_natCast]))
            refine muL ?_
            ((with_reducible refine g_store (T:=22) ?_);refine seq_store_rowc (T:=22) (v:=.slice _ _ _) 9 hS rfl rfl rfl (by rw [oc_length];omega) sizeOf22 rfl rfl (fun _ hS=>?_);simp only [NRM];simp only [NRH] at hS)
            refine mut_end ?_;refine snL ?_;obtain⟨r2,hr2⟩:∃ r2:ORow,r2=⟨(nth or0 RA 0).k,ad2,(nth or0 RA 0).n+1,cp2,(nth or0 RA 0).is++[v]⟩:=⟨_,rfl⟩;have hoc:(oc RA).set 0 (.slice ad2 ((nth or0 RA 0).n+1) cp2)=oc (RA.set 0 r2):=by rw [oc_set,hr2]
            rw [hoc,← hr2] at hS;have hr3:r2.is=(nth or0 RA 0).is++[v]:=by rw [hr2]
            have hr4:r2.n=(nth or0 RA 0).n+1:=by rw [hr2]
            have hoA2:=ois_add (R:=RA) hr3;rw [hoA.out] at hoA2
            have hnA2:∀ r ∈ RA.set 0 r2,r.n≤v+1:=fun r hr=>by
             rcases List.mem_or_eq_of_mem_set hr with h|h
             ·exact Nat.le_succ_of_le (hnA.out r h)
             ·rw [h,hr4];omega
            replace hoA2:=Hd hoA2;replace hnA2:=Hd hnA2;clear hoc hr2 hr3 hr4 hrc;go_wp2;go_roundw
            case rel =>
             exact⟨v+1,RI,_,by omega,by simp,hRI,by rw [List.length_set];exact hRA,by rw [hstq.out];exact hoI,by rw [hstq.out];exact hoA2,Hd (fun r hr=>Nat.le_succ_of_le (hnI.out r hr)),hnA2,by rw [hstq.out];exact hS⟩
            case measure=>simp [intOf];omega
          ·obtain⟨e,rfl⟩:∃ e:Nat,B=(e:Int):=⟨B.toNat,by omega⟩
           rw [if_neg hB0] at hfe hstq;simp only [Int.toNat_natCast] at hfe hstq;have hel2:2*e<M:=by omega
           have m2:IntKind.i64.wrap (2*(e:Int))=((2*e:Nat):Int):=w7;rw [hfe,Int.toNat_natCast] at hstq;have e2:(2*(e:Int)).toNat=2*e:=by omega
           have hfe2:nth 0 L ((2*(e:Int)).toNat)=(f:Int):=by rw [e2];exact hfe
           replace e2:=Hd e2;have hkm:v ∈ x.keys↔x.hasE v=true:=by unfold FI.keys;rw [List.mem_filter,List.mem_range,hxn.out];exact⟨fun h=>h.2,fun h=>⟨hvl,h⟩⟩
           have hlk:=hnm2.out v
           by_cases he:x.hasE v=true
           ·have hol:=hxk.out_lt v (by rw [hxn.out];exact hvl) he
            have hsa:=setAll_orb hxk.perm hol L (by rw [hLl,hNl.out]) ((f:Int));have hll:=leastF_lt hxk.perm hol;rw [hNl.out] at hol hll;rw [if_pos ⟨hkm.2 he,hr.out⟩] at hlk;rw [if_pos he] at hstq;obtain⟨y,hy⟩:∃ y,leastF x.N (x.out v)=y:=⟨_,rfl⟩;rw [hy] at hsa hll hlk hstq;have hll2:leastF x.N y=y:=by rw [← hy];exact least_least hxk.perm (by rw [hNl.out];exact hol)
            have hrc:=oc_at (R:=RI) (i:=f) (by omega);have hrn:=hnI.out (nth or0 RI f) (nth_mem or0 RI f (by omega));replace hsa:=Hd hsa;replace hstq:=Hd hstq;replace hy:=Hd hy;replace he:=Hd he;replace hll2:=Hd hll2;clear hkm
            go_wp2_with (first|((with_reducible refine g_look2 (T:=133) ?_);refine seq_of hS rfl (stp_lookup_ok (ev:=ik) (k:=(v:Int)) (z:=(0:Int)) 12 underlying133 zeroValue3 (keyOk_int underlying3) rfl rfl rfl hmc ?_);simp only [NRM];simp only [ik])|(with_reducible first|refine ldB 2 hS isAgg22 ?_|refine ixS underlying22 sizeOf3 ?_|refine ldR 4 hS isAgg3 ?_))
            refine (paint_at hxk.perm hNl.out hll (by omega) L hLl ((f:Int)) f6 b4 g2 M c g _ _ _ hS).mono ?_;rintro e2 w2 ⟨rfl,hS2⟩;clear hS;have hS:=hS2;clear hS2;rw [hsa.out] at hS;simp only [];go_wp2;refine wp_region_sched2 [.p 0,.r 1,.p 2,.p 3,.r 4,.p 5,.p 6,.r 7,.p 8,.e 9,.e 10,.p 11,.m 12] [12] (fun w'=>Heap (nd w) w' (.frz F1 wc::.row (.slice (some ⟨g,0,none⟩) M c) 3 1 M (iv (zs x.N))::.blk f6 (.cells #[.slice (some ⟨g,0,none⟩) M c,.slice (some ⟨g2,0,none⟩) M M,.slice (some ⟨go,0,none⟩) k co,.slice (some ⟨gi,0,none⟩) k ci,.slice (some ⟨ga,0,none⟩) k ca] 37 (0,0))::.blk b4 (.cells #[.slice (some ⟨g,0,none⟩) M c] 22 (0,0))::.row (.slice (some ⟨g2,0,none⟩) M M) 3 1 M (iv (setAll L (orb x.N (x.out v)) ((f:Int))))::.blk bx (.cells #[.slice a1 n1 c1,.slice a2 n2 c2,.slice a3 V.length c3,.slice a4 es.length c4] 34 (0,0))::.row (.slice (some ⟨gr,0,none⟩) V.length cr) 3 1 V.length (iv (zs x.root))::.row (.slice (some ⟨go,0,none⟩) k co) 3 1 k (iv x.O)::.row (.slice (some ⟨gi,0,none⟩) k ci) 22 1 k (oc (RI))::[])) (fun w'=>Heap (nd w) w' _) (by kernel_rfl) (by kernel_rfl) hS.drew (fun _ hZ=>Heap.sub hZ (by repeat (first|apply List.Sublist.cons_cons|apply List.Sublist.cons|exact List.nil_sublist _))) (fun w1 hS=>?_)
            repeat (first|(with_reducible refine sldB 2 isAgg35 ?_)|((with_reducible refine m_pure ?_);refine sched_any rfl rfl (any_index_at (T:=35) underlying35 sizeOf22 rfl rfl (by omega) (by omega) ?_);simp only [NRM];simp only [Nat.zero_add,Int.toNat_natCast])|((with_reducible refine m_read ?_);refine sched_of rfl rfl (stp_load_rowc (T:=22) 8 isAgg22 rfl rfl hrc ?_);simp only [NRM])|(with_reducible refine spL ?_))
            refine exL ?_
            ((with_reducible refine g_bs (T:=22) ?_);refine seq_bs1 (T:=22) (v:=.int .i64 _) hS underlying22 sizeOf3 zeroValue3 rfl rfl rfl (by decide) (by decide) rfl (fun lb wlb hS=>?_);simp only [NRM];simp only [Value.cells] at hS)
            refine ext_end hS.sb ?_;refine exL ?_
            ((with_reducible refine g_app ?_);refine seq_append_in1 (H0:=[_,_,_,_,_,_,_,_,_,_,_,_,_]) (RI:=RI) (RA:=RA) hS underlying22 infoInt (by omega) rfl rfl (by omega) (fun ad2 cp2 _ hS=>?_);simp only [NRM];simp only [NRH] at hS)
            refine ext_end hS.sb ?_
            repeat (first|((with_reducible refine m_pure ?_);refine sched_any rfl rfl (any_index_at (T:=35) underlying35 sizeOf22 rfl rfl (by omega) (by omega) ?_);simp only [NRM];simp only [Nat.zero_add,Int.toNat_natCast]))
            refine muL ?_
            ((with_reducible refine g_store (T:=22) ?_);refine seq_store_rowc (T:=22) (v:=.slice _ _ _) 8 hS rfl rfl rfl (by rw [oc_length];omega) sizeOf22 rfl rfl (fun _ hS=>?_);simp only [NRM];simp only [NRH] at hS)
            refine mut_end ?_;refine snL ?_;obtain⟨r2,hr2⟩:∃ r2:ORow,r2=⟨(nth or0 RI f).k,ad2,(nth or0 RI f).n+1,cp2,(nth or0 RI f).is++[y]⟩:=⟨_,rfl⟩;have hoc:(oc RI).set f (.slice ad2 ((nth or0 RI f).n+1) cp2)=oc (RI.set f r2):=by rw [oc_set,hr2]
            rw [hoc,← hr2] at hS;have hr3:r2.is=(nth or0 RI f).is++[y]:=by rw [hr2]
            have hr4:r2.n=(nth or0 RI f).n+1:=by rw [hr2]
            have hoI2:=ois_add (R:=RI) hr3;rw [hoI.out] at hoI2
            have hnI2:∀ r ∈ RI.set f r2,r.n≤v+1:=fun r hr=>by
             rcases List.mem_or_eq_of_mem_set hr with h|h
             ·exact Nat.le_succ_of_le (hnI.out r h)
             ·rw [h,hr4];omega
            replace hoI2:=Hd hoI2;replace hnI2:=Hd hnI2;clear hoc hr2 hr3 hr4 hrc;go_wp2;go_roundw
            case rel =>
             exact⟨v+1,_,RA,by omega,by simp,by rw [List.length_set];exact hRI,hRA,by rw [hstq.out];exact hoI2,by rw [hstq.out];exact hoA,hnI2,Hd (fun r hr=>Nat.le_succ_of_le (hnA.out r hr)),by rw [hstq.out];exact hS⟩
            case measure=>simp [intOf];omega
           ·rw [if_neg (fun h=>he (hkm.1 h.1))] at hlk
            rw [if_neg he] at hstq;have hrc:=oc_at (R:=RA) (i:=f) (by omega);have hrn:=hnA.out (nth or0 RA f) (nth_mem or0 RA f (by omega));replace hstq:=Hd hstq;replace he:=Hd he;clear hkm
            go_wp2_with (first|((with_reducible refine g_look2 (T:=133) ?_);refine seq_of hS rfl (stp_lookup_ok (ev:=ik) (k:=(v:Int)) (z:=(0:Int)) 12 underlying133 zeroValue3 (keyOk_int underlying3) rfl rfl rfl hmc ?_);simp only [NRM];simp only [ik])|(with_reducible first|refine ldB 2 hS isAgg22 ?_|refine ixS underlying22 sizeOf3 ?_|refine ldR 4 hS isAgg3 ?_))
            refine wp_region_sched2 [.p 0,.r 1,.p 2,.p 3,.r 4,.p 5,.p 6,.r 7,.p 8,.e 9,.e 10,.p 11,.m 12] [12] (fun w'=>Heap (nd w) w' (.frz F1 wc::.row (.slice (some ⟨g,0,none⟩) M c) 3 1 M (iv (zs x.N))::.blk f6 (.cells #[.slice (some ⟨g,0,none⟩) M c,.slice (some ⟨g2,0,none⟩) M M,.slice (some ⟨go,0,none⟩) k co,.slice (some ⟨gi,0,none⟩) k ci,.slice (some ⟨ga,0,none⟩) k ca] 37 (0,0))::.blk b4 (.cells #[.slice (some ⟨g,0,none⟩) M c] 22 (0,0))::.row (.slice (some ⟨g2,0,none⟩) M M) 3 1 M (iv (L))::.blk bx (.cells #[.slice a1 n1 c1,.slice a2 n2 c2,.slice a3 V.length c3,.slice a4 es.length c4] 34 (0,0))::.row (.slice (some ⟨gr,0,none⟩) V.length cr) 3 1 V.length (iv (zs x.root))::.row (.slice (some ⟨go,0,none⟩) k co) 3 1 k (iv x.O)::.row (.slice (some ⟨gi,0,none⟩) k ci) 22 1 k (oc (RI))::.row (.slice (some ⟨ga,0,none⟩) k ca) 22 1 k (oc RA)::[])) (fun w'=>Heap (nd w) w' _) (by kernel_rfl) (by kernel_rfl) hS.drew (fun _ hZ=>Heap.sub hZ (by repeat (first|apply List.Sublist.cons_cons|apply List.Sublist.cons|exact List.nil_sublist _))) (fun w1 hS=>?_)
            repeat (first|(with_reducible refine sldB 2 isAgg35 ?_)|((with_reducible refine m_pure ?_);refine sched_any rfl rfl (any_index_at (T:=35) underlying35 sizeOf22 rfl rfl (by omega) (by omega) ?_);simp only [NRM];simp only [Nat.zero_add,Int.toNat_natCast])|((with_reducible refine m_read ?_);refine sched_of rfl rfl (stp_load_rowc (T:=22) 9 isAgg22 rfl rfl hrc ?_);simp only [NRM])|(with_reducible refine spL ?_))
            refine exL ?_
            ((with_reducible refine g_bs (T:=22) ?_);refine seq_bs1 (T:=22) (v:=.int .i64 _) hS underlying22 sizeOf3 zeroValue3 rfl rfl rfl (by decide) (by decide) rfl (fun lb wlb hS=>?_);simp only [NRM];simp only [Value.cells] at hS)
            refine ext_end hS.sb ?_;refine exL ?_
            ((with_reducible refine g_app ?_);refine seq_append_in2 (H0:=[_,_,_,_,_,_,_,_,_,_,_,_,_]) (RI:=RI) (RA:=RA) hS underlying22 infoInt (by omega) rfl rfl (by omega) (fun ad2 cp2 _ hS=>?_);simp only [NRM];simp only [NRH] at hS)
            refine ext_end hS.sb ?_
            repeat (first|((with_reducible refine m_pure ?_);refine sched_any rfl rfl (any_index_at (T:=35) underlying35 sizeOf22 rfl rfl (by omega) (by omega) ?_);simp only [NRM];simp only [Nat.zero_add,Int.toNat_natCast]))
            refine muL ?_
            ((with_reducible refine g_store (T:=22) ?_);refine seq_store_rowc (T:=22) (v:=.slice _ _ _) 9 hS rfl rfl rfl (by rw [oc_length];omega) sizeOf22 rfl rfl (fun _ hS=>?_);simp only [NRM];simp only [NRH] at hS)
            refine mut_end ?_;refine snL ?_;obtain⟨r2,hr2⟩:∃ r2:ORow,r2=⟨(nth or0 RA f).k,ad2,(nth or0 RA f).n+1,cp2,(nth or0 RA f).is++[v]⟩:=⟨_,rfl⟩;have hoc:(oc RA).set f (.slice ad2 ((nth or0 RA f).n+1) cp2)=oc (RA.set f r2):=by rw [oc_set,hr2]
            rw [hoc,← hr2] at hS;have hr3:r2.is=(nth or0 RA f).is++[v]:=by rw [hr2]
            have hr4:r2.n=(nth or0 RA f).n+1:=by rw [hr2]
            have hoA2:=ois_add (R:=RA) hr3;rw [hoA.out] at hoA2
            have hnA2:∀ r ∈ RA.set f r2,r.n≤v+1:=fun r hr=>by
             rcases List.mem_or_eq_of_mem_set hr with h|h
             ·exact Nat.le_succ_of_le (hnA.out r h)
             ·rw [h,hr4];omega
            replace hoA2:=Hd hoA2;replace hnA2:=Hd hnA2;clear hoc hr2 hr3 hr4 hrc;go_wp2;go_roundw
            case rel =>
             exact⟨v+1,RI,_,by omega,by simp,hRI,by rw [List.length_set];exact hRA,by rw [hstq.out];exact hoI,by rw [hstq.out];exact hoA2,Hd (fun r hr=>Nat.le_succ_of_le (hnI.out r hr)),hnA2,by rw [hstq.out];exact hS⟩
            case measure=>simp [intOf];omega
         ·have hq:(nth 0 (zs x.root) v != (v:Int))=true:=by rw [nth_zs];simp;omega
          have hq2:(nth 0 (zs x.root) v == (v:Int))=false:=by rw [nth_zs];simp;omega
          unfold FI.step3 at hst;rw [if_neg hr] at hst;replace hr:=Hd hr;replace hst:=Hd hst
          go_wp2_with (with_reducible first|refine ixS underlying22 sizeOf3 ?_|refine ldR 6 hS isAgg3 ?_)
          go_roundw
          case rel=>exact⟨v+1,RI,RA,by omega,by simp,hRI,hRA,by rw [hst.out];exact hoI,by rw [hst.out];exact hoA,Hd (fun r hr=>Nat.le_succ_of_le (hnI.out r hr)),Hd (fun r hr=>Nat.le_succ_of_le (hnA.out r hr)),by rw [hst.out];exact hS⟩
          case measure=>simp [intOf];omega
        ·obtain rfl:V.length=v:=by omega
         have hn3:=hxn.out;have hend:x.fr=⟨x.N,(x.ph3 V.length).L,x.O,(x.ph3 V.length).I.map srtN,(x.ph3 V.length).A⟩:=by unfold FI.fr;rw [hn3]
         have hgood:=Hd hxk.good;replace hend:=Hd hend;clear hst p3 hvl hv
         go_wp2_with (with_reducible refine ldB 2 hS isAgg35 ?_)
         go_loopw [165] (fun v165 wx=>∃ i:Nat,i≤k∧v165=.int .i64 (i:Int)∧Heap (nd w) wx (.frz F1 wc::.row (.slice (some ⟨g,0,none⟩) M c) 3 1 M (iv (zs x.N))::.blk f6 (.cells #[.slice (some ⟨g,0,none⟩) M c,.slice (some ⟨g2,0,none⟩) M M,.slice (some ⟨go,0,none⟩) k co,.slice (some ⟨gi,0,none⟩) k ci,.slice (some ⟨ga,0,none⟩) k ca] 37 (0,0))::.blk b4 (.cells #[.slice (some ⟨g,0,none⟩) M c] 22 (0,0))::.row (.slice (some ⟨g2,0,none⟩) M M) 3 1 M (iv ((x.ph3 V.length).L))::.blk bx (.cells #[.slice a1 n1 c1,.slice a2 n2 c2,.slice a3 V.length c3,.slice a4 es.length c4] 34 (0,0))::.row (.slice (some ⟨gr,0,none⟩) V.length cr) 3 1 V.length (iv (zs x.root))::.row (.slice (some ⟨go,0,none⟩) k co) 3 1 k (iv x.O)::.row (.slice (some ⟨gi,0,none⟩) k ci) 22 1 k (oc (RI))::.row (.slice (some ⟨ga,0,none⟩) k ca) 22 1 k (oc (RA))::.blk bm o::.blk br (.cells #[.slice none 0 0,.slice none 0 0,.slice none 0 0,.slice none 0 0,.slice none 0 0] 37 (0,0))::.blk bc oc1::((srtTo RI i).map (ORow.ch 3)++(RA).map (ORow.ch 3)))) (fun v165 _=>k - (intOf v165).toNat)
         case atStart=>exact⟨0,by omega,rfl,by rw [srtTo_zero];exact hS⟩
         case round =>
          clear hS;obtain⟨i,hi,rfl,hS⟩:=hrel
          by_cases hil:i<k
          ·have hil2:i<RI.length:=by omega
           have hrc:=oc_at hil2;have hrn:=hnI.out _ (nth_mem or0 RI i hil2);have hss:=srtTo_succ hil2;rw [nth_srtTo hil2] at hss;replace hss:=Hd hss
           go_wp2_with (first|(with_reducible refine ixS underlying35 sizeOf22 ?_)|((with_reducible refine g_load (T:=22) ?_);refine seq_of hS rfl (stp_load_rowc (T:=22) 8 isAgg22 rfl rfl hrc ?_);simp only [NRM]))
           have hcs:=sort_at (L:=[_,_,_,_,_,_,_,_,_,_,_,_,_]) (R:=srtTo RI i) (R3:=RA.map (ORow.ch 3)) (i:=i) hS (by rw [srtTo_length];omega) (by rw [nth_srtTo hil2];omega);rw [nth_srtTo hil2,hss.out] at hcs;refine hcs.mono ?_;clear hcs;rintro e w1 ⟨rfl,hS2⟩;clear hS;have hS:=hS2;clear hS2;simp only [NRH] at hS;simp only [];go_wp2;go_roundw
           case rel=>exact⟨i+1,by omega,by simp,hS⟩
           case measure=>simp [intOf];omega
          ·obtain rfl:RI.length=i:=by omega
           have hend2:=srtTo_end RI;replace hend2:=Hd hend2;have hRAl:=hRA
           go_wp2_with (with_reducible first|refine ldA 2 hS isAgg37 sizeOf37 ?_|refine stA 11 hS sizeOf37 fun _ hS=>?_)
           replace hS:Heap (nd w) _ ([_,_,_,_,_,_,_,_,_,_,_,_,_]++(_++_)):=hS;have hSf:=orderT hS [0,2,3,5,6,10,11,12,1,4,7,8,9] (by kernel_rfl);simp only [NRF] at hSf;rw [← oc_srtTo RI RI.length (Nat.le_refl _)] at hSf;have hgd:=hgood.out;rw [hend.out] at hgd;obtain⟨S',hP,hF⟩:=faces_out (L:=[_,_,_,_,_,_,_]) (f:=⟨x.N,(x.ph3 V.length).L,x.O,(x.ph3 V.length).I.map srtN,(x.ph3 V.length).A⟩) hSf hO1 hF1 hp1 hgd (by rw [hxm.out];exact hM) hk.out (by rw [srtTo_length];exact hRI) hRA (by rw [hend2.out,hoI.out]) hoA.out hM2 (by rw [hxn.out];exact hVl);refine ret_ct 11 hS rfl rfl rfl isAgg37 sizeOf37 rfl rfl ?_;exact⟨RL,_,_,_,_,_,S',rfl,hRl.out,hRL.out,hP,hP.liv hLw.out,by rw [hxe.out,hend.out];exact hF⟩
    ·obtain⟨v,hv,hvn,rfl,hvv⟩:=hAM.pair hkl
     obtain⟨va,vn,vc⟩:=vv;have hRlen:=hRl.out;have hin:IntKind.i64.wrap (v:Int)=(v:Int):=w6;have hLl:(x.L1 (d.map fun p=>p.1.toNat)).length=M:=by rw [FI.L1_length];exact hNl.out
     have hdk:((d++[((v:Int),(va,vn,vc))]).map fun p=>p.1.toNat)=(d.map fun p=>p.1.toNat)++[v]:=by simp
     replace hdk:=Hd hdk;have hrl2:=hrl.out;have hsz2:=fun (oi2:Obj) (w2:World) (h:w2.heap[bi]? = some oi2) (hi:ItIs ik sv bm o oi2 l (d++[((v:Int),(va,vn,vc))]))=>itSize_eq hi h
     have hdl2:=itLen hit';replace hsz:=Hd hsz
     by_cases hr:nth 0 x.root v=v
     ·have hq:(nth 0 (zs x.root) v == (v:Int))=true:=by rw [nth_zs,hr];simp
      have hL0:0<(nth [] RL v).length:=List.length_pos_iff.2 hvn;have hve:x.hasE v=true:=by rw [hxh.out];simpa using hvn
      have hol:=hxk.out_lt v (by rw [hxn.out];omega) hve;rw [hNl.out] at hol;have hAr:=hRL.out v (by omega);have hlt:=hAr.lt;have hlen:(nth [] RL v).length≤es.length:=by rw [hAr.perm.length_eq];exact outsTo_len _
      have hst:=x.L1_step hxk.perm (d.map fun p=>p.1.toNat) v hr (by rw [hNl.out];exact hol);have hnm2:=x.named_step hnm.out v hr;replace hst:=Hd hst;replace hnm2:=Hd hnm2;replace hve:=Hd hve;replace hvn:=Hd hvn;replace hr:=Hd hr;replace hlt:=Hd hlt;replace hAr:=Hd hAr;clear hkl hkd
      go_wp2_with (first|((with_reducible refine g_ent ?_);refine seq_of hS rfl (stp_entry 10 13 rfl rfl rfl hit' ?_);simp only [NRM];simp only [ik,sv])|(with_reducible first|refine ixS underlying22 sizeOf3 ?_|refine ldR 6 hS isAgg3 ?_|refine ldA 5 hS isAgg34 sizeOf34 ?_))
      refine (outside_any a1 a2 a3 a4 va n1 c1 n2 c2 V.length c3 es.length c4 vn vc rs es (nth [] RL v) _ S1 S1 (hA1.hE.move (hS.keep hF1)) (hA1.hEs.at hS hF1) (hvv.move (hS.keep hF1)) hL0 (by omega) (fun j hj=>hlt.out _ (nth_mem 0 _ j hj)) (by omega) hd).mono ?_;rintro e w1 ⟨r,rfl,hor,hb⟩;replace hor:=hor.eq;rw [hxo.out] at hor;subst hor;replace hS:=hS.belowD (nd_drawn w) hb;clear hb;simp only []
      go_wp2_with (fail)
      refine (paint_at hxk.perm hNl.out hol (by omega) (x.L1 (d.map fun p=>p.1.toNat)) hLl (-2) f6 b4 g2 M c g _ _ _ hS).mono ?_;rintro e w2 ⟨rfl,hS2⟩;clear hS;have hS:=hS2;clear hS2;rw [← hst.out] at hS;simp only []
      go_wp2_with (first|((with_reducible refine g_mu (T:=133) ?_);refine seq_mapUpdate (ev:=ik) (k:=(v:Int)) (v:=(leastF x.N (x.out v):Int)) 12 hS underlying133 (keyOk_int underlying3) rfl rfl rfl rfl (by with_reducible assumption) rfl (fun ou wu hmu hS=>?_);simp only [NRM];simp only [NRH] at hS))
      rw [← hdk.out] at hS hnm2;go_roundw
      case rel=>exact⟨_,oi',ou,_,hit',hmu,hnm2,hS⟩
      case measure =>
       have hsz':=hsz2 oi' _ (hS.blk (b:=bi) (o:=oi') (by simp)) hit';simp only [List.length_append,List.length_cons,List.length_nil] at hsz' hdl2;have hsz:=hsz.out;simp only [hsz,hsz'];omega
     ·have hq:(nth 0 (zs x.root) v == (v:Int))=false:=by rw [nth_zs];simp;omega
      have hst:=x.L1_skip (d.map fun p=>p.1.toNat) v hr;have hnm2:=x.named_skip hnm.out v hr;replace hst:=Hd hst;replace hnm2:=Hd hnm2;replace hr:=Hd hr;clear hkl hkd
      go_wp2_with (first|((with_reducible refine g_ent ?_);refine seq_of hS rfl (stp_entry 10 13 rfl rfl rfl hit' ?_);simp only [NRM];simp only [ik,sv])|(with_reducible first|refine ixS underlying22 sizeOf3 ?_|refine ldR 6 hS isAgg3 ?_))
      rw [← hst.out,← hdk.out] at hS;rw [← hdk.out] at hnm2;go_roundw
      case rel=>exact⟨_,oi',oc,_,hit',hmc,hnm2,hS⟩
      case measure =>
       have hsz':=hsz2 oi' _ (hS.blk (b:=bi) (o:=oi') (by simp)) hit';simp only [List.length_append,List.length_cons,List.length_nil] at hsz' hdl2;have hsz:=hsz.out;simp only [hsz,hsz'];omega
end Go.Proofs
