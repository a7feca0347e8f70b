/- Of LY. -/
import Derived.Test.YtjeofihncbegfaaGreatQ41
import Derived.Test.YtjeofihncbegfaaGreatQ45
import Derived.Test.YtjeofihncbegfaaGreatQ46
set_option maxRecDepth 100000
set_option maxHeartbeats 16000000
set_option linter.unusedVariables false
set_option linter.unusedSimpArgs false
namespace Go.Hp
open Go.Proofs.Tryz
open Go Go.RowKit
theorem Heap.pcallN {w0 w wr w':World} {H:List Chunk} {F S S':Nat→Prop} (hS:Heap w0 w (.frz F wr::H)) (h0:w0.drawn=0) (hF:∀ k,S k→F k) (hq:Pure (nd w) S w' S'):∃ F',(∀ k,S' k→F' k)∧(∀ k,F k→F' k)∧Heap w0 w' (.frz F' w'::H):=by
 have hb:Below w.heap.size w w':=⟨hq.below.os,hq.below.tape,hq.below.output,hq.below.size,hq.below.block⟩;obtain⟨F',h1,h2,h3⟩:=hS.pcallD h0 hb;exact⟨F',fun k hk=>(hq.new k hk).elim (fun h=>h1 k (hF k h)) (fun h=>h2 k h),h1,h3⟩
theorem Pure.transN {w0 w w':World} {S0 S S':Nat→Prop} (h:Pure w0 S0 w S) (h0:w0.drawn=0) (hq:Pure (nd w) S w' S'):Pure w0 S0 w' S':=by
 have hb:Below w.heap.size w w':=⟨hq.below.os,hq.below.tape,hq.below.output,hq.below.size,hq.below.block⟩;refine⟨h.below.trans (hb.mono h.below.size),by rw [h0];exact Nat.zero_le _,fun k hk=>hq.sub k (h.sub k hk),fun k hk=>?_⟩
 rcases hq.new k hk with h1|h1
 ·rcases h.new k h1 with h2|h2
  ·exact .inl h2
  ·exact .inr ⟨h2.1,Nat.lt_of_lt_of_le h2.2 hb.size⟩
 ·exact .inr ⟨Nat.le_trans h.below.size h1.1,h1.2⟩
theorem Pure.below0 {w w':World} {S S':Nat→Prop} (hq:Pure (nd w) S w' S'):Below w.heap.size w w':=⟨hq.below.os,hq.below.tape,hq.below.output,hq.below.size,hq.below.block⟩
end Go.Hp
namespace Go.Proofs
open Go.Proofs.Tryz
open Go.RowKit Go.Hp
theorem lives_any (w:World):Calls Tryz.prog 18 #[] w fun e w'=>e=.returned (.bool true)∧Below w.heap.size w w':=by
 have hS:=Heap.startD w;have hD0:=nd_drawn w;have hp0:=Pure.startD w (fun _=>False);have hO0:=fun k (h:Old w k)=>h
 go_enter func18,ntmps18
 go_wp2_with (fail)
 refine (square_any 0 0 9 (by decide) (by decide) (by decide) _).mono ?_;rintro e w1 ⟨ad1,cp1,rfl,hS1⟩;replace hS:=hS.import hS1;simp only [NRH] at hS;clear hS1;simp only []
 go_wp2_with (fail)
 refine (square_any 3 3 2 (by decide) (by decide) (by decide) _).mono ?_;rintro e w2 ⟨ad2,cp2,rfl,hS1⟩;replace hS:=hS.import hS1;simp only [NRH] at hS;clear hS1;simp only [];have hrow:=hS.rowSl 2 rfl;replace hS:=hS.freeze 2 rfl;simp only [NRH] at hS
 go_wp2_with (first|((with_reducible refine g_app ?_);refine seq_append (t:=23) 1 hS underlying23 infoS rfl (by decide) rfl rfl rfl hrow (by simp) (sc_one _) (by omega) (by unfold maxLen;omega) (fun ad3 cp3 _ hS=>?_);simp only [NRM];simp only [NRH] at hS)|((with_reducible refine g_bs (T:=24) ?_);refine seq_buildSlice (k:=2) (z:=.agg #[.int .i64 0,.int .i64 0]) (len:=2) hS underlying24 sizeOf51 zeroValue51 (by decide) (by decide) (fill2p _ _ _ _) (fun b13 wb13 hS=>?_);simp only [NRM];simp only [NRH] at hS))
 have e1:List.flatMap sc (sqZ 0 0 9)++List.flatMap sc (sqZ 3 3 2)=lvS.flatMap sc:=by rw [← List.flatMap_append];rfl
 rw [e1] at hS;clear e1 hrow;replace hS:=hS.toRow (k:=2) (m:=2) 3 rfl rfl (by decide);replace hS:=hS.order [0,1,3,2] rfl;simp only [List.set_cons_succ,List.set_cons_zero,List.filterMap_cons,List.getElem?_cons_zero,List.getElem?_cons_succ,List.filterMap_nil] at hS;replace hS:Heap (nd w) _ [.frz (Old w) w,.row (.slice ad3 8 cp3) 121 4 8 (lvS.flatMap sc),.row (.slice (some ⟨b13,0,none⟩) 2 2) 51 2 2 (lvG.flatMap gc),_]:=hS;have hv:=hS.rowSl 1 rfl;have hg:=hS.rowSl 2 rfl;have hps:=hp0.step hS hO0 (fun k h=>h.elim);have hn1:∀ k,(Chunk.row (.slice ad3 8 cp3) 121 4 8 (lvS.flatMap sc)).has k→New (nd w) wb13 k:=fun k h=>hS.isNewC hO0 (List.mem_of_getElem? (i:=0) rfl) h
 have hn2:∀ k,(Chunk.row (.slice (some ⟨b13,0,none⟩) 2 2) 51 2 2 (lvG.flatMap gc)).has k→New (nd w) wb13 k:=fun k h=>hS.isNewC hO0 (List.mem_of_getElem? (i:=1) rfl) h
 replace hS:=Heap.frz3 hS;replace hS:=Heap.sub hS (List.sublist_append_left [_] [_]);obtain⟨F1,hF1e⟩:∃ F1,F1=fun k=>(Old w k∨(Chunk.row (.slice ad3 8 cp3) 121 4 8 (lvS.flatMap sc)).has k)∨(Chunk.row (.slice (some ⟨b13,0,none⟩) 2 2) 51 2 2 (lvG.flatMap gc)).has k:=⟨_,rfl⟩
 obtain⟨S1,hS1e⟩:∃ S1,S1=fun k=>(Chunk.row (.slice ad3 8 cp3) 121 4 8 (lvS.flatMap sc)).has k∨(Chunk.row (.slice (some ⟨b13,0,none⟩) 2 2) 51 2 2 (lvG.flatMap gc)).has k:=⟨_,rfl⟩
 rw [← hF1e] at hS;have hO1:∀ k,Old w k→F1 k:=fun k h=>by rw [hF1e];exact .inl (.inl h)
 have hv1:SlC wb13 S1 4 (.slice ad3 8 cp3) 8 (lvS.flatMap sc):=hv.weaken (fun k h=>by rw [hS1e];exact .inl h);have hg1:SlC wb13 S1 2 (.slice (some ⟨b13,0,none⟩) 2 2) 2 (lvG.flatMap gc):=hg.weaken (fun k h=>by rw [hS1e];exact .inr h)
 have hF1:∀ k,S1 k→F1 k:=fun k h=>by
  rw [hS1e] at h;rw [hF1e];exact h.elim (fun h=>.inl (.inr h)) (fun h=>.inr h)
 have hp1:Hp.Pure (nd w) (fun _=>False) wb13 S1:=⟨hps.below,hps.drawn,fun k h=>h.elim,fun k h=>by
  rw [hS1e] at h;exact .inr (h.elim (hn1 k) (hn2 k))⟩
 have hL1:Liv wb13 S1:=fun k h=>(hS.ok (.frz F1 wb13) (by simp) k (hF1 k h)).1
 clear hF1e hS1e hn1 hn2 hps hv hg hp0 hO0;have hos:∀ t ∈ lvS,t.ok:=lv_hos;have hgs:∀ g ∈ lvG,g.ok:=lv_hgs;refine (new_any lvS lvG ad3 (some ⟨b13,0,none⟩) 8 cp3 2 2 _ S1 hL1 hos hgs hv1 hg1 (by decide) (by decide) (by decide)).mono ?_;rintro e w' ⟨⟨a1,n1,c1⟩,⟨a2,n2,c2⟩,⟨a3,n3,c3⟩,⟨a4,n4,c4⟩,S2,V,es,rfl,hq,hA,hP⟩;have hL2:=hq.liv hL1;replace hP:=Hd hP;replace hS:=hS.pcl hF1 hO1 hp1 hq;obtain⟨F2,hF2,-,hp2,hO2,hS⟩:=hS;simp only [sv]
 go_wp2_with (with_reducible first|refine alA hS zeroValue28 fun b1 wb1 hS=>?_|refine stA 1 hS sizeOf28 fun _ hS=>?_|refine ldA 1 hS isAgg28 sizeOf28 ?_)
 obtain⟨rs,prs,hAI⟩:=hP.out.arrIn hos hgs hL2 hA;obtain⟨hdir,hne⟩:=ArrP.dirs hP.out hos;have hvl:=hP.out.vlen;have hel:=hP.out.elen;have hlS:lvS.length=8:=rfl;have hlG:lvG.length=2:=rfl;rw [hlS] at hvl hel;rw [hlG] at hvl;refine (fnew_any a1 a2 a3 a4 n1 c1 n2 c2 n3 c3 n4 c4 rs es prs V 300 _ S2 (hAI.at hS hF2) (by decide) hdir hne hP.out.arr.sv (by omega) (by omega)).mono ?_;rintro e w4 ⟨RL,⟨an,nn,cn⟩,⟨al,nl,cl⟩,⟨ao,no,co⟩,⟨ai,ni,ci⟩,⟨aa,na,ca⟩,S3,rfl,hRl,hRL,hq2,hL3,hF⟩;obtain⟨rfl,rfl,rfl⟩:=lv_unique hP.out hRl hRL;obtain⟨F3,hF3,hOO3,hS3⟩:=hS.pcallN hD0 hF2 hq2;have hp3:=(hp2.step hS hO2 hF2).transN hD0 hq2;have hO3:=fun k h=>hOO3 k (hO2 k h)
 clear hS;have hS:=hS3;clear hS3 hRl hRL hP hAI hA hdir hne hvl hel hlS hlG;replace hF:IsFc w4 S3 (an,nn,cn) (al,nl,cl) (ao,no,co) (ai,ni,ci) (aa,na,ca) lvX.fr:=hF;have hFL:Ints w4 S3 (.slice al nl cl) lvX.fr.L:=hF.l;obtain rfl:nl=16:=by rw [hFL.len,lv_L];rfl
 obtain rfl:no=3:=by have h:Ints w4 S3 (.slice ao no co) lvX.fr.O:=hF.o;rw [h.len,lv_O];rfl
 have hIl:lvX.fr.I.length=3:=by have:=congrArg List.length lv_I;simpa using this
 have hAl:lvX.fr.A.length=3:=by have:=congrArg List.length lv_A;simpa using this
 have hFI:RowsOf w4 S3 (.slice ai ni ci) lvX.fr.I:=hF.i;have hFA:RowsOf w4 S3 (.slice aa na ca) lvX.fr.A:=hF.a;obtain rfl:ni=3:=by obtain⟨R,h1,h2,_⟩:=hFI;obtain⟨_,a,c,e,_⟩:=h2;cases e;exact hIl
 obtain rfl:na=3:=by obtain⟨R,h1,h2,_⟩:=hFA;obtain⟨_,a,c,e,_⟩:=h2;cases e;exact hAl
 simp only [sv]
 go_wp2_with (with_reducible first|refine alA hS zeroValue37 fun b3 wb3 hS=>?_|refine stA 2 hS sizeOf37 fun _ hS=>?_|refine ldB 2 hS isAgg22 ?_|refine ldB 2 hS isAgg35 ?_|refine ldA 2 hS isAgg37 sizeOf37 ?_)
 refine (neighbours_any lvX.fr.L 8 (by rw [lv_L];rfl) (by rw [lv_L];decide) 1 an al ao ai aa nn cn 16 cl 3 co 3 ci 3 ca (by decide) (by decide) _ ⟨(hFL.move (hS.keep hF3)).1.old,hFL.2⟩).mono ?_;rintro e w5 ⟨ad,c,rfl,hS1⟩;rw [lv_nbs] at hS1;have hl2:(nbs lvX.fr.L 1).length=2:=by rw [lv_nbs];rfl
 rw [hl2]
 have hI1:(nth [] lvX.fr.I 1).length=1∧(nth [] lvX.fr.I 0).length=1∧(nth [] lvX.fr.I 2).length=0:=by
  have h:∀ i,(nth [] lvX.fr.I i).length=nth 0 (lvX.fr.I.map List.length) i:=fun i=>(nth_map List.length [] lvX.fr.I i).symm
  rw [h,h,h,lv_I];decide
 have hA1:(nth [] lvX.fr.A 1).length=1∧(nth [] lvX.fr.A 0).length=1:=by
  have h:∀ i,(nth [] lvX.fr.A i).length=nth 0 (lvX.fr.A.map List.length) i:=fun i=>(nth_map List.length [] lvX.fr.A i).symm
  rw [h,h,lv_A];decide
 obtain⟨R1,x1,y1,z1,hRI,i1,_,k1⟩:=rows_cell hFI (i:=1) (by omega);obtain⟨R2,x2,y2,z2,hRI2,i2,_,k2⟩:=rows_cell hFI (i:=0) (by omega);obtain⟨R3,x3,y3,z3,hRI3,i3,_,k3⟩:=rows_cell hFI (i:=2) (by omega);obtain⟨R4,x4,y4,z4,hRA,i4,_,k4⟩:=rows_cell hFA (i:=1) (by omega);obtain⟨R5,x5,y5,z5,hRA2,i5,_,k5⟩:=rows_cell hFA (i:=0) (by omega);rw [hI1.1] at k1;rw [hI1.2.1] at k2;rw [hI1.2.2] at k3;rw [hA1.1] at k4;rw [hA1.2] at k5;rw [hIl] at hRI hRI2 hRI3;rw [hAl] at hRA hRA2;subst k1 k2 k3 k4 k5;replace hRI:=hRI.weaken hF3;replace hRI2:=hRI2.weaken hF3;replace hRI3:=hRI3.weaken hF3;replace hRA:=hRA.weaken hF3;replace hRA2:=hRA2.weaken hF3;replace hS:=hS.import hS1;simp only [NRH] at hS;replace hl2:=Hd hl2;clear hS1 hI1 hA1 hFI hFA hFL hF hIl hAl;simp only []
 go_wp2_with (first|(with_reducible refine ldB 2 hS isAgg35 ?_)|((with_reducible refine g_idx (T:=35) ?_);refine seq_any rfl (any_index (T:=35) (i:=1) underlying35 sizeOf22 rfl rfl hRI (by decide) (by decide) (by decide) (fun bq oq (hcellq:CellsAt _ _ ⟨bq,oq,none⟩ ((List.drop (1*1) _).take 1))=>?_));rw [i1] at hcellq;simp only [NRM])|((with_reducible refine g_idx (T:=35) ?_);refine seq_any rfl (any_index (T:=35) (i:=0) underlying35 sizeOf22 rfl rfl hRI2 (by decide) (by decide) (by decide) (fun bq oq (hcellq:CellsAt _ _ ⟨bq,oq,none⟩ ((List.drop (0*1) _).take 1))=>?_));rw [i2] at hcellq;simp only [NRM])|((with_reducible refine g_idx (T:=35) ?_);refine seq_any rfl (any_index (T:=35) (i:=2) underlying35 sizeOf22 rfl rfl hRI3 (by decide) (by decide) (by decide) (fun bq oq (hcellq:CellsAt _ _ ⟨bq,oq,none⟩ ((List.drop (2*1) _).take 1))=>?_));rw [i3] at hcellq;simp only [NRM])|((with_reducible refine g_idx (T:=35) ?_);refine seq_any rfl (any_index (T:=35) (i:=1) underlying35 sizeOf22 rfl rfl hRA (by decide) (by decide) (by decide) (fun bq oq (hcellq:CellsAt _ _ ⟨bq,oq,none⟩ ((List.drop (1*1) _).take 1))=>?_));rw [i4] at hcellq;simp only [NRM])|((with_reducible refine g_idx (T:=35) ?_);refine seq_any rfl (any_index (T:=35) (i:=0) underlying35 sizeOf22 rfl rfl hRA2 (by decide) (by decide) (by decide) (fun bq oq (hcellq:CellsAt _ _ ⟨bq,oq,none⟩ ((List.drop (0*1) _).take 1))=>?_));rw [i5] at hcellq;simp only [NRM])|((with_reducible refine g_load (T:=22) ?_);refine seq_of hS rfl (stp_load (T:=22) isAgg22 rfl (by with_reducible assumption) (by simp) rfl ?_);simp only [NRM]))
 replace hS:=hS.alloc (.cells #[.int .i64 0,.int .i64 2] 3 (0,0));simp only [NRH] at hS;have hrowN:=hS.rowSl 3 rfl;have hlit:=SlC.ofBlk (k:=1) (n:=2) (arr:=#[.int .i64 0,.int .i64 2]) hS (List.mem_of_getElem? (i:=4) rfl) rfl (by decide);have hi2:∀ y ∈ [(0:Int),2],InI y:=by intro y hy;simp at hy;unfold InI;omega
 refine (sameInts_any ad _ c 2 2 2 [0,2] [0,2] _ ⟨hrowN.old,hi2⟩ ⟨hlit.old,hi2⟩).mono ?_;rintro e w6 ⟨rfl,hq6⟩;replace hS:=hS.belowD hD0 hq6.below;simp only [decide_true];go_wp2;have hpf:=hp3.step hS hO3 hF3;go_ret;exact⟨rfl,hpf.below0⟩
end Go.Proofs
