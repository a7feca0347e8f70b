/- Of M16. -/
import Derived.Test.YtjeofihncbegfaaGreatQ45
import Derived.Test.YtjeofihncbegfaaGreatQ47
set_option maxRecDepth 100000
set_option maxHeartbeats 16000000
set_option linter.unusedVariables false
set_option linter.unusedSimpArgs false
namespace Go.Hp
open Go.Proofs.Tryz
open Go Go.RowKit
structure Gen (os:List Sz) (gs:List Gp):Prop where
 hos:∀ t ∈ os,t.ok∧t.sm
 hgs:∀ g ∈ gs,g.ok∧g.sm
 lo:os.length≤24
 lg:gs.length≤4
theorem net_ok {g:Gp} (h:g.net):g.ok∧g.sm:=by unfold Gp.net at h;unfold Gp.ok okC Gp.sm smC;omega
theorem upto_ok {g:Gp} {b:Int} (h:g.upto b) (hb:b≤60):g.ok∧g.sm:=by unfold Gp.upto at h;unfold Gp.ok okC Gp.sm smC;omega
theorem IsArr.at {w0 w wr:World} {H:List Chunk} {F S:Nat→Prop} {sg pt v e:Option Addr × Nat × Nat} {os:List Sz} {gs:List Gp} {V:List Pt} {es:List Ed} (h:IsArr wr S sg pt v e os gs V es) (hS:Heap w0 w (.frz F wr::H)) (hF:∀ k,S k→F k):IsArr w S sg pt v e os gs V es:=by
 obtain⟨prs,h3⟩:=h.vs;obtain⟨rs,h4,h5⟩:=h.es;exact⟨h.segs.move (hS.keep hF),h.pts.move (hS.keep hF),⟨prs,h3.at hS hF⟩,⟨rs,h4.move (hS.keep hF),h5.at hS hF⟩⟩
theorem IsArr.grow {w w':World} {S S':Nat→Prop} {sg pt v e:Option Addr × Nat × Nat} {os:List Sz} {gs:List Gp} {V:List Pt} {es:List Ed} (h:IsArr w S sg pt v e os gs V es) (hp:Pure w S w' S'):IsArr w' S' sg pt v e os gs V es:=by
 obtain⟨prs,h3⟩:=h.vs;obtain⟨rs,h4,h5⟩:=h.es;exact⟨h.segs.grow hp,h.pts.grow hp,⟨prs,h3.grow hp⟩,⟨rs,h4.grow hp,h5.grow hp⟩⟩
theorem Heap.frz3 {w0 w wr:World} {F:Nat→Prop} {c1 c2:Chunk} {H:List Chunk} (hS:Heap w0 w (.frz F wr::c1::c2::H)):Heap w0 w (.frz (fun k=>(F k∨c1.has k)∨c2.has k) w::H):=by
 have h1:=(hS.freeze 1 rfl).freeze 2 rfl;exact h1.join.join
end Go.Hp
namespace Go.Proofs
open Go.Proofs.Tryz
open Go.RowKit Go.Hp
theorem gen_of {o1 o2:List Sz} {xs:List Int} (h1:NetOk o1) (h2:SegsUp o2) (l1:o1.length≤20) (l2:o2.length≤4):Gen (o1++o2) ((xs.take 4).map gridZ):=by
 refine⟨fun t ht=>?_,fun g hg=>?_,by rw [List.length_append];omega,by simp;omega⟩
 ·rcases List.mem_append.1 ht with h|h
  ·obtain⟨a,b,c⟩:=h1 t h
   exact⟨⟨(net_ok a).1,(net_ok b).1,c⟩,(net_ok a).2,(net_ok b).2⟩
  ·obtain⟨a,b,c⟩:=h2 t h
   have hb:(32:Int)+2*(o2.length:Nat)≤60:=by omega
   exact⟨⟨(upto_ok a hb).1,(upto_ok b hb).1,c⟩,(upto_ok a hb).2,(upto_ok b hb).2⟩
 ·obtain⟨x,_,rfl⟩:=List.mem_map.1 hg
  have:=gridZ_bd x;exact upto_ok (b:=32) this (by decide)
theorem made_any (al am ap:Option Addr) (nl cl nm cm np cp:Nat) (xl xm xp:List Int) (w:World) (hl:Ints w (Old w) (.slice al nl cl) xl) (hm:Ints w (Old w) (.slice am nm cm) xm) (hp:Ints w (Old w) (.slice ap np cp) xp) :
 Calls Tryz.prog 10 #[.slice al nl cl,.slice am nm cm,.slice ap np cp] w fun e w'=>∃ (os:List Sz) (gs:List Gp) (V:List Pt) (es:List Ed) (sg pt v ee b1 b2 b3 b4:Option Addr × Nat × Nat) (S:Nat→Prop),e=.returned (.tuple #[.agg #[sv sg,sv pt,sv v,sv ee],.agg #[sv b1,sv b2,sv b3,sv b4],.bool true])∧Gen os gs∧Pure w (Old w) w' S∧Liv w' S∧IsArr w' S sg pt v ee os gs V es∧ArrP os gs V es:=by
 have hS:=Heap.start w
 go_enter func10,ntmps10
 go_wp2_with (with_reducible first|refine alA hS zeroValue28 fun b6 wb6 hS=>?_|refine alA hS zeroValue32 fun b7 wb7 hS=>?_)
 refine (net08_any al nl cl xl _ (hl.arg hS (by simp))).mono ?_;rintro e w' ⟨o1,ad1,cp1,rfl,ho1,hl1,hS1⟩;have hS:=hS.import hS1;simp only [NRH] at hS;clear hS1;simp only []
 go_wp2_with (fail)
 refine (segs08_any am nm cm 4 xm _ (hm.arg hS (by simp)) (by decide)).mono ?_;rintro e w' ⟨o2,ad2,cp2,rfl,ho2,hl2,hS1⟩;have hS:=hS.import hS1;simp only [NRH] at hS;clear hS1;simp only [];have hrow:=hS.rowSl 4 rfl;have hS:=hS.freeze 4 rfl;simp only [NRH] at hS
 go_wp2_with (first|((with_reducible refine g_app ?_);refine seq_append (t:=23) 3 hS underlying23 infoS rfl (by decide) rfl rfl rfl hrow (by simp) (sc_one _) (by omega) (by unfold maxLen;omega) (fun ad3 cp3 _ hS=>?_);simp only [NRM];simp only [NRH] at hS))
 refine (points08_any ap np cp 4 xp _ (hp.arg hS (by simp)) (by decide)).mono ?_;rintro e wc ⟨ad4,cp4,rfl,hS1⟩;have hS:=hS.import hS1;simp only [NRH] at hS;have hgen:=gen_of (xs:=xp) ho1 ho2 hl1 hl2;obtain⟨gs,hgs⟩:∃ gs,(xp.take 4).map gridZ=gs:=⟨_,rfl⟩;obtain⟨os,hos⟩:∃ os,o1++o2=os:=⟨_,rfl⟩;have hlen:o1.length+o2.length=os.length:=by rw [← hos,List.length_append]
 rw [hgs] at hS hgen;rw [hos] at hgen;rw [hlen,← List.flatMap_append,hos] at hS;simp only [hlen,hgs];clear hS1 hgs hos hlen ho1 ho2 hl1 hl2 hrow;have hS:=hS.order [0,3,5,1,2,4] rfl;simp only [NRF] at hS;have hv:=hS.rowSl 1 rfl;have hg:=hS.rowSl 2 rfl;have hps:=hS.pure (Old w);have hn1:∀ k,(Chunk.row (.slice ad3 os.length cp3) 121 4 os.length (os.flatMap sc)).has k→New w wc k:=fun k h=>hS.isNewC (fun _ h=>h) (List.mem_of_getElem? (i:=0) rfl) h
 have hn2:∀ k,(Chunk.row (.slice ad4 gs.length cp4) 51 2 gs.length (gs.flatMap gc)).has k→New w wc k:=fun k h=>hS.isNewC (fun _ h=>h) (List.mem_of_getElem? (i:=1) rfl) h
 have hS:=Heap.frz3 hS;have hS:=Heap.sub hS (List.sublist_append_left [_,_,_] [_]);obtain⟨F1,hF1e⟩:∃ F1,F1=fun k=>(Old w k∨(Chunk.row (.slice ad3 os.length cp3) 121 4 os.length (os.flatMap sc)).has k)∨(Chunk.row (.slice ad4 gs.length cp4) 51 2 gs.length (gs.flatMap gc)).has k:=⟨_,rfl⟩
 rw [← hF1e] at hS;have hO1:∀ k,Old w k→F1 k:=fun k h=>by rw [hF1e];exact .inl (.inl h)
 have hv1:SlC wc F1 4 (.slice ad3 os.length cp3) os.length (os.flatMap sc):=hv.weaken (fun k h=>by rw [hF1e];exact .inl (.inr h));have hg1:SlC wc F1 2 (.slice ad4 gs.length cp4) gs.length (gs.flatMap gc):=hg.weaken (fun k h=>by rw [hF1e];exact .inr h)
 have hp1:Pure w (Old w) wc F1:=⟨hps.below,hps.drawn,hO1,fun k h=>by
  rw [hF1e] at h
  rcases h with (h|h)|h
  ·exact .inl h
  ·exact .inr (hn1 k h)
  ·exact .inr (hn2 k h)⟩
 have hL1:Liv wc F1:=fun k h=>(hS.ok (.frz F1 wc) (by simp) k h).1
 have hF1:∀ k,F1 k→F1 k:=fun k h=>h
 clear hF1e hn1 hn2 hps hv hg
 have hB:gs.length+os.length*(2+2*os.length+gs.length)≤4096:=by
  have h1:os.length*(2+2*os.length+gs.length)≤24*54:=Nat.mul_le_mul hgen.lo (by have:=hgen.lo;have:=hgen.lg;omega);have:=hgen.lg;omega
 have hlo:=hgen.lo;have hlg:=hgen.lg
 go_wp2_with (fail)
 refine (new_any os gs ad3 ad4 os.length cp3 gs.length cp4 _ F1 hL1 (fun t h=>(hgen.hos t h).1) (fun g h=>(hgen.hgs g h).1) hv1 hg1 (by omega) (by omega) hB).mono ?_;rintro e w' ⟨⟨a1,n1,c1⟩,⟨a2,n2,c2⟩,⟨a3,n3,c3⟩,⟨a4,n4,c4⟩,S2,V,es,rfl,hq,hA,hP⟩;have hv2:=hv1.grow hq;have hg2:=hg1.grow hq;have hL2:=hq.liv hL1;replace hgen:=Hd hgen;replace hP:=Hd hP;clear hB;replace hS:=hS.pcl hF1 hO1 hp1 hq;obtain⟨F2,hF2,-,hp2,hO2,hS⟩:=hS;simp only [sv]
 go_wp2_with (with_reducible first|refine alA hS zeroValue28 fun b11 wb11 hS=>?_|refine stA 3 hS sizeOf28 fun _ hS=>?_)
 refine (new08_any os gs ad3 ad4 cp3 cp4 _ S2 (Liv.at hS hF2) hgen.out.hos hgen.out.hgs (hv2.move (hS.keep hF2)) (hg2.move (hS.keep hF2)) hlo hlg).mono ?_;rintro e wd ⟨av,ae,nv,cv,ce,V2,rs2,S3,rfl,hq2,hnv,hE2,hArr⟩;obtain⟨hVV,hEE⟩:=hP.out.arr.unique hArr;obtain⟨hE1s,hEsl,hE1e⟩:=hA.es;obtain⟨prs,hPL⟩:=hA.vs;have hn4:n4=es.length:=by obtain⟨h1,a,cap,h2,_⟩:=hEsl;cases h2;rfl
 have hn3:n3=V.length:=by obtain⟨h1,a,cap,h2,_⟩:=hPL.sl;cases h2;rfl
 have hnv2:nv=V.length:=by rw [hnv,hVV];simp
 have hrl:rs2.length=es.length:=by have:=congrArg List.length hEE;simpa using this.symm
 subst hn4;subst hn3;subst hnv2;rw [hrl] at hE2;replace hnv:=Hd hnv
 have hab:∀ i,i<es.length→(nth er0 hE1s i).a=(nth er0 rs2 i).a∧(nth er0 hE1s i).b=(nth er0 rs2 i).b:=fun i hi=>by
  have h1:=hE1e.el i hi;have h2:(es.map fun e=>(e.a,e.b))[i]? = (rs2.map ER.k)[i]?:=by rw [hEE]
  rw [List.getElem?_map,List.getElem?_map,List.getElem?_eq_getElem hi,List.getElem?_eq_getElem (show i<rs2.length by omega)] at h2;simp only [Option.map_some,Option.some.injEq,Prod.mk.injEq,ER.k] at h2;rw [h1.a,h1.b,nth_eq _ _ _ hi,nth_eq _ _ _ (show i<rs2.length by omega)];exact h2
 have hr1l:hE1s.length=es.length:=hE1e.len;replace hab:=Hd hab;replace hVV:=Hd hVV;replace hEE:=Hd hEE;replace hArr:=Hd hArr;have hAg:=(IsArr.at hA hS hF2).grow hq2;have hEslg:=(hEsl.move (hS.keep hF2)).grow hq2;have hL3:=hq2.liv (Liv.at hS hF2);replace hS:=hS.pcl hF2 hO2 hp2 hq2;obtain⟨F3,hF3,-,hp3,hO3,hS⟩:=hS;simp only [hrl]
 go_wp2_with (with_reducible first|refine alA hS zeroValue32 fun b13 wb13 hS=>?_|refine stA 4 hS sizeOf32 fun _ hS=>?_|refine ldB 3 hS isAgg25 ?_|refine ldB 4 hS isAgg29 ?_|refine ldB 3 hS isAgg26 ?_|refine ldB 4 hS isAgg30 ?_)
 try try simp only [NRG]
 have hs1:=hEslg.weaken hF3;have hs2:=hE2.weaken hF3
 go_loopw [15] (fun v wr=>∃ k:Nat,k≤es.length∧v=.int .i64 (k:Int)∧Heap w wr [.frz F3 wd,.blk b6 (.cells #[.slice none 0 0,.slice none 0 0,.slice none 0 0,.slice none 0 0] 28 (0,0)),.blk b7 (.cells #[.slice none 0 0,.slice none 0 0,.slice none 0 0,.slice none 0 0] 32 (0,0)),.blk b11 (.cells #[.slice a1 n1 c1,.slice a2 n2 c2,.slice a3 V.length c3,.slice a4 es.length c4] 28 (0,0)),.blk b13 (.cells #[.slice ad3 os.length cp3,.slice ad4 gs.length cp4,.slice av V.length cv,.slice ae es.length ce] 32 (0,0))]) (fun v _=>es.length - (intOf v).toNat)
 case atStart=>exact⟨0,by omega,rfl,hS⟩
 case round =>
  clear hS;obtain⟨k,hk,rfl,hS⟩:=hrel;have hle:=hs1.le
  by_cases hkl:k<es.length
  ·have hc1:=flat_cell ec_len er0 (show k<hE1s.length by omega)
   have hc2:=flat_cell ec_len er0 (show k<rs2.length by omega);obtain⟨r,hr⟩:∃ r,nth er0 hE1s k=r:=⟨_,rfl⟩;obtain⟨q,hq⟩:∃ q,nth er0 rs2 k=q:=⟨_,rfl⟩;obtain⟨h1,h2⟩:=hab.out k hkl;rw [hr] at hc1 h1 h2;rw [hq] at hc2 h1 h2;replace hc1:((hE1s.flatMap ec).drop (k*5)).take 5=[.int .i64 (r.a:Int),.int .i64 (r.b:Int),.slice r.ad r.n r.c,.int .i64 r.dir.x,.int .i64 r.dir.y]:=hc1;replace hc2:((rs2.flatMap ec).drop (k*5)).take 5=[.int .i64 (r.a:Int),.int .i64 (r.b:Int),.slice q.ad q.n q.c,.int .i64 q.dir.x,.int .i64 q.dir.y]:=by rw [h1,h2];exact hc2
   clear hr hq h1 h2
   go_wp2_with (with_reducible refine ldB 3 hS isAgg26 ?_)
   refine rg0 [.p 0,.r 1,.p 2,.p 3,.p 4,.r 5,.p 6,.r 7,.p 8,.p 9,.p 10,.r 11,.p 12,.p 13,.p 14,.r 15,.p 16,.p 17,.p 18,.r 19,.p 20,.r 21,.p 22,.p 23,.p 24,.r 25,.p 26,.p 27] [] hS fun w1 hS=>?_
   repeat (with_reducible first|refine sldB 3 isAgg26 ?_|refine sldB 4 isAgg30 ?_|refine sixE underlying26 sizeOf53 hs1 hc1 fun bq oq hcellq=>?_|refine sixE underlying30 sizeOf88 hs2 hc2 fun bq oq hcellq=>?_|refine sld0 isAgg3 ?_|refine sldJ 1 isAgg3 ?_|refine spL ?_)
   refine snL ?_;go_wp2;go_roundw
   case rel=>exact⟨k+1,by omega,by simp,hS⟩
   case measure=>simp [intOf];omega
  ·obtain rfl:es.length=k:=by omega
   go_wp2_with (with_reducible refine ldB 3 hS isAgg26 ?_)
   refine wp_region_sched2 [.r 0,.r 1,.e 2,.e 3,.p 4] [] (fun w'=>Heap w w' [.frz F3 wd,.blk b11 (.cells #[.slice a1 n1 c1,.slice a2 n2 c2,.slice a3 V.length c3,.slice a4 es.length c4] 28 (0,0)),.blk b13 (.cells #[.slice ad3 os.length cp3,.slice ad4 gs.length cp4,.slice av V.length cv,.slice ae es.length ce] 32 (0,0))]) (fun w'=>Heap w w' _) (by kernel_rfl) (by kernel_rfl) hS.drew (fun _ hZ=>Heap.sub hZ (by repeat (first|exact List.Sublist.refl _|apply List.Sublist.cons_cons|apply List.Sublist.cons))) (fun w1 hS=>?_)
   repeat (with_reducible first|refine sldA 1 isAgg28 sizeOf28 ?_|refine sldA 2 isAgg32 sizeOf32 ?_)
   refine exL ?_
   (with_reducible refine stA 1 hS sizeOf28 fun _ hS=>?_)
   refine ext_end hS.sb ?_;refine mvs ?_;refine exL ?_
   (with_reducible refine stA 2 hS sizeOf32 fun _ hS=>?_)
   refine ext_end hS.sb ?_;refine mvs ?_;refine snL ?_;go_wp2;have hpf:=hp3.step hS hO3 hF3;have hLf:=Liv.at hS hF3;have hAf:=IsArr.at hAg hS hF3;exact ret_cct 1 2 hS rfl rfl rfl rfl rfl isAgg28 sizeOf28 rfl isAgg32 sizeOf32 rfl rfl ⟨os,gs,V,es,(a1,n1,c1),(a2,n2,c2),(a3,V.length,c3),(a4,es.length,c4),(ad3,os.length,cp3),(ad4,gs.length,cp4),(av,V.length,cv),(ae,es.length,ce),S3,rfl,hgen.out,hpf,hLf,hAf,hP.out⟩
end Go.Proofs
