/- Texts for the walk of the law: LL LS. -/
import Derived.Test.YtihpoboahbpaiaaGreatQ46
set_option maxRecDepth 100000
set_option maxHeartbeats 16000000
set_option linter.unusedVariables false
set_option linter.unusedSimpArgs false
namespace Go.Hp
open Go Go.RowKit
theorem ArrP.dirX {os:List Sz} {gs:List Gp} {V:List Pt} {es:List Ed} (h:ArrP os gs V es) (hos:∀ t ∈ os,t.ok):∀ e ∈ es,(nth pt0 V e.a).x<(nth pt0 V e.b).x→e.dir.x≠0:=by
 intro e he hlt h0;obtain⟨_,_,_,s,hs,⟨huv,P,Q,hP,hQ,oP,oQ,_⟩,hd⟩:=h.edge (fun t ht=>(hos t ht).2.2) he;rw [nth_some hP,nth_some hQ] at hlt;rw [hd] at h0;obtain⟨X,hX⟩:∃ X,X=s.b.x - s.a.x:=⟨_,rfl⟩;obtain⟨Y,hY⟩:∃ Y,Y=s.b.y - s.a.y:=⟨_,rfl⟩;have e1:=tdiv_exact (x:=X) (g:=Int.gcd X Y) (Int.gcd_dvd_left ..);unfold dirZ at h0;rw [← hX,← hY] at h0;have h1:X.tdiv (Int.gcd X Y:Nat)=0:=by split at h0 <;> simp only at h0 <;> omega
 have h2:X=0:=by rw [← e1,h1];simp
 have h3:s.sg.a.x=s.sg.b.x:=by
  unfold Sz.sg Gp.pt;simp only;have:s.a.x=s.b.x:=by omega
  rw [this]
 unfold onS inBox at oP oQ
 grind
end Go.Hp
namespace Go.Proofs
open Go.RowKit Go.Hp
theorem lives10_any (w:World):Calls Tryz.prog 18 #[] w fun e w'=>e=.returned (.bool true)∧Below w.heap.size w w':=by
 have hS:=Heap.startD w;have hD0:=nd_drawn w;have hO0:=fun k (h:Old w k)=>h
 go_enter Tryz.func18,Tryz.ntmps18
 go_wp2_with (fail)
 refine (square10_any 0 0 4 (by decide) (by decide) (by decide) _).mono ?_;rintro e w1 ⟨ad1,cp1,rfl,hS1⟩;replace hS:=hS.import hS1;simp only [NRH] at hS;clear hS1;simp only [];have hv:=hS.rowSl 1 rfl;have hB1:=Heap.bel' hS hO0 (Pure.startD w (fun _=>False)).below;replace hS:=Heap.sub (Heap.join (hS.freeze 1 rfl)) (List.Sublist.refl _);obtain⟨F1,hF1e⟩:∃ F1,F1=fun k=>Old w k∨(Chunk.row (.slice ad1 4 cp1) 95 4 4 ((zqZ 0 0 4).flatMap sc)).has k:=⟨_,rfl⟩
 rw [← hF1e] at hS;have hO1:∀ k,Old w k→F1 k:=fun k h=>by rw [hF1e];exact .inl h
 have hv1:SlC w1 F1 4 (.slice ad1 4 cp1) zqS.length (zqS.flatMap sc):=hv.weaken (fun k h=>by rw [hF1e];exact .inr h);have hg1:SlC w1 F1 2 (.slice none 0 0) ([]:List Gp).length (([]:List Gp).flatMap gc):=SlC.nil _ _ _;have hF1:∀ k,F1 k→F1 k:=fun k h=>h
 clear hF1e hv
 go_wp2_with (fail)
 refine (made10_any zqS [] ad1 none 4 cp1 0 0 _ F1 (Liv.at hS hF1) zq_ok (fun g hg=>by cases hg) (hv1.move (hS.keep hF1)) (hg1.move (hS.keep hF1)) (by decide) (by decide)).mono ?_;rintro e w2 ⟨L,⟨g1,x1,y1⟩,⟨g2,x2,y2⟩,⟨g3,x3,y3⟩,⟨g4,x4,y4⟩,⟨r1,u1,v1⟩,⟨r2,u2,v2⟩,⟨r3,u3,v3⟩,⟨r4,u4,v4⟩,⟨r5,u5,v5⟩,rs,es,prs,V,RL,S2,rfl,hq,hLoc,-,hP,hR⟩;obtain⟨rfl,rfl,rfl⟩:=zq_unique hP hR;obtain⟨hdir,hne⟩:=ArrP.dirs zq_arr zq_ok;have hdx:=ArrP.dirX zq_arr zq_ok;have hVs:=zq_arr.arr.sv;have hB2:=(Heap.bel' hS hO1 hB1).trans (hq.below0.mono (Heap.bel' hS hO1 hB1).size);obtain⟨F2,hF2,hOO2,hS2⟩:=hS.pcallN hD0 hF1 hq;have hO2:=fun k h=>hOO2 k (hO1 k h)
 clear hS hOO2 hq hP hR hv1 hg1;have hS:=hS2;clear hS2;simp only [sv]
 go_wp2_with (first|(with_reducible first|refine alA hS Tryz.zeroValue34 fun b1 wb1 hS=>?_|refine alA hS Tryz.zeroValue37 fun b2 wb2 hS=>?_|refine stA 1 hS Tryz.sizeOf34 fun _ hS=>?_|refine stA 2 hS Tryz.sizeOf37 fun _ hS=>?_)|((with_reducible refine g_bs (T:=25) ?_);refine seq_buildSlice (k:=2) (z:=.agg #[.int .i64 0,.int .i64 0]) (len:=5) hS Tryz.underlying25 Tryz.sizeOf29 Tryz.zeroValue29 (by decide) (by decide) (fill5p _ _ _ _ _ _ _ _ _ _) (fun b5 wb5 hS=>?_);simp only [NRM];simp only [NRH] at hS))
 replace hS:=hS.toRow (k:=2) (m:=5) 3 rfl rfl (by decide);simp only [NRH] at hS;replace hS:Heap (nd w) _ [.frz F2 w2,_,_,.row (.slice (some ⟨b5,0,none⟩) 5 5) 29 2 5 (zqP.flatMap gc)]:=hS;have hrow:=hS.rowSl 3 rfl;replace hS:=hS.freeze 3 rfl;simp only [NRH] at hS;have hfl:(facesOf zqV zqE zqR).L.length=2*zqE.length:=by rw [zq_L];rfl
 have hgo:∀ i,i<5→(nth g0 zqP i).ok:=fun i hi=>by
  have h:i=0∨i=1∨i=2∨i=3∨i=4:=by omega
  rcases h with rfl|rfl|rfl|rfl|rfl <;> (unfold Gp.ok okC;decide)
 replace hdir:=Hd hdir;replace hdx:=Hd hdx;replace hVs:=Hd hVs;replace hfl:=Hd hfl;replace hgo:=Hd hgo
 go_loopw [5] (fun v5 wr=>∃ i:Nat,i≤5∧v5=.int .i64 (i:Int)∧Heap (nd w) wr [.frz F2 w2,.frz (fun k=>(Chunk.row (.slice (some ⟨b5,0,none⟩) 5 5) 29 2 5 (zqP.flatMap gc)).has k) wb5]) (fun v5 _=>5 - (intOf v5).toNat)
 case atStart=>exact⟨0,by omega,rfl,hS.sb⟩
 case round =>
  clear hS;obtain⟨i,hi,rfl,hS⟩:=hrel
  by_cases hil:i<5
  ·have hc:=flat_cell gc_len g0 (show i<zqP.length from hil)
   have hzf:=zq_face i hil;obtain⟨g,hg⟩:∃ g,nth g0 zqP i=g:=⟨_,rfl⟩;have hgi:=hgo.out i hil;rw [hg] at hc hzf hgi;replace hc:((zqP.flatMap gc).drop (i*2)).take 2=[.int .i64 g.x,.int .i64 g.y]:=hc;replace hzf:=Hd hzf;clear hg
   go_wp2_with (with_reducible first|refine ixE Tryz.underlying25 Tryz.sizeOf29 hrow hc fun bq oq hcellq=>?_|refine ldG hS Tryz.isAgg29 Tryz.sizeOf29 ?_)
   refine (face_any L rs zqE prs zqV 300 (facesOf zqV zqE zqR) g _ S2 (hLoc.at hS hF2) hgi (by decide) (by decide) hdir.out hdx.out hVs.out hfl.out (by decide) (by decide)).mono ?_;rintro e w3 ⟨⟨l,hl,rfl⟩,hb,-⟩;rw [hzf.out l hl];clear hl hzf hc;replace hS:=hS.belowD hD0 hb
   by_cases h2:i<2
   ·rw [if_pos h2]
    have d1:decide ((i:Int)<2)=true:=by simp;omega
    clear h2;simp only [];go_wp2;go_roundw
    case rel=>exact⟨i+1,by omega,by simp,hS⟩
    case measure=>simp [intOf];omega
   ·rw [if_neg h2]
    have d1:decide ((i:Int)<2)=false:=by simp;omega
    clear h2;simp only [];go_wp2;go_roundw
    case rel=>exact⟨i+1,by omega,by simp,hS⟩
    case measure=>simp [intOf];omega
  ·obtain rfl:i=5:=by omega
   go_wp2;go_ret;exact⟨rfl,Below.nd' (Heap.bel' hS hO2 hB2)⟩
end Go.Proofs
namespace Go.Hp
open Go Go.RowKit
theorem Gp.inI {g:Gp} (h:g.ok):InI g.x∧InI g.y:=by unfold Gp.ok okC at h;unfold InI;omega
theorem Gp.bq {g:Gp} (h:g.ok) {k:Nat} (hk:31≤k):Bq k g.pt.x∧Bq k g.pt.y :=
 ⟨Bq.int (by omega) (Nat.lt_of_lt_of_le (show g.x.natAbs<2 ^ 31 by have:=h.1;unfold okC at this;omega) (Nat.pow_le_pow_right (by decide) hk)),Bq.int (by omega) (Nat.lt_of_lt_of_le (show g.y.natAbs<2 ^ 31 by have:=h.2;unfold okC at this;omega) (Nat.pow_le_pow_right (by decide) hk))⟩
end Go.Hp
namespace Go.Proofs
open Go.RowKit Go.Hp
theorem gridZ_48 (n:Int):(gridZ n).s48:=by
 have:=gridZ_bd n;unfold Gp.s48;omega
theorem gridZ_ok (n:Int):(gridZ n).ok:=by
 have:=gridZ_bd n;unfold Gp.ok okC;omega
theorem faceQ_l {V:List Pt} {es:List Ed} {f:FRec} {Lf:List Int} {p:Pt} {l1 l2:List Nat} (hu:∀ v l l',AroundL es v l→AroundL es v l'→l=l') (h1:∀ v:Nat,v<V.length→findQ V es Lf p=(0,(v:Int))→AroundL es v l1) (h2:∀ v:Nat,v<V.length→findQ V es Lf p=(0,(v:Int))→AroundL es v l2):faceQ es f (findQ V es Lf p) l1=faceQ es f (findQ V es Lf p) l2:=by
 rcases findQ_cases V es Lf p with ⟨v,hv,e⟩|⟨e',_,e⟩|⟨z,e⟩
 ·rw [hu v _ _ (h1 v hv e) (h2 v hv e)]
 ·rw [e];simp [faceQ]
 ·rw [e];simp [faceQ]
theorem locscaled_walk (al am ak:Option Addr) (nl cl nm cm nk ck:Nat) (xl xm xk:List Int) (how fa x y:Int) (w:World) (hl:Ints w (Old w) (.slice al nl cl) xl) (hm:Ints w (Old w) (.slice am nm cm) xm) (hK:Ints w (Old w) (.slice ak nk ck) xk) (hhow:InI how) (hfa:InI fa) (hx:InI x) (hy:InI y) :
 Calls Tryz.prog 3 #[.slice al nl cl,.int .i64 how,.slice am nm cm,.slice ak nk ck,.int .i64 fa,.int .i64 x,.int .i64 y] w fun e w'=>e=.returned (.bool true)∧Below w.heap.size w w':=by
 have hS:=Heap.startD w;have hD0:=nd_drawn w
 go_enter Tryz.func3,Tryz.ntmps3
 go_wp2_with (fail)
 refine (some10_any al nl cl xl how _ (hl.arg hS (by simp)) hhow).mono ?_;rintro e w' ⟨os,ad3,cp3,rfl,hos0,hlo,hS1⟩;replace hS:=hS.import hS1;simp only [NRH] at hS;clear hS1;simp only []
 go_wp2_with (fail)
 refine (points08_any am nm cm 3 xm _ (hm.arg hS (by simp)) (by decide)).mono ?_;rintro e wc ⟨ad4,cp4,rfl,hS1⟩;replace hS:=hS.import hS1;simp only [NRH] at hS;clear hS1;obtain⟨gs,hgs0⟩:∃ gs,(xm.take 3).map gridZ=gs:=⟨_,rfl⟩
 have hgm:∀ g ∈ gs,g.s48:=fun g hg=>by
  rw [← hgs0] at hg;obtain⟨n,_,rfl⟩:=List.mem_map.1 hg;exact gridZ_48 n
 have hgs:∀ g ∈ gs,g.ok:=fun g hg=>by
  rw [← hgs0] at hg;obtain⟨n,_,rfl⟩:=List.mem_map.1 hg;exact gridZ_ok n
 have hlg:gs.length≤3:=by rw [← hgs0];simp;omega
 rw [hgs0] at hS;simp only [hgs0];clear hgs0;have hos:∀ t ∈ os,t.ok:=fun t ht=>(hos0 t ht).1
 have hom:∀ t ∈ os,t.a.s48∧t.b.s48:=fun t ht=>(hos0 t ht).2
 have hone:∀ t ∈ os,t.a≠t.b:=fun t ht=>(hos t ht).2.2
 clear hos0;have hv:=hS.rowSl 1 rfl;have hg:=hS.rowSl 2 rfl;have hB1:=Heap.bel' hS (fun k h=>h) (Pure.startD w (fun _=>False)).below;replace hS:=Heap.frz3 hS;obtain⟨F1,hF1e⟩:∃ F1,F1=fun k=>(Old w k∨(Chunk.row (.slice ad3 os.length cp3) 95 4 os.length (os.flatMap sc)).has k)∨(Chunk.row (.slice ad4 gs.length cp4) 29 2 gs.length (gs.flatMap gc)).has k:=⟨_,rfl⟩
 rw [← hF1e] at hS;have hO1:∀ k,Old w k→F1 k:=fun k h=>by rw [hF1e];exact .inl (.inl h)
 have hv1:SlC wc F1 4 (.slice ad3 os.length cp3) os.length (os.flatMap sc):=hv.weaken (fun k h=>by rw [hF1e];exact .inl (.inr h));have hg1:SlC wc F1 2 (.slice ad4 gs.length cp4) gs.length (gs.flatMap gc):=hg.weaken (fun k h=>by rw [hF1e];exact .inr h);have hF1:∀ k,F1 k→F1 k:=fun k h=>h
 clear hF1e hv hg hl hm;have hz:=aro_lt fa (most:=16777216) (by decide);have ca:=fun w'=>aro_any fa 16777216 w' (by decide) (by decide) hfa
 obtain⟨z,hz0⟩:∃ z,aro fa 16777216=z:=⟨_,rfl⟩;rw [hz0] at hz;simp only [hz0] at ca;obtain⟨k,hk⟩:∃ k,1+z=k:=⟨_,rfl⟩;have u1:IntKind.i64.wrap (1+z)=k:=by rw [hk];exact w6
 have cb1:=fun w'=>bound_any x 268435456 hx (by decide) (by decide) w'
 have cb2:=fun w'=>bound_any y 268435456 hy (by decide) (by decide) w'
 replace hk:=Hd hk;replace hos:=Hd hos;replace hom:=Hd hom;replace hgs:=Hd hgs;replace hgm:=Hd hgm;replace hone:=Hd hone;clear hz0
 go_wp2_with (fail)
 refine (ca _).mono ?_;rintro e w' ⟨rfl,rfl⟩;simp only []
 go_wp2_with (fail)
 refine (cb1 _).mono ?_;rintro e w' ⟨⟨bx,rfl,hx1,hx2⟩,rfl⟩;simp only []
 go_wp2_with (fail)
 refine (cb2 _).mono ?_;rintro e w' ⟨⟨by',rfl,hy1,hy2⟩,rfl⟩;simp only [];have hmex:∃ m:Mv2,m.k=k∧m.x=bx∧m.y=by'∧m.Far:=⟨⟨k,bx,by',by have:=hk.out;omega⟩,rfl,rfl,rfl,⟨by have:=hk.out;show k≤_;omega,⟨hx1,hx2⟩,⟨hy1,hy2⟩⟩⟩
 obtain⟨m,rfl,rfl,rfl,ho⟩:=hmex
 have hok2:∀ t ∈ os.map m.s,t.ok:=fun t ht=>by
  obtain⟨s,hs,rfl⟩:=List.mem_map.1 ht;exact⟨ho.ok (hom.out s hs).1,ho.ok (hom.out s hs).2,m.ne (hone.out s hs)⟩
 have hgk2:∀ g ∈ gs.map m.g,g.ok:=fun g hg=>by
  obtain⟨s,hs,rfl⟩:=List.mem_map.1 hg;exact ho.ok (hgm.out s hs)
 replace hok2:=Hd hok2;replace hgk2:=Hd hgk2;clear ca cb1 cb2 hx1 hx2 hy1 hy2 hz u1
 go_wp2_with (with_reducible first|refine alA hS Tryz.zeroValue29 fun b18 wb18 hS=>?_|refine stA 1 hS Tryz.sizeOf29 fun _ hS=>?_)
 have hS:=hS.addNil 29 2;simp only [NRH] at hS
 try try simp only [NRG]
 go_loopw [19,20] (fun v19 v20 wr=>∃ (i:Nat) (ad:Option Addr) (c2:Nat),i≤gs.length∧v20=.int .i64 (i:Int)∧v19=.slice ad i c2∧Heap (nd w) wr [.frz F1 wc,.blk b18 (.cells #[.int .i64 m.x,.int .i64 m.y] 29 (0,0)),.row (.slice ad i c2) 29 2 i (((gs.take i).map m.g).flatMap gc)]) (fun _ v20 _=>gs.length - (intOf v20).toNat)
 case atStart=>exact⟨0,none,0,by omega,rfl,rfl,hS⟩
 case round =>
  clear hS;obtain⟨i,ad5,c5,hi,rfl,rfl,hS⟩:=hrel
  by_cases hil:i<gs.length
  ·obtain⟨g,hgt⟩:∃ g,nth g0 gs i=g:=⟨_,rfl⟩
   have hsm:=hgm.out g (by rw [← hgt];exact nth_mem g0 gs i hil);have hts:=take_snoc g0 gs i hil;have hc:=flat_cell gc_len g0 hil;rw [hgt] at hts hc;have cp:=fun w'=>scaledP_fit m g (ho.fit hsm) w'
   obtain⟨q,hq⟩:∃ q,m.g g=q:=⟨_,rfl⟩;rw [hq] at cp;have hz:((gs.take (i+1)).map m.g).flatMap gc=((gs.take i).map m.g).flatMap gc++[.int .i64 q.x,.int .i64 q.y]:=by rw [hts,← hq];simp [gc]
   replace hz:=Hd hz;clear hts hgt hsm hq;go_wp2;refine wp_region_sched [.p 0,.p 1,.p 2,.p 3,.r 4,.p 5,.r 6,.e 7,.e 8,.m 9,.p 10] [9] (fun wZ=>Heap (nd w) wZ _) (by kernel_rfl) (by kernel_rfl) hS.drew (fun w1 hS=>?_)
   repeat (with_reducible first|refine skL ?_|refine sixE Tryz.underlying25 Tryz.sizeOf29 hg1 hc fun bq oq hcellq=>?_|refine sldA 1 Tryz.isAgg29 Tryz.sizeOf29 ?_|refine sldG Tryz.isAgg29 Tryz.sizeOf29 ?_|refine spL ?_)
   refine exL ?_
   go_wp2_with (fail)
   refine (cp _).mono ?_;rintro e w' ⟨rfl,hq⟩;simp only [];go_step;have hS:=hS.belowD hD0 hq.below;refine ext_end hS.sb ?_;refine mvs ?_;refine exL ?_
   ((with_reducible refine g_bs (T:=25) ?_);refine seq_bs1 (T:=25) (v:=.agg #[.int .i64 _,.int .i64 _]) hS Tryz.underlying25 Tryz.sizeOf29 Tryz.zeroValue29 rfl rfl rfl (by decide) (by decide) rfl (fun bl wbl hS=>?_);simp only [NRM];simp only [Value.cells] at hS)
   refine ext_end hS.sb ?_;refine mvs ?_;refine muL ?_
   ((with_reducible refine g_app ?_);refine seq_append_lit (t:=25) 2 hS Tryz.underlying25 infoG rfl (by decide) rfl rfl rfl rfl (by simp [Value.oneCell']) (by omega) (by unfold maxLen;omega) (fun ad2 cp2 _ hS=>?_);simp only [NRM];simp only [NRH] at hS)
   refine mut_end ?_;refine mvs ?_;refine snL ?_;go_wp2;go_roundw
   case rel=>exact⟨i+1,ad2,cp2,by omega,by simp,rfl,by rw [hz.out];exact hS⟩
   case measure=>simp [intOf];omega
  ·obtain rfl:gs.length=i:=by omega
   rw [List.take_length] at hS;have hlm:gs.length=(gs.map m.g).length:=(List.length_map ..).symm;have hlm2:(os.map m.s).length=os.length:=List.length_map ..;replace hlm:=Hd hlm;replace hlm2:=Hd hlm2
   go_wp2_with (fail)
   refine (made10_any os gs ad3 ad4 os.length cp3 gs.length cp4 _ F1 (Liv.at hS hF1) hos.out hgs.out (hv1.move (hS.keep hF1)) (hg1.move (hS.keep hF1)) (by omega) (by omega)).mono ?_;rintro e w2 ⟨L1,⟨a1,n1,c1⟩,⟨a2,n2,c2⟩,⟨a3,n3,c3⟩,⟨a4,n4,c4⟩,⟨s1,k1,l1⟩,⟨s2,k2,l2⟩,⟨s3,k3,l3⟩,⟨s4,k4,l4⟩,⟨s5,k5,l5⟩,rs,es,prs,V,RL,S2,rfl,hq2,hLoc,hFc,hP,hR⟩;obtain⟨hdir,hne⟩:=ArrP.dirs hP hos.out;have hdx:=hP.dirX hos.out;have hvl:=hP.vlen;have hel:=hP.elen;have hab:=hLoc.arr.ab;have hV:=hP.arr.sv
   have hvl2:V.length≤628:=by
    have:os.length*os.length≤24*24:=Nat.mul_le_mul (by omega) (by omega);omega
   have hel2:es.length≤15072:=by
    have:os.length*V.length≤24*628:=Nat.mul_le_mul (by omega) hvl2;omega
   have hgd:=facesOf_good hP hne hab hR;have hbd:=hgd.bd' (by omega) (by omega);have hfl:(facesOf V es RL).L.length=2*es.length:=hgd.llen;clear hvl hel hgd;have hvv:=((hv1.move (hS.keep hF1)).belowS (Liv.at hS hF1) hq2.below0);have hgg:=((hg1.move (hS.keep hF1)).belowS (Liv.at hS hF1) hq2.below0);have hB2:=(Heap.bel' hS hO1 hB1).trans (hq2.below0.mono (Heap.bel' hS hO1 hB1).size);have hL2:=hLoc.arr.live;have hsub2:=hq2.sub;obtain⟨F2,hF2,hOO2,hS2⟩:=hS.pcallN hD0 hF1 hq2;have hO2:=fun k h=>hOO2 k (hO1 k h)
   have hF12:=fun k h=>hOO2 k (hF1 k h)
   clear hS hOO2 hB1 hO1 hF1 hq2 hv1 hg1;have hS:=hS2;clear hS2;replace hP:=Hd hP;replace hR:=Hd hR;replace hdir:=Hd hdir;replace hne:=Hd hne;replace hdx:=Hd hdx;replace hV:=Hd hV;replace hbd:=Hd hbd;replace hab:=Hd hab;replace hfl:=Hd hfl;simp only [sv]
   go_wp2_with (with_reducible first|refine alA hS Tryz.zeroValue34 fun b21 wb21 hS=>?_|refine alA hS Tryz.zeroValue37 fun b22 wb22 hS=>?_|refine stA 3 hS Tryz.sizeOf34 fun _ hS=>?_|refine stA 4 hS Tryz.sizeOf37 fun _ hS=>?_|refine ldA 1 hS Tryz.isAgg29 Tryz.sizeOf29 ?_)
   refine (scaledS_fit m os (fun t ht=>⟨ho.fit (hom.out t ht).1,ho.fit (hom.out t ht).2⟩) ad3 cp3 _ (hvv.move (hS.keep hF12)).old (by omega)).mono ?_;rintro e w3 ⟨ad6,c6,rfl,hS1⟩;replace hS:=hS.import hS1;simp only [NRH] at hS;clear hS1;simp only [];have hS:=hS.order [0,5,2,1,4,3] rfl;simp only [NRF] at hS;have hv:=hS.rowSl 1 rfl;have hg:=hS.rowSl 2 rfl;have hB3:=Heap.bel' hS hO2 hB2;have hLoc3:=hLoc.at hS hF2;have hFc3:=hFc.at hS hF2;have hgg3:=hgg.move (hS.keep hF12);have hS:=Heap.frz3 hS;obtain⟨F3,hF3e⟩:∃ F3,F3=fun k=>(F2 k∨(Chunk.row (.slice ad6 os.length c6) 95 4 os.length ((os.map m.s).flatMap sc)).has k)∨(Chunk.row (.slice ad5 gs.length c5) 29 2 gs.length ((gs.map m.g).flatMap gc)).has k:=⟨_,rfl⟩
   rw [← hF3e] at hS;have hO3:∀ k,Old w k→F3 k:=fun k h=>by rw [hF3e];exact .inl (.inl (hO2 k h))
   have hS23:∀ k,S2 k→F3 k:=fun k h=>by rw [hF3e];exact .inl (.inl (hF2 k h))
   have hF13:∀ k,F1 k→F3 k:=fun k h=>by rw [hF3e];exact .inl (.inl (hF12 k h))
   have hv3:SlC w3 F3 4 (.slice ad6 os.length c6) (os.map m.s).length ((os.map m.s).flatMap sc):=by rw [hlm2.out];exact hv.weaken (fun k h=>by rw [hF3e];exact .inl (.inr h))
   have hg3:SlC w3 F3 2 (.slice ad5 gs.length c5) (gs.map m.g).length ((gs.map m.g).flatMap gc):=by rw [← hlm.out];exact hg.weaken (fun k h=>by rw [hF3e];exact .inr h)
   have hF3:∀ k,F3 k→F3 k:=fun k h=>h
   clear hF3e hv hg hB2 hO2 hF2 hF12 hLoc hFc hvv hgg
   go_wp2_with (fail)
   refine (made10_any (os.map m.s) (gs.map m.g) ad6 ad5 os.length c6 gs.length c5 _ F3 (Liv.at hS hF3) hok2.out hgk2.out (hv3.move (hS.keep hF3)) (hg3.move (hS.keep hF3)) (by have:=hlm2.out;omega) (by have:=hlm.out;omega)).mono ?_;rintro e w4 ⟨L2,⟨p1,q1,r1⟩,⟨p2,q2,r2⟩,⟨p3,q3,r3⟩,⟨p4,q4,r4⟩,⟨t1,x1,y1⟩,⟨t2,x2,y2⟩,⟨t3,x3,y3⟩,⟨t4,x4,y4⟩,⟨t5,x5,y5⟩,rs2,es',prs2,V',RL2,S4,rfl,hq4,hLoc2,hFc2,hP2,hR2⟩;obtain⟨rfl,rfl⟩:=ArrP.unique (fun t ht=>(hok2.out t ht).2.2) (hP.out.scaled m hone.out) hP2;have hdx2:=hP2.dirX hok2.out;have hV2:=hP2.arr.sv;have hV2l:(V.map m.p).length=V.length:=List.length_map ..;have hRe:RL2=RL:=IsRL.unique hP.out hone.out ⟨by rw [hR2.len,hV2l],fun v hv=>hR2.at' v (by rw [hV2l];exact hv)⟩ hR.out;subst hRe;have hff:facesOf (V.map m.p) es RL2=facesOf V es RL2:=m.fr hab.out RL2 (fun v=>outL es (nth [] RL2 v));rw [hff] at hLoc2 hFc2;have hqs:=fun (g:Gp)=>m.findQ hab.out (facesOf V es RL2).L g.pt
   obtain⟨f,hf⟩:∃ f,facesOf V es RL2=f:=⟨_,rfl⟩;rw [hf] at hLoc2 hFc2 hLoc3 hFc3 hbd hfl;simp only [hf] at hqs;clear hff hf hP2 hR2 hR;have hLoc4:=(hLoc3.at hS hS23).below hq4.below0;have hFc4:=(hFc3.at hS hS23).belowS (Liv.at hS hS23) hq4.below0;have hgg4:=(hgg3.move (hS.keep hF13)).belowS (Liv.at hS hF13) hq4.below0;have hB4:=(Heap.bel' hS hO3 hB3).trans (hq4.below0.mono (Heap.bel' hS hO3 hB3).size);obtain⟨F4,hF4,hOO4,hS4⟩:=hS.pcallN hD0 hF3 hq4;have hO4:=fun k h=>hOO4 k (hO3 k h)
   have hS24:=fun k h=>hOO4 k (hS23 k h)
   have hF14:=fun k h=>hOO4 k (hF13 k h)
   clear hS hOO4 hB3 hO3 hF3 hS23 hF13 hq4 hLoc3 hFc3 hgg3 hv3 hg3;have hS:=hS4;clear hS4;replace hV2:=Hd hV2;replace hdx2:=Hd hdx2;replace hqs:=Hd hqs;replace hV2l:=Hd hV2l;simp only [sv]
   go_wp2_with (with_reducible first|refine alA hS Tryz.zeroValue34 fun b24 wb24 hS=>?_|refine alA hS Tryz.zeroValue37 fun b25 wb25 hS=>?_|refine stA 4 hS Tryz.sizeOf34 fun _ hS=>?_|refine stA 5 hS Tryz.sizeOf37 fun _ hS=>?_|refine ldA 2 hS Tryz.isAgg37 Tryz.sizeOf37 ?_|refine ldA 5 hS Tryz.isAgg37 Tryz.sizeOf37 ?_)
   refine (equalF_any (s1,k1,l1) (s2,k2,l2) (s3,k3,l3) (s4,k4,l4) (s5,k5,l5) (t1,x1,y1) (t2,x2,y2) (t3,x3,y3) (t4,x4,y4) (t5,x5,y5) f _ (hFc4.at hS hS24).old (hFc2.at hS hF4).old hbd.out).mono ?_;rintro e w7 ⟨rfl,hq7⟩;replace hS:=hS.belowD hD0 hq7.below;simp only []
   go_wp2_with (fail)
   have hkA:Ints _ (Old w) (.slice ak nk ck) xk:=⟨hK.1.move (fun k h=>(Heap.bel' hS hO4 hB4).block k h),hK.2⟩;refine (points08_any ak nk ck 12 xk _ (Ints.old hkA) (by decide)).mono ?_;rintro e wd ⟨ad8,cp8,rfl,hS1⟩;replace hS:=hS.import hS1;simp only [NRH] at hS;clear hS1 hkA;obtain⟨ks,hks⟩:∃ ks,(xk.take 12).map gridZ=ks:=⟨_,rfl⟩
   have hkm:∀ g ∈ ks,g.s48:=fun g hg=>by
    rw [← hks] at hg;obtain⟨n,_,rfl⟩:=List.mem_map.1 hg;exact gridZ_48 n
   have hko:∀ g ∈ ks,g.ok:=fun g hg=>by
    rw [← hks] at hg;obtain⟨n,_,rfl⟩:=List.mem_map.1 hg;exact gridZ_ok n
   have hkl:ks.length≤12:=by rw [← hks];simp;omega
   rw [hks] at hS;simp only [hks];clear hks hK;have hg5:SlC w4 F4 2 (.slice ad4 gs.length cp4) gs.length (gs.flatMap gc):=hgg4.weaken hF14
   go_wp2_with (first|((with_reducible refine g_app ?_);refine seq_append (t:=25) 6 hS Tryz.underlying25 infoG rfl (by decide) rfl rfl rfl hg5 (by simp) (gc_one _) (by omega) (by unfold maxLen;omega) (fun ad9 cp9 wY hS=>?_);simp only [NRM];simp only [NRH] at hS))
   obtain⟨hs,hhs⟩:∃ hs,ks++gs=hs:=⟨_,rfl⟩;have hlen:ks.length+gs.length=hs.length:=by rw [← hhs,List.length_append]
   have hhm:∀ g ∈ hs,g.s48:=fun g hg=>by
    rw [← hhs] at hg;exact (List.mem_append.1 hg).elim (hkm g) (hgm.out g)
   have hho:∀ g ∈ hs,g.ok:=fun g hg=>by
    rw [← hhs] at hg;exact (List.mem_append.1 hg).elim (hko g) (hgs.out g)
   have hhl:hs.length≤15:=by omega
   rw [hlen,← List.flatMap_append,hhs] at hS;simp only [hlen];clear hlen hhs hkm hko hkl hg5;replace hhm:=Hd hhm;replace hho:=Hd hho;have hS:=hS.order [0,6,1,2,3,4,5] rfl;simp only [NRF] at hS;have hrow:=hS.rowSl 1 rfl;have hLoc5:=hLoc4.at hS hS24;have hLoc6:=hLoc2.at hS hF4;have hB5:=Heap.bel' hS hO4 hB4;replace hS:=Heap.join (hS.freeze 1 rfl);obtain⟨F5,hF5e⟩:∃ F5,F5=fun k=>F4 k∨(Chunk.row (.slice ad9 hs.length cp9) 29 2 hs.length (hs.flatMap gc)).has k:=⟨_,rfl⟩
   try simp only [NRH] at hS
   rw [← hF5e] at hS;have hO5:∀ k,Old w k→F5 k:=fun k h=>by rw [hF5e];exact .inl (hO4 k h)
   have hS25:∀ k,S2 k→F5 k:=fun k h=>by rw [hF5e];exact .inl (hS24 k h)
   have hS45:∀ k,S4 k→F5 k:=fun k h=>by rw [hF5e];exact .inl (hF4 k h)
   have hh5:=hrow.weaken (T:=F5) (fun k h=>by rw [hF5e];exact .inr h);clear hF5e hrow hO4 hS24 hF4 hF14 hLoc4 hLoc2 hB4 hFc2 hFc4 hgg4;have hun:∀ v l l',AroundL es v l→AroundL es v l'→l=l':=fun v l l' h1 h2=>AroundL.unique hP.out hone.out h1 h2
   replace hun:=Hd hun
   go_loopw [28] (fun v28 wr=>∃ (i:Nat),i≤hs.length∧v28=.int .i64 (i:Int)∧Heap (nd w) wr [.frz F5 wY,.blk b18 (.cells #[.int .i64 m.x,.int .i64 m.y] 29 (0,0))]) (fun v28 _=>hs.length - (intOf v28).toNat)
   case atStart=>exact⟨0,by omega,rfl,hS.sb⟩
   case round =>
    clear hS;obtain⟨i,hi,rfl,hS⟩:=hrel
    by_cases hil:i<hs.length
    ·obtain⟨g,hgt⟩:∃ g,nth g0 hs i=g:=⟨_,rfl⟩
     have hsm:=hhm.out g (by rw [← hgt];exact nth_mem g0 hs i hil);have hgo:=hho.out g (by rw [← hgt];exact nth_mem g0 hs i hil);have hc:=flat_cell gc_len g0 hil;rw [hgt] at hc;have hq2:=hqs.out g;have cp:=fun w'=>scaledP_fit m g (ho.fit hsm) w'
     have hqo:=ho.ok hsm;obtain⟨q,hq⟩:∃ q,m.g g=q:=⟨_,rfl⟩;have hqp:q.pt=m.p g.pt:=by rw [← hq];exact m.pt g
     rw [← hqp] at hq2;rw [hq] at cp hqo;have cA:=fun w' S' h'=>face_any L1 rs es prs V 300 f g w' S' h' hgo (by decide) (by decide) hdir.out hdx.out hV.out hfl.out (by omega) (by omega)
     have cB:=fun w' S' h'=>face_any L2 rs2 es prs2 (V.map m.p) 300 f q w' S' h' hqo (by decide) (by decide) hdir.out hdx2.out hV2.out hfl.out (by have:=hV2l.out;omega) (by omega)
     have kA:Bq 300 g.pt.x∧Bq 300 g.pt.y:=Gp.bq hgo (by decide);have kB:Bq 300 q.pt.x∧Bq 300 q.pt.y:=Gp.bq hqo (by decide);have cC:=fun p w' S' h' hp=>find_any L1 rs es prs V 300 f p g.pt w' S' h' hp kA (by decide) hdir.out hdx.out hV.out hfl.out (by omega) (by omega)
     have cD:=fun p w' S' h' hp=>find_any L2 rs2 es prs2 (V.map m.p) 300 f p q.pt w' S' h' hp kB (by decide) hdir.out hdx2.out hV2.out hfl.out (by have:=hV2l.out;omega) (by omega)
     simp only [hq2] at cB cD;replace hq2:=Hd hq2;clear hgt hsm hq hqp kA kB
     go_wp2_with (with_reducible first|refine ixE Tryz.underlying25 Tryz.sizeOf29 hh5 hc fun bq oq hcellq=>?_|refine ldG hS Tryz.isAgg29 Tryz.sizeOf29 ?_)
     refine (cA _ S2 (hLoc5.at hS hS25)).mono ?_;rintro e wa ⟨⟨l1,hl1,rfl⟩,hba,-⟩;replace hS:=hS.belowD hD0 hba;simp only [];go_wp2;refine wp_region_sched [.p 0,.p 1,.p 2,.p 3,.r 4,.p 5,.r 6,.e 7,.e 8,.p 9,.p 10,.p 11,.p 12,.p 13] [] (fun wZ=>Heap (nd w) wZ _) (by kernel_rfl) (by kernel_rfl) hS.drew (fun w1 hS=>?_)
     repeat (with_reducible first|refine skL ?_|refine sixE Tryz.underlying25 Tryz.sizeOf29 hh5 hc fun bq oq hcellq=>?_|refine sldA 1 Tryz.isAgg29 Tryz.sizeOf29 ?_|refine sldG Tryz.isAgg29 Tryz.sizeOf29 ?_|refine spL ?_)
     refine exL ?_
     go_wp2_with (fail)
     refine (cp _).mono ?_;rintro e w' ⟨rfl,hq⟩;simp only [];go_step;replace hS:=hS.belowD hD0 hq.below;refine ext_end hS.sb ?_;refine mvs ?_;refine exL ?_
     go_wp2_with (fail)
     refine (cB _ S4 (hLoc6.at hS hS45)).mono ?_;rintro e w' ⟨⟨l2,hl2,rfl⟩,hbb,-⟩;simp only [];go_step;replace hS:=hS.belowD hD0 hbb;refine ext_end hS.sb ?_;refine mvs ?_;refine snL ?_;have hfq:faceQ es f (findQ V es f.L g.pt) l2=faceQ es f (findQ V es f.L g.pt) l1:=faceQ_l hun.out (fun v hv e=>hl2 v (by rw [hV2l.out];exact hv) e) hl1;rw [hfq];obtain⟨fa,hfa⟩:∃ z,faceQ es f (findQ V es f.L g.pt) l1=z:=⟨_,rfl⟩;rw [hfa];clear hfa hfq hl1 hl2 cA cB hba hbb;obtain⟨⟨s1,s2⟩,hss⟩:∃ z,findQ V es f.L g.pt=z:=⟨_,rfl⟩;simp only [hss] at cC cD;clear hss
     go_wp2_with (with_reducible first|refine ixE Tryz.underlying25 Tryz.sizeOf29 hh5 hc fun bq oq hcellq=>?_|refine ldG hS Tryz.isAgg29 Tryz.sizeOf29 ?_)
     refine (pof_any g.x g.y _ S2 (Gp.inI hgo).1 (Gp.inI hgo).2 (Liv.at hS hS25)).mono ?_;rintro e wa ⟨p,S6,rfl,hq6,hp6⟩;have hL6:=(hLoc5.at hS hS25).grow hq6;replace hS:=hS.belowD hD0 hq6.below;simp only []
     go_wp2_with (fail)
     refine (cC p _ S6 hL6 hp6).mono ?_;rintro e wa ⟨rfl,hq7⟩;replace hS:=hS.belowD hD0 hq7.below;clear hL6 hp6 hq6 hq7;simp only []
     go_wp2_with (with_reducible first|refine alA hS Tryz.zeroValue47 fun b33 wb33 hS=>?_|refine stA 2 hS Tryz.sizeOf47 fun _ hS=>?_)
     refine wp_region_box 1 [.p 0,.p 1,.p 2,.p 3,.r 4,.p 5,.r 6,.e 7,.e 8,.e 9,.p 10,.p 11,.p 12] [.e 14,.p 15] [] [bxz 13 35 47 (.agg #[.int .i64 0,.int .i64 0])] (nd w) _ (by kernel_rfl) (by kernel_rfl) (boxesOk1 rfl Tryz.zeroValue47) hS.drew ?_;obtain⟨hsC,hkC⟩:=hS.cstart
     repeat (first|(with_reducible refine pskL ?_)|((with_reducible refine p_pure ?_);refine pre_any rfl rfl (any_index (T:=25) Tryz.underlying25 Tryz.sizeOf29 rfl rfl hh5 (by omega) (by omega) (by omega) (fun bq oq hcellq=>?_));simp only [Int.toNat_natCast] at hcellq;rw [hc] at hcellq;simp only [NRM])|((with_reducible refine p_read ?_);refine pre_of rfl rfl (stp_loadk (T:=29) Tryz.isAgg29 Tryz.sizeOf29 rfl (by with_reducible assumption) (by simp) rfl ?_);simp only [NRM])|(with_reducible first|refine pldA 1 Tryz.isAgg29 Tryz.sizeOf29 ?_|refine ppL ?_))
     refine pre_ext rfl (fun B wB hS=>?_);simp only [NRH] at hS
     go_wp2_with (fail)
     refine (cp _).mono ?_;rintro e w' ⟨rfl,hq⟩;simp only [];go_step;replace hS:=hS.belowD hD0 hq.below;refine pre_end (H:=_) hS hsC hkC ?_;refine mvp ?_;refine pre_ext rfl (fun B wB hS=>?_);simp only [NRH] at hS
     go_wp2_with (fail)
     refine (pof_any q.x q.y _ S4 (Gp.inI hqo).1 (Gp.inI hqo).2 (Liv.at hS hS45)).mono ?_;rintro e w' ⟨p',S7,rfl,hq6,hp7⟩;simp only [];go_step;have hkC:=Heap.keepC hS hq6.below hsC hkC;have hL7:=(hLoc6.at hS hS45).grow hq6;obtain⟨F6,hF6,hOO6,hS6⟩:=hS.pcall hS45 hq6;have hsC:=SubC.trans hsC hOO6;clear hS;have hS:=hS6;clear hS6;refine pre_end (H:=_) hS hsC hkC ?_;refine mvp ?_;refine pre_ext rfl (fun B wB hS=>?_);simp only [NRH] at hS
     go_wp2_with (fail)
     refine (cD p' _ S7 (hL7.at hS hF6) (hp7.at hS hF6)).mono ?_;rintro e w' ⟨rfl,hq7⟩;simp only [];go_step;replace hS:=hS.belowD hD0 hq7.below;refine pre_end (H:=_) hS hsC hkC ?_;refine mvp ?_;refine pre_nil1 (fun b35 wB hS=>?_);simp only [NRH] at hS;simp only [NRM];refine exL ?_
     (with_reducible refine stA 3 hS Tryz.sizeOf47 fun _ hS=>?_)
     refine ext_end (Heap.toC hS.sb hsC hkC) ?_;refine mvs ?_;refine snL ?_;have hne2:(fa != fa)=false:=by simp
     go_wp2_with (with_reducible first|refine ldA 2 hS Tryz.isAgg47 Tryz.sizeOf47 ?_|refine ldA 3 hS Tryz.isAgg47 Tryz.sizeOf47 ?_)
     go_roundw
     case rel=>exact⟨i+1,by omega,by simp,Heap.toC hS.sb hsC hkC⟩
     case measure=>simp [intOf];omega
    ·obtain rfl:i=hs.length:=by omega
     go_wp2_with (fail)
     refine (lives10_any _).mono ?_;rintro e w9 ⟨rfl,hb9⟩;simp only [];go_wp2;have hpf:=Below.nd' (Heap.bel' hS hO5 hB5);go_ret;exact⟨rfl,hpf.trans (hb9.mono hpf.size)⟩
end Go.Proofs
