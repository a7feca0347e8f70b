/- Of WL. -/
import Derived.Test.YtjeofihncbegfaaGreatQ49
import Derived.Test.YtjeofihncbegfaaGreatQ50
set_option maxRecDepth 100000
set_option maxHeartbeats 16000000
set_option linter.unusedVariables false
set_option linter.unusedSimpArgs false
namespace Go.Hp
open Go.Proofs.Tryz
open Go Go.RowKit
theorem FGood.bd {m n:Nat} {org:Nat→Nat} {hasE:Nat→Bool} {f:FRec} (h:FGood m n org hasE f) (hm:m≤30000) (hn:n≤65536):FBd f:=by
 have h1:=h.nlen;have h2:=h.llen;have h3:=h.olen;have h4:=h.ilen;have h5:=h.alen;exact⟨by omega,by omega,by omega,by omega,by omega,fun i hi=>by have:=h.ilen_le (i:=i) (by omega);omega,fun i hi=>by have:=h.alen_le (i:=i) (by omega);omega⟩
theorem IsFc.below {w w':World} {S:Nat→Prop} {s1 s2 s3 s4 s5:Option Addr × Nat × Nat} {f:FRec} (h:IsFc w S s1 s2 s3 s4 s5 f) (hL:Liv w S) (hb:Below w.heap.size w w'):IsFc w' S s1 s2 s3 s4 s5 f:=h.move fun k hk=>hb.block k (hL k hk)
theorem ArrIn.below {w w':World} {S:Nat→Prop} {a3 a4:Option Addr} {n3 c3 n4 c4:Nat} {rs:List ER} {es:List Ed} {prs:List PR} {V:List Pt} {k:Nat} (h:ArrIn w S a3 a4 n3 c3 n4 c4 rs es prs V k) (hb:Below w.heap.size w w'):ArrIn w' S a3 a4 n3 c3 n4 c4 rs es prs V k :=
 h.move (fun k hk=>Nat.lt_of_lt_of_le (h.live k hk) hb.size) fun k hk=>hb.block k (h.live k hk)
theorem SlC.below2 {w w':World} {S:Nat→Prop} {k n:Nat} {v:Value} {cs:List Value} (h:SlC w S k v n cs) (hL:Liv w S) (hb:Below w.heap.size w w'):SlC w' S k v n cs:=h.move fun k hk=>hb.block k (hL k hk)
theorem Heap.bel {w0 w wr:World} {F:Nat→Prop} {H:List Chunk} (hS:Heap w0 w (.frz F wr::H)) (hO:∀ k,Old w0 k→F k) (hb:Below w0.heap.size w0 wr):Below w0.heap.size w0 w :=
 ⟨hS.os,hS.tape,hS.output,hS.size,fun k hk=>(hS.keep hO k hk).trans (hb.block k hk)⟩
theorem Below.dn {w w':World} (h:Below w.heap.size w w'):Below (Hp.nd w).heap.size (Hp.nd w) w':=⟨h.os,h.tape,h.output,h.size,h.block⟩
theorem Below.nd {w w':World} (h:Below (Hp.nd w).heap.size (Hp.nd w) w'):Below w.heap.size w w':=⟨h.os,h.tape,h.output,h.size,h.block⟩
theorem ext_nth {A B:List (List Nat)} (hl:A.length=B.length) (h:∀ i,i<A.length→nth [] A i=nth [] B i):A=B:=by
 apply List.ext_getElem hl;intro i h1 h2;have:=h i h1
 rwa [nth_eq _ _ _ h1,nth_eq _ _ _ h2] at this
end Go.Hp
namespace Go.Proofs
open Go.Proofs.Tryz
open Go.RowKit Go.Hp
theorem scaled_walk (al am ap:Option Addr) (nl cl nm cm np cp:Nat) (xl xm xp:List Int) (fa x y:Int) (w:World) (hl:Ints w (Old w) (.slice al nl cl) xl) (hm:Ints w (Old w) (.slice am nm cm) xm) (hp:Ints w (Old w) (.slice ap np cp) xp) (hfa:InI fa) (hx:InI x) (hy:InI y) :
 Calls Tryz.prog 8 #[.slice al nl cl,.slice am nm cm,.slice ap np cp,.int .i64 fa,.int .i64 x,.int .i64 y] w fun e w'=>e=.returned (.bool true)∧Below w.heap.size w w':=by
 have hS:=Heap.start w
 go_enter func8,ntmps8
 go_wp2_with (fail)
 refine (net08_any al nl cl xl _ (hl.arg hS (by simp))).mono ?_;rintro e w' ⟨o1,ad1,cp1,rfl,ho1,hl1,hS1⟩;have hS:=hS.import hS1;simp only [NRH] at hS;clear hS1;simp only []
 go_wp2_with (fail)
 refine (segs08_any am nm cm 4 xm _ (hm.arg hS (by simp)) (by decide)).mono ?_;rintro e w' ⟨o2,ad2,cp2,rfl,ho2,hl2,hS1⟩;have hS:=hS.import hS1;simp only [NRH] at hS;clear hS1;simp only [];have hrow:=hS.rowSl 2 rfl;have hS:=hS.freeze 2 rfl;simp only [NRH] at hS
 go_wp2_with (first|((with_reducible refine g_app ?_);refine seq_append (t:=23) 1 hS underlying23 infoS rfl (by decide) rfl rfl rfl hrow (by simp) (sc_one _) (by omega) (by unfold maxLen;omega) (fun ad3 cp3 _ hS=>?_);simp only [NRM];simp only [NRH] at hS))
 refine (points08_any ap np cp 4 xp _ (hp.arg hS (by simp)) (by decide)).mono ?_;rintro e wc ⟨ad4,cp4,rfl,hS1⟩;have hS:=hS.import hS1;simp only [NRH] at hS;have hgen:=gen_of (xs:=xp) ho1 ho2 hl1 hl2;obtain⟨gs,hgs⟩:∃ gs,(xp.take 4).map gridZ=gs:=⟨_,rfl⟩;obtain⟨os,hos⟩:∃ os,o1++o2=os:=⟨_,rfl⟩;have hlen:o1.length+o2.length=os.length:=by rw [← hos,List.length_append]
 rw [hgs] at hS hgen;rw [hos] at hgen;rw [hlen,← List.flatMap_append,hos] at hS;simp only [hlen,hgs];clear hS1 hgs hos hlen ho1 ho2 hl1 hl2 hrow;have hS:=hS.order [0,1,3,2] rfl;simp only [NRF] at hS;have hv:=hS.rowSl 1 rfl;have hg:=hS.rowSl 2 rfl;have hB1:=hS.toBelow (by simp);have hS:=Heap.sub (Heap.frz3 hS) (List.sublist_append_left [_] [_]);obtain⟨F1,hF1e⟩:∃ F1,F1=fun k=>(Old w k∨(Chunk.row (.slice ad3 os.length cp3) 121 4 os.length (os.flatMap sc)).has k)∨(Chunk.row (.slice ad4 gs.length cp4) 51 2 gs.length (gs.flatMap gc)).has k:=⟨_,rfl⟩
 rw [← hF1e] at hS;have hO1:∀ k,Old w k→F1 k:=fun k h=>by rw [hF1e];exact .inl (.inl h)
 have hv1:SlC wc F1 4 (.slice ad3 os.length cp3) os.length (os.flatMap sc):=hv.weaken (fun k h=>by rw [hF1e];exact .inl (.inr h));have hg1:SlC wc F1 2 (.slice ad4 gs.length cp4) gs.length (gs.flatMap gc):=hg.weaken (fun k h=>by rw [hF1e];exact .inr h);have hF1:∀ k,F1 k→F1 k:=fun k h=>h
 clear hF1e hv hg;have hlo:=hgen.lo;have hlg:=hgen.lg;have hos:∀ t ∈ os,t.ok:=fun t ht=>(hgen.hos t ht).1
 have hom:∀ t ∈ os,t.sm:=fun t ht=>(hgen.hos t ht).2
 have hgs:∀ g ∈ gs,g.ok:=fun g hg=>(hgen.hgs g hg).1
 have hgm:∀ g ∈ gs,g.sm:=fun g hg=>(hgen.hgs g hg).2
 have hone:∀ t ∈ os,t.a≠t.b:=fun t ht=>(hos t ht).2.2
 have hBn:gs.length+os.length*(2+2*os.length+gs.length)≤4096:=by
  have h1:os.length*(2+2*os.length+gs.length)≤24*54:=Nat.mul_le_mul hlo (by omega);omega
 have hz:=aro_lt fa (most:=1048576) (by decide);have ca:=fun w'=>aro_any fa 1048576 w' (by decide) (by decide) hfa
 obtain⟨z,hz0⟩:∃ z,aro fa 1048576=z:=⟨_,rfl⟩;rw [hz0] at hz;simp only [hz0] at ca;obtain⟨k,hk⟩:∃ k,1+z=k:=⟨_,rfl⟩;have u1:IntKind.i64.wrap (1+z)=k:=by rw [hk];exact Go.Hp.w6
 have cb1:=fun w'=>bound_any x 536870912 hx (by decide) (by decide) w'
 have cb2:=fun w'=>bound_any y 536870912 hy (by decide) (by decide) w'
 replace hk:=Hd hk;replace hgen:=Hd hgen;replace hBn:=Hd hBn;replace hos:=Hd hos;replace hom:=Hd hom;replace hgs:=Hd hgs;replace hgm:=Hd hgm;replace hone:=Hd hone;clear hz0
 go_wp2_with (fail)
 refine (ca _).mono ?_;rintro e w' ⟨rfl,rfl⟩;simp only []
 go_wp2_with (fail)
 refine (cb1 _).mono ?_;rintro e w' ⟨⟨bx,rfl,hx1,hx2⟩,rfl⟩;simp only []
 go_wp2_with (fail)
 refine (cb2 _).mono ?_;rintro e w' ⟨⟨by',rfl,hy1,hy2⟩,rfl⟩;simp only [];have hmex:∃ m:Mv2,m.k=k∧m.x=bx∧m.y=by'∧m.Ok:=⟨⟨k,bx,by',by have:=hk.out;omega⟩,rfl,rfl,rfl,⟨by have:=hk.out;show k≤_;omega,⟨hx1,hx2⟩,⟨hy1,hy2⟩⟩⟩
 obtain⟨m,rfl,rfl,rfl,ho⟩:=hmex
 have hok2:∀ t ∈ os.map m.s,t.ok:=fun t ht=>by
  obtain⟨s,hs,rfl⟩:=List.mem_map.1 ht;exact⟨m.ok ho (hom.out s hs).1,m.ok ho (hom.out s hs).2,m.ne (hone.out s hs)⟩
 have hgk2:∀ g ∈ gs.map m.g,g.ok:=fun g hg=>by
  obtain⟨s,hs,rfl⟩:=List.mem_map.1 hg;exact m.ok ho (hgm.out s hs)
 replace hok2:=Hd hok2;replace hgk2:=Hd hgk2;clear ca cb1 cb2 hx1 hx2 hy1 hy2 hz u1
 go_wp2_with (with_reducible first|refine alA hS zeroValue51 fun b16 wb16 hS=>?_|refine stA 1 hS sizeOf51 fun _ hS=>?_)
 have hS:=hS.addNil 51 2;simp only [NRH] at hS
 try try simp only [NRG]
 go_loopw [17,18] (fun v17 v18 wr=>∃ (i:Nat) (ad:Option Addr) (c2:Nat),i≤gs.length∧v18=.int .i64 (i:Int)∧v17=.slice ad i c2∧Heap w wr [.frz F1 wc,.blk b16 (.cells #[.int .i64 m.x,.int .i64 m.y] 51 (0,0)),.row (.slice ad i c2) 51 2 i (((gs.take i).map m.g).flatMap gc)]) (fun _ v18 _=>gs.length - (intOf v18).toNat)
 case atStart=>exact⟨0,none,0,by omega,rfl,rfl,hS⟩
 case round =>
  clear hS;obtain⟨i,ad5,c5,hi,rfl,rfl,hS⟩:=hrel
  by_cases hil:i<gs.length
  ·obtain⟨g,hgt⟩:∃ g,nth g0 gs i=g:=⟨_,rfl⟩
   have hsm:=hgm.out g (by rw [← hgt];exact nth_mem g0 gs i hil);have hts:=take_snoc g0 gs i hil;have hc:=flat_cell gc_len g0 hil;rw [hgt] at hts hc;have cp:=fun w'=>scaledP_any m ho g hsm w'
   obtain⟨q,hq⟩:∃ q,m.g g=q:=⟨_,rfl⟩;rw [hq] at cp;have hz:((gs.take (i+1)).map m.g).flatMap gc=((gs.take i).map m.g).flatMap gc++[.int .i64 q.x,.int .i64 q.y]:=by rw [hts,← hq];simp [gc]
   replace hz:=Hd hz;clear hts hgt hsm hq;go_wp2;refine rg0 [.p 0,.p 1,.p 2,.p 3,.r 4,.p 5,.r 6,.e 7,.e 8,.m 9,.p 10] [9] hS fun w1 hS=>?_
   repeat (with_reducible first|refine skL ?_|refine sixE underlying24 sizeOf51 hg1 hc fun bq oq hcellq=>?_|refine sldA 1 isAgg51 sizeOf51 ?_|refine sldG isAgg51 sizeOf51 ?_|refine spL ?_)
   refine exL ?_
   go_wp2_with (fail)
   refine (cp _).mono ?_;rintro e w' ⟨rfl,hq⟩;simp only [];go_step;have hS:=hS.below hq.below hq.drawn;refine ext_end hS.sb ?_;refine mvs ?_;refine exL ?_
   ((with_reducible refine g_bs (T:=24) ?_);refine seq_bs1 (T:=24) (v:=.agg #[.int .i64 _,.int .i64 _]) hS underlying24 sizeOf51 zeroValue51 rfl rfl rfl (by decide) (by decide) rfl (fun bl wbl hS=>?_);simp only [NRM];simp only [Value.cells] at hS)
   refine ext_end hS.sb ?_;refine mvs ?_;refine muL ?_
   ((with_reducible refine g_app ?_);refine seq_append_lit (t:=24) 2 hS underlying24 infoG rfl (by decide) rfl rfl rfl rfl (by simp [Value.oneCell']) (by omega) (by unfold maxLen;omega) (fun ad2 cp2 _ hS=>?_);simp only [NRM];simp only [NRH] at hS)
   refine mut_end ?_;refine mvs ?_;refine snL ?_;go_wp2;go_roundw
   case rel=>exact⟨i+1,ad2,cp2,by omega,by simp,rfl,by rw [hz.out];exact hS⟩
   case measure=>simp [intOf];omega
  ·obtain rfl:gs.length=i:=by omega
   rw [List.take_length] at hS;have hlm:gs.length=(gs.map m.g).length:=(List.length_map ..).symm;have hlm2:(os.map m.s).length=os.length:=List.length_map ..;replace hlm:=Hd hlm;replace hlm2:=Hd hlm2;have hBm:=hBn.out;have hv1c:=hv1.move (hS.keep hF1);have cn:=new_any os gs ad3 ad4 os.length cp3 gs.length cp4 _ F1 (Liv.at hS hF1) hos.out hgs.out hv1c (hg1.move (hS.keep hF1)) (by omega) (by omega) hBm
   go_wp2_with (fail)
   refine cn.mono ?_;rintro e w2 ⟨⟨a1,n1,c1⟩,⟨a2,n2,c2⟩,⟨a3,n3,c3⟩,⟨a4,n4,c4⟩,S2,V,es,rfl,hq,hA,hP⟩;have hv2:=hv1c.grow hq;obtain⟨rs,prs,hAI⟩:=hP.arrIn hos.out hgs.out (hq.liv (Liv.at hS hF1)) hA;obtain⟨hdir,hne⟩:=ArrP.dirs hP hos.out;have hvl:=hP.vlen;have hel:=hP.elen;have hV:=hP.arr.sv
   have hvl2:V.length≤628:=by
    have:os.length*os.length≤24*24:=Nat.mul_le_mul hlo hlo;omega
   have hel2:es.length≤15072:=by
    have:os.length*V.length≤24*628:=Nat.mul_le_mul hlo hvl2;omega
   clear hvl hel hA cn hv1 hg1 hv1c;have hB2:=(Heap.bel hS hO1 hB1).trans (hq.below.mono (Heap.bel hS hO1 hB1).size);obtain⟨F2,hF2,hOO2,hS2⟩:=hS.pcall hF1 hq;have hO2:=fun k h=>hOO2 k (hO1 k h)
   clear hS hOO2 hB1 hO1 hF1;have hS:=hS2;clear hS2;simp only [sv];replace hP:=Hd hP;replace hdir:=Hd hdir;replace hne:=Hd hne;replace hV:=Hd hV
   go_wp2_with (with_reducible first|refine alA hS zeroValue28 fun b19 wb19 hS=>?_|refine stA 3 hS sizeOf28 fun _ hS=>?_|refine ldA 1 hS isAgg51 sizeOf51 ?_)
   refine (scaledS_any m ho os hom.out ad3 cp3 _ (hv2.move (hS.keep hF2)).old (by omega)).mono ?_;rintro e w3 ⟨ad6,c6,rfl,hS1⟩;replace hS:=hS.import hS1;simp only [NRH] at hS;clear hS1;simp only [];have hS:=hS.order [0,4,2,1,3] rfl;simp only [NRF] at hS;have hv:=hS.rowSl 1 rfl;have hg:=hS.rowSl 2 rfl;have hB3:=Heap.bel hS hO2 hB2;have hAI3:=hAI.at hS hF2;have hS:=Heap.frz3 hS;obtain⟨F3,hF3e⟩:∃ F3,F3=fun k=>(F2 k∨(Chunk.row (.slice ad6 os.length c6) 121 4 os.length ((os.map m.s).flatMap sc)).has k)∨(Chunk.row (.slice ad5 gs.length c5) 51 2 gs.length ((gs.map m.g).flatMap gc)).has k:=⟨_,rfl⟩
   rw [← hF3e] at hS;have hO3:∀ k,Old w k→F3 k:=fun k h=>by rw [hF3e];exact .inl (.inl (hO2 k h))
   have hS23:∀ k,S2 k→F3 k:=fun k h=>by rw [hF3e];exact .inl (.inl (hF2 k h))
   have hv3:SlC w3 F3 4 (.slice ad6 os.length c6) (os.map m.s).length ((os.map m.s).flatMap sc):=by rw [hlm2.out];exact hv.weaken (fun k h=>by rw [hF3e];exact .inl (.inr h))
   have hg3:SlC w3 F3 2 (.slice ad5 gs.length c5) (gs.map m.g).length ((gs.map m.g).flatMap gc):=by rw [← hlm.out];exact hg.weaken (fun k h=>by rw [hF3e];exact .inr h)
   have hF3:∀ k,F3 k→F3 k:=fun k h=>h
   clear hF3e hv hg hB2 hO2 hF2 hAI;have cn:=new_any (os.map m.s) (gs.map m.g) ad6 ad5 os.length c6 gs.length c5 _ F3 (Liv.at hS hF3) hok2.out hgk2.out (hv3.move (hS.keep hF3)) (hg3.move (hS.keep hF3)) (by have:=hlm2.out;omega) (by have:=hlm.out;omega) (by rw [hlm2.out,← hlm.out];exact hBm)
   go_wp2_with (fail)
   refine cn.mono ?_;rintro e w4 ⟨⟨p1,q1,r1⟩,⟨p2,q2,r2⟩,⟨p3,q3,r3⟩,⟨p4,q4,r4⟩,S4,V',es',rfl,hq,hA,hP'⟩;obtain⟨rfl,rfl⟩:=ArrP.unique (fun t ht=>(hok2.out t ht).2.2) (hP.out.scaled m hone.out) hP';obtain⟨rs2,prs2,hAJ⟩:=hP'.arrIn hok2.out hgk2.out (hq.liv (Liv.at hS hF3)) hA;have hAI4:=(hAI3.at hS hS23).below hq.below;have hB4:=(Heap.bel hS hO3 hB3).trans (hq.below.mono (Heap.bel hS hO3 hB3).size);have hab:=hAI4.ab;have hV2:=hP'.arr.sv;have hV2l:(V.map m.p).length=V.length:=List.length_map ..;replace hV2l:=Hd hV2l;obtain⟨F4,hF4,hOO4,hS4⟩:=hS.pcall hF3 hq;have hO4:=fun k h=>hOO4 k (hO3 k h)
   have hS24:=fun k h=>hOO4 k (hS23 k h)
   clear hS hOO4 hB3 hO3 hF3 hA cn hq;have hS:=hS4.toD;clear hS4;simp only [sv];replace hP':=Hd hP';replace hV2:=Hd hV2;replace hab:=Hd hab;have hD0:=nd_drawn w
   go_wp2_with (with_reducible first|refine alA hS zeroValue28 fun b21 wb21 hS=>?_|refine stA 3 hS sizeOf28 fun _ hS=>?_|refine ldA 2 hS isAgg28 sizeOf28 ?_)
   have hAJ4:=hAJ.at hS hF4;refine (fnew_any a1 a2 a3 a4 n1 c1 n2 c2 n3 c3 n4 c4 rs es prs V 300 _ S2 (hAI4.at hS hS24) (by decide) hdir.out hne.out hV.out (by omega) (by omega)).mono ?_;rintro e w5 ⟨RL,⟨s1,k1,l1⟩,⟨s2,k2,l2⟩,⟨s3,k3,l3⟩,⟨s4,k4,l4⟩,⟨s5,k5,l5⟩,S5,rfl,hRl,hRL,hq5,hL5,hF5⟩;have hAJ5:=hAJ4.below hq5.below0;have hB5:=(Heap.bel hS hO4 (Below.dn hB4)).trans (hq5.below0.mono (Heap.bel hS hO4 (Below.dn hB4)).size);obtain⟨F5,hF5s,hOO5,hS5⟩:=hS.pcallN hD0 hS24 hq5;have hO5:=fun k h=>hOO5 k (hO4 k h)
   have hS45:=fun k h=>hOO5 k (hF4 k h)
   have hxk:=faceIn_ok (out:=fun v=>outL es (nth [] RL v)) hV.out hab.out (RLok.of hne.out hRl hRL) (fun v _ h=>outL_mem h);have hbd:=hxk.good.bd (by show es.length≤_;omega) (by show V.length≤_;omega);have hfr:=fun RL'=>m.fr hab.out RL' (fun v=>outL es (nth [] RL' v))
   replace hbd:=Hd hbd;replace hfr:=Hd hfr;clear hS hOO5 hB4 hO4 hS24 hF4 hAJ hAJ4 hAI4 hAI3 hq5 hxk;have hS:=hS5;clear hS5;simp only [sv]
   go_wp2_with (with_reducible first|refine alA hS zeroValue37 fun b23 wb23 hS=>?_|refine stA 4 hS sizeOf37 fun _ hS=>?_|refine ldA 3 hS isAgg28 sizeOf28 ?_)
   have hF5c:=hF5.at hS hF5s;have hL5c:=Liv.at hS hF5s;refine (fnew_any p1 p2 p3 p4 q1 r1 q2 r2 q3 r3 q4 r4 rs2 es prs2 (V.map m.p) 300 _ S4 (hAJ5.at hS hS45) (by decide) hdir.out hne.out hV2.out (by omega) (by have:=hV2l.out;omega)).mono ?_;rintro e w6 ⟨RL2,⟨t1,x1,y1⟩,⟨t2,x2,y2⟩,⟨t3,x3,y3⟩,⟨t4,x4,y4⟩,⟨t5,x5,y5⟩,S6,rfl,hRl2,hRL2,hq6,hL6,hF6⟩;have hRe:RL2=RL:=ext_nth (by rw [hRl2,hRl,hV2l.out]) (fun i hi=>AroundL.unique hP.out hone.out (hRL2 i (by rw [← hRl2];exact hi)) (hRL i (by rw [hRl2,hV2l.out] at hi;exact hi)));subst hRe;rw [hfr.out] at hF6;have hF56:=hF5c.below hL5c hq6.below0;have hB6:=(Heap.bel hS hO5 hB5).trans (hq6.below0.mono (Heap.bel hS hO5 hB5).size);obtain⟨F6,hF6s,hOO6,hS6⟩:=hS.pcallN hD0 hS45 hq6;have hO6:=fun k h=>hOO6 k (hO5 k h)
   have hS56:=fun k h=>hOO6 k (hF5s k h)
   clear hS hOO6 hB5 hO5 hS45 hAJ5 hq6 hF5c hL5c hfr;have hS:=hS6;clear hS6;simp only [sv];obtain⟨f,hf⟩:∃ f,(faceIn V es RL2 fun v=>outL es (nth [] RL2 v)).fr=f:=⟨_,rfl⟩;rw [hf] at hF6 hF56 hbd;clear hf
   go_wp2_with (with_reducible first|refine alA hS zeroValue37 fun b25 wb25 hS=>?_|refine stA 5 hS sizeOf37 fun _ hS=>?_|refine ldA 4 hS isAgg37 sizeOf37 ?_|refine ldA 5 hS isAgg37 sizeOf37 ?_)
   refine (equalF_any (s1,k1,l1) (s2,k2,l2) (s3,k3,l3) (s4,k4,l4) (s5,k5,l5) (t1,x1,y1) (t2,x2,y2) (t3,x3,y3) (t4,x4,y4) (t5,x5,y5) f _ (hF56.at hS hS56).old (hF6.at hS hF6s).old hbd.out).mono ?_;rintro e w7 ⟨rfl,hq7⟩;replace hS:=hS.belowD hD0 hq7.below;simp only []
   go_wp2_with (fail)
   refine (lives_any _).mono ?_;rintro e w9 ⟨rfl,hb9⟩;simp only [];go_wp2;have hpf:=Below.nd (Heap.bel hS hO6 hB6);go_ret;exact⟨rfl,hpf.trans (hb9.mono hpf.size)⟩
end Go.Proofs
