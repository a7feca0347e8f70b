/- Texts for the walk of the law: LM LZ SQX LB. -/
import Derived.Test.YtihpoboahbpaiaaGreatQ45
set_option maxRecDepth 100000
set_option maxHeartbeats 16000000
set_option linter.unusedVariables false
set_option linter.unusedSimpArgs false
namespace Go.Hp
open Go Go.RowKit
theorem ext_nth' {A B:List (List Nat)} (hl:A.length=B.length) (h:∀ i,i<A.length→nth [] A i=nth [] B i):A=B:=by
 apply List.ext_getElem hl;intro i h1 h2;have:=h i h1
 rwa [nth_eq _ _ _ h1,nth_eq _ _ _ h2] at this
theorem Below.nd' {w w':World} (h:Below (Hp.nd w).heap.size (Hp.nd w) w'):Below w.heap.size w w':=⟨h.os,h.tape,h.output,h.size,h.block⟩
theorem Heap.bel' {w0 w wr:World} {F:Nat→Prop} {H:List Chunk} (hS:Heap w0 w (.frz F wr::H)) (hO:∀ k,Old w0 k→F k) (hb:Below w0.heap.size w0 wr):Below w0.heap.size w0 w :=
 ⟨hS.os,hS.tape,hS.output,hS.size,fun k hk=>(hS.keep hO k hk).trans (hb.block k hk)⟩
theorem SlC.belowS {w w':World} {S:Nat→Prop} {k n:Nat} {v:Value} {cs:List Value} (h:SlC w S k v n cs) (hL:Liv w S) (hb:Below w.heap.size w w'):SlC w' S k v n cs:=h.move fun k hk=>hb.block k (hL k hk)
theorem FGood.bd' {m n:Nat} {org:Nat→Nat} {hasE:Nat→Bool} {f:FRec} (h:FGood m n org hasE f) (hm:m≤30000) (hn:n≤65536):FBd f:=by
 have h1:=h.nlen;have h2:=h.llen;have h3:=h.olen;have h4:=h.ilen;have h5:=h.alen;exact⟨by omega,by omega,by omega,by omega,by omega,fun i hi=>by have:=h.ilen_le (i:=i) (by omega);omega,fun i hi=>by have:=h.alen_le (i:=i) (by omega);omega⟩
end Go.Hp
namespace Go.Proofs
open Go.RowKit Go.Hp
def facesOf (V:List Pt) (es:List Ed) (RL:List (List Nat)):FRec:=(faceIn V es RL (fun v=>outL es (nth [] RL v))).fr
structure IsRL (V:List Pt) (es:List Ed) (RL:List (List Nat)):Prop where
 len:RL.length=V.length
 at':∀ v,v<V.length→AroundL es v (nth [] RL v)
theorem IsRL.unique {os:List Sz} {gs:List Gp} {V:List Pt} {es:List Ed} {A B:List (List Nat)} (hP:ArrP os gs V es) (hone:∀ t ∈ os,t.a≠t.b) (hA:IsRL V es A) (hB:IsRL V es B):A=B :=
 ext_nth' (by rw [hA.len,hB.len]) fun i hi=>AroundL.unique hP hone (hA.at' i (by rw [← hA.len];exact hi)) (hB.at' i (by rw [← hA.len];exact hi))
theorem facesOf_good {os:List Sz} {gs:List Gp} {V:List Pt} {es:List Ed} {RL:List (List Nat)} (hP:ArrP os gs V es) (hne:∀ e ∈ es,e.a≠e.b) (hab:∀ e ∈ es,e.a<V.length∧e.b<V.length) (hR:IsRL V es RL):FGood es.length V.length (orgE es) (faceIn V es RL (fun v=>outL es (nth [] RL v))).hasE (facesOf V es RL):=by
 have hxk:=faceIn_ok (out:=fun v=>outL es (nth [] RL v)) hP.arr.sv hab (RLok.of hne hR.len hR.at') (fun v _ h=>outL_mem h);exact hxk.good
end Go.Proofs
namespace Go.Proofs
open Go.RowKit Go.Hp
theorem made10_any (os:List Sz) (gs:List Gp) (ao ap:Option Addr) (no co np cp:Nat) (w:World) (S:Nat→Prop) (hL:Liv w S) (hos:∀ t ∈ os,t.ok) (hgs:∀ g ∈ gs,g.ok) (hv:SlC w S 4 (.slice ao no co) os.length (os.flatMap sc)) (hg:SlC w S 2 (.slice ap np cp) gs.length (gs.flatMap gc)) (hlo:os.length≤24) (hlg:gs.length≤4) :
 Calls Tryz.prog 12 #[.slice ao no co,.slice ap np cp] w fun e w'=>∃ (L:LocR) (g1 g2 g3 g4 r1 r2 r3 r4 r5:Option Addr × Nat × Nat) (rs:List ER) (es:List Ed) (prs:List PR) (V:List Pt) (RL:List (List Nat)) (S':Nat→Prop),e=.returned (.tuple #[.agg #[sv g1,sv g2,sv g3,sv g4],.agg #[sv r1,sv r2,sv r3,sv r4,sv r5],.pointer (some ⟨L.bl,0,none⟩)])∧Pure (nd w) S w' S'∧LocIn w' S' L rs es prs V 300 (facesOf V es RL)∧IsFc w' S' r1 r2 r3 r4 r5 (facesOf V es RL)∧ArrP os gs V es∧IsRL V es RL:=by
 have hone:∀ t ∈ os,t.a≠t.b:=fun t ht=>(hos t ht).2.2
 have hBn:gs.length+os.length*(2+2*os.length+gs.length)≤4096:=by
  have h1:os.length*(2+2*os.length+gs.length)≤24*54:=Nat.mul_le_mul hlo (by omega);omega
 replace hBn:=Hd hBn;replace hos:=Hd hos;replace hgs:=Hd hgs;replace hone:=Hd hone;have hS:=Heap.startD w;have hD0:=nd_drawn w;have hp0:=Pure.startD w S;have hF0:=hL;have hO0:=fun k (h:Old w k)=>h
 go_enter Tryz.func12,Tryz.ntmps12
 go_wp2_with (with_reducible first|refine alA hS Tryz.zeroValue34 fun b4 wb4 hS=>?_|refine alA hS Tryz.zeroValue37 fun b5 wb5 hS=>?_)
 refine (new_any os gs ao ap no co np cp _ S (Liv.at hS hF0) hos.out hgs.out (hv.move (hS.keep hF0)) (hg.move (hS.keep hF0)) (by omega) (by omega) hBn.out).mono ?_;rintro e w1 ⟨⟨a1,n1,c1⟩,⟨a2,n2,c2⟩,⟨a3,n3,c3⟩,⟨a4,n4,c4⟩,S1,V,es,rfl,hq,hA,hP⟩;obtain⟨rs,prs,hAI⟩:=hP.arrIn hos.out hgs.out (hq.liv (Liv.at hS hF0)) hA;obtain⟨hdir,hne⟩:=ArrP.dirs hP hos.out;have hvl:=hP.vlen;have hel:=hP.elen;have hab:=hAI.ab;have hV:=hP.arr.sv
 have hvl2:V.length≤628:=by
  have:os.length*os.length≤24*24:=Nat.mul_le_mul hlo hlo;omega
 have hel2:es.length≤15072:=by
  have:os.length*V.length≤24*628:=Nat.mul_le_mul hlo hvl2;omega
 clear hvl hel hA hv hg;replace hS:=hS.pcl hF0 hO0 hp0 hq;obtain⟨F1,hF1,-,hp1,hO1,hS⟩:=hS;simp only [sv];replace hP:=Hd hP;replace hdir:=Hd hdir;replace hne:=Hd hne;replace hV:=Hd hV;replace hab:=Hd hab
 go_wp2_with (with_reducible first|refine alA hS Tryz.zeroValue34 fun b7 wb7 hS=>?_|refine stA 3 hS Tryz.sizeOf34 fun _ hS=>?_|refine ldA 3 hS Tryz.isAgg34 Tryz.sizeOf34 ?_)
 refine (fnew_any a1 a2 a3 a4 n1 c1 n2 c2 n3 c3 n4 c4 rs es prs V 300 _ S1 (hAI.at hS hF1) (by decide) hdir.out hne.out hV.out (by omega) (by omega)).mono ?_;rintro e w2 ⟨RL,⟨s1,k1,l1⟩,⟨s2,k2,l2⟩,⟨s3,k3,l3⟩,⟨s4,k4,l4⟩,⟨s5,k5,l5⟩,S2,rfl,hRl,hRL,hq2,hL2,hFc⟩;have hR:IsRL V es RL:=⟨hRl,hRL⟩;replace hFc:IsFc w2 S2 (s1,k1,l1) (s2,k2,l2) (s3,k3,l3) (s4,k4,l4) (s5,k5,l5) (facesOf V es RL):=hFc;have hgd:=facesOf_good hP.out hne.out hab.out hR;have hbd:=hgd.bd' (by omega) (by omega);have hA2:=((hAI.at hS hF1).belowS hq2.below0).wk hq2.sub hL2;obtain⟨F2,hF2,hOO2,hS2⟩:=hS.pcallN hD0 hF1 hq2;have hp2:=(hp1.step hS hO1 hF1).transN hD0 hq2;have hO2:=fun k h=>hOO2 k (hO1 k h)
 clear hS hOO2 hq2 hAI hRl hRL hgd;have hS:=hS2;clear hS2;replace hR:=Hd hR;replace hbd:=Hd hbd
 have hfu:∀ RL':List (List Nat),RL'.length=V.length→(∀ v,v<V.length→AroundL es v (nth [] RL' v))→(faceIn V es RL' (fun v=>outL es (nth [] RL' v))).fr=facesOf V es RL:=fun RL' h1 h2=>by
  rw [IsRL.unique hP.out hone.out ⟨h1,h2⟩ hR.out];rfl
 replace hfu:=Hd hfu;obtain⟨f,hf⟩:∃ f,facesOf V es RL=f:=⟨_,rfl⟩;simp only [sv]
 go_wp2_with (with_reducible first|refine alA hS Tryz.zeroValue37 fun b9 wb9 hS=>?_|refine stA 4 hS Tryz.sizeOf37 fun _ hS=>?_|refine ldA 3 hS Tryz.isAgg34 Tryz.sizeOf34 ?_|refine ldA 4 hS Tryz.isAgg37 Tryz.sizeOf37 ?_)
 refine (lnew_any a1 a2 a3 a4 n1 c1 n2 c2 n3 c3 n4 c4 (s1,k1,l1) (s2,k2,l2) (s3,k3,l3) (s4,k4,l4) (s5,k5,l5) rs es prs V 300 (facesOf V es RL) _ S2 (hA2.at hS hF2) (hFc.at hS hF2) hfu.out hbd.out (by decide) hdir.out hne.out hV.out (by omega) (by omega)).mono ?_;rintro e w3 ⟨L,S3,rfl,hq3,hL3,hLoc⟩;have hF3c:=(((hFc.at hS hF2).belowS (Liv.at hS hF2) hq3.below0)).wk hq3.sub;obtain⟨F3,hF3,hOO3,hS3⟩:=hS.pcallN hD0 hF2 hq3;have hp3:=(hp2.step hS hO2 hF2).transN hD0 hq3;have hO3:=fun k h=>hOO3 k (hO2 k h)
 clear hS hOO3 hq3 hFc hA2;have hS:=hS3;clear hS3;simp only [];go_wp2;refine wp_region_sched2 [.r 0,.r 1,.p 2,.e 3,.e 4,.p 5] [] (fun w'=>Heap (nd w) w' [.frz F3 w3,.blk b7 (.cells #[.slice a1 n1 c1,.slice a2 n2 c2,.slice a3 n3 c3,.slice a4 n4 c4] 34 (0,0)),.blk b9 (.cells #[.slice s1 k1 l1,.slice s2 k2 l2,.slice s3 k3 l3,.slice s4 k4 l4,.slice s5 k5 l5] 37 (0,0))]) (fun w'=>Heap (nd w) w' _) (by kernel_rfl) (by kernel_rfl) hS.drew (fun _ hZ=>Heap.sub hZ (by repeat (first|exact List.Sublist.refl _|apply List.Sublist.cons_cons|apply List.Sublist.cons|exact List.nil_sublist _))) (fun w1 hS=>?_)
 repeat (with_reducible first|refine skL ?_|refine sldA 1 Tryz.isAgg34 Tryz.sizeOf34 ?_|refine sldA 2 Tryz.isAgg37 Tryz.sizeOf37 ?_|refine spL ?_)
 refine exL ?_
 (with_reducible refine stA 1 hS Tryz.sizeOf34 fun _ hS=>?_)
 refine ext_end hS.sb ?_;refine mvs ?_;refine exL ?_
 (with_reducible refine stA 2 hS Tryz.sizeOf37 fun _ hS=>?_)
 refine ext_end hS.sb ?_;refine mvs ?_;refine snL ?_;go_wp2;exact ret_cct 1 2 hS rfl rfl rfl rfl rfl Tryz.isAgg34 Tryz.sizeOf34 rfl Tryz.isAgg37 Tryz.sizeOf37 rfl rfl ⟨L,(a1,n1,c1),(a2,n2,c2),(a3,n3,c3),(a4,n4,c4),(s1,k1,l1),(s2,k2,l2),(s3,k3,l3),(s4,k4,l4),(s5,k5,l5),rs,es,prs,V,RL,S3,rfl,hp3.step hS hO3 hF3,hLoc.at hS hF3,hF3c.at hS hF3,hP.out,hR.out⟩
end Go.Proofs
namespace Go.Proofs
open Go Go.RowKit Go.Hp
def zqZ (x y s:Int):List Sz:=[⟨⟨x,y⟩,⟨x+s,y⟩⟩,⟨⟨x+s,y⟩,⟨x+s,y+s⟩⟩,⟨⟨x+s,y+s⟩,⟨x,y+s⟩⟩,⟨⟨x,y+s⟩,⟨x,y⟩⟩]
def zqS:List Sz:=zqZ 0 0 4
def zqV:List Pt:=[⟨0,0⟩,⟨0,4⟩,⟨4,0⟩,⟨4,4⟩]
def zqE:List Ed:=[⟨0,1,[3],⟨0,1⟩⟩,⟨0,2,[0],⟨1,0⟩⟩,⟨1,3,[2],⟨1,0⟩⟩,⟨2,3,[1],⟨0,1⟩⟩]
def zqR:List (List Nat):=[[2,0],[4,1],[6,3],[5,7]]
theorem zq_arr:ArrP zqS [] zqV zqE:=arrB_ok (by decide +kernel)
def aroC (es:List Ed) (v:Nat) (l:List Nat):Bool:=l.isPerm (outs es v) && sortB (fun g h=>!decide (turnZ (crsZ es h) (crsZ es g)<0)) l
theorem aroC_ok {es:List Ed} {v:Nat} {l:List Nat} (h:aroC es v l=true):AroundL es v l:=by
 unfold aroC at h;rw [Bool.and_eq_true] at h;exact⟨List.isPerm_iff.1 h.1,sortB_iff _ (fun x y h=>by simpa using h) _ h.2⟩
theorem zq_rl:IsRL zqV zqE zqR:=⟨rfl,fun v hv=>by
 have h:(List.range zqV.length).all (fun v=>aroC zqE v (nth [] zqR v))=true:=by decide +kernel
 rw [List.all_eq_true] at h;exact aroC_ok (h v (List.mem_range.2 hv))⟩
theorem zq_ok (t:Sz) (ht:t ∈ zqS):t.ok:=by
 have h:zqS.all (fun t=>decide ((-1073741824≤t.a.x∧t.a.x≤1073741824)∧(-1073741824≤t.a.y∧t.a.y≤1073741824)) && decide ((-1073741824≤t.b.x∧t.b.x≤1073741824)∧(-1073741824≤t.b.y∧t.b.y≤1073741824)) && decide (t.a≠t.b))=true:=by decide +kernel
 rw [List.all_eq_true] at h;have h1:=h t ht;simp only [Bool.and_eq_true,decide_eq_true_eq] at h1;exact⟨h1.1.1,h1.1.2,h1.2⟩
theorem zq_unique {V:List Pt} {es:List Ed} {RL:List (List Nat)} (h:ArrP zqS [] V es) (hR:IsRL V es RL):V=zqV∧es=zqE∧RL=zqR:=by
 have hos:∀ t ∈ zqS,t.a≠t.b:=fun t ht=>(zq_ok t ht).2.2
 obtain⟨rfl,rfl⟩:=h.unique hos zq_arr;exact⟨rfl,rfl,hR.unique zq_arr hos zq_rl⟩
def zqP:List Gp:=[⟨0,0⟩,⟨0,2⟩,⟨4,0⟩,⟨4,2⟩,⟨0,4⟩]
theorem zq_L:(facesOf zqV zqE zqR).L=[0,1,1,0,0,1,1,0]:=by decide +kernel
theorem zq_face (i:Nat) (hi:i<5) (l:List Nat) (hl:∀ v:Nat,v<zqV.length→findQ zqV zqE (facesOf zqV zqE zqR).L (nth g0 zqP i).pt=(0,(v:Int))→AroundL zqE v l) :
 faceQ zqE (facesOf zqV zqE zqR) (findQ zqV zqE (facesOf zqV zqE zqR).L (nth g0 zqP i).pt) l=if i<2 then 1 else 0:=by
 have hos:∀ t ∈ zqS,t.a≠t.b:=fun t ht=>(zq_ok t ht).2.2
 have hu:∀ v:Nat,v<zqV.length→findQ zqV zqE (facesOf zqV zqE zqR).L (nth g0 zqP i).pt=(0,(v:Int))→l=nth [] zqR v:=fun v hv h=>AroundL.unique zq_arr hos (hl v hv h) (zq_rl.at' v hv)
 unfold faceQ;rw [zq_L] at hu ⊢;have h:i=0∨i=1∨i=2∨i=3∨i=4:=by omega
 rcases h with rfl|rfl|rfl|rfl|rfl
 ·have hq:findQ zqV zqE [0,1,1,0,0,1,1,0] (nth g0 zqP 0).pt=(0,0):=by decide +kernel
  rw [hq];rw [hu 0 (by decide) hq];decide +kernel
 ·have hq:findQ zqV zqE [0,1,1,0,0,1,1,0] (nth g0 zqP 1).pt=(1,0):=by decide +kernel
  rw [hq];rfl
 ·have hq:findQ zqV zqE [0,1,1,0,0,1,1,0] (nth g0 zqP 2).pt=(0,2):=by decide +kernel
  rw [hq];rw [hu 2 (by decide) hq];decide +kernel
 ·have hq:findQ zqV zqE [0,1,1,0,0,1,1,0] (nth g0 zqP 3).pt=(1,3):=by decide +kernel
  rw [hq];rfl
 ·have hq:findQ zqV zqE [0,1,1,0,0,1,1,0] (nth g0 zqP 4).pt=(0,1):=by decide +kernel
  rw [hq];rw [hu 1 (by decide) hq];decide +kernel
end Go.Proofs
namespace Go.Hp
open Go.Proofs.Tryz
open Go Go.RowKit
theorem fill4p (a b c d e f g h:Value):Instr.fill (fun i=>some (i*2,2)) ((Array.range (4*2)).map ((Value.agg #[.int .i64 0,.int .i64 0]).cells[· % (Value.agg #[.int .i64 0,.int .i64 0]).cells.size]!)) [(0,.agg #[a,b]),(1,.agg #[c,d]),(2,.agg #[e,f]),(3,.agg #[g,h])]=some #[a,b,c,d,e,f,g,h]:=by
 have hh:((Array.range (4*2)).map ((Value.agg #[.int .i64 0,.int .i64 0]).cells[· % (Value.agg #[.int .i64 0,.int .i64 0]).cells.size]!))=#[.int .i64 0,.int .i64 0,.int .i64 0,.int .i64 0,.int .i64 0,.int .i64 0,.int .i64 0,.int .i64 0]:=by
  apply Array.ext';simp [Array.range,List.ofFn_succ,Value.cells]
 rw [hh];simp [Instr.fill,Value.cells]
theorem fill4z (a b c d a2 b2 c2 d2 a3 b3 c3 d3 a4 b4 c4 d4:Value):Instr.fill (fun i=>some (i*4,4)) ((Array.range (4*4)).map ((Value.agg #[.int .i64 0,.int .i64 0,.int .i64 0,.int .i64 0]).cells[· % (Value.agg #[.int .i64 0,.int .i64 0,.int .i64 0,.int .i64 0]).cells.size]!)) [(0,.agg #[a,b,c,d]),(1,.agg #[a2,b2,c2,d2]),(2,.agg #[a3,b3,c3,d3]),(3,.agg #[a4,b4,c4,d4])]=some #[a,b,c,d,a2,b2,c2,d2,a3,b3,c3,d3,a4,b4,c4,d4]:=by
 have hh:((Array.range (4*4)).map ((Value.agg #[.int .i64 0,.int .i64 0,.int .i64 0,.int .i64 0]).cells[· % (Value.agg #[.int .i64 0,.int .i64 0,.int .i64 0,.int .i64 0]).cells.size]!))=#[.int .i64 0,.int .i64 0,.int .i64 0,.int .i64 0,.int .i64 0,.int .i64 0,.int .i64 0,.int .i64 0,.int .i64 0,.int .i64 0,.int .i64 0,.int .i64 0,.int .i64 0,.int .i64 0,.int .i64 0,.int .i64 0]:=by
  apply Array.ext';simp [Array.range,List.ofFn_succ,Value.cells]
 rw [hh];simp [Instr.fill,Value.cells]
end Go.Hp
namespace Go.Proofs
open Go.Proofs.Tryz
open Go.RowKit Go.Hp
theorem square10_any (x y s:Int) (hx:0≤x∧x≤1000) (hy:0≤y∧y≤1000) (hs:0≤s∧s≤1000) (w:World) :
 Calls Tryz.prog 54 #[.int .i64 x,.int .i64 y,.int .i64 s] w fun e w'=>∃ ad c,e=.returned (.slice ad 4 c)∧Heap w w' [.frz (Old w) w,.row (.slice ad 4 c) 95 4 4 ((zqZ x y s).flatMap sc)]:=by
 have m1:IntKind.i64.wrap (x+s)=x+s:=w6;have m2:IntKind.i64.wrap (y+s)=y+s:=w6;have hS:=Heap.start w
 go_enter func54,ntmps54
 go_wp2_with (first|((with_reducible refine g_bs (T:=25) ?_);refine seq_buildSlice (k:=2) (z:=.agg #[.int .i64 0,.int .i64 0]) (len:=4) hS underlying25 sizeOf29 zeroValue29 (by decide) (by decide) (fill4p _ _ _ _ _ _ _ _) (fun b7 wb7 hS=>?_);simp only [NRM];simp only [NRH] at hS))
 refine rg0 [.p 0,.p 1,.r 2,.p 3,.p 4,.r 5,.p 6,.p 7,.p 8,.r 9,.p 10,.p 11,.r 12,.p 13,.p 14,.p 15,.r 16,.p 17,.p 18,.r 19,.p 20,.p 21,.p 22,.r 23,.p 24,.p 25,.r 26,.p 27,.e 28,.p 29] [] hS fun w1 hS=>?_
 repeat (first|(with_reducible refine skL ?_)|((with_reducible refine m_pure ?_);refine sched_any rfl rfl (any_index_atk (T:=25) (k:=2) underlying25 sizeOf29 rfl rfl (by decide) (by decide) ?_);simp only [NRM];simp only [Nat.reduceMul,Nat.reduceAdd,Int.reduceToNat,Nat.zero_add])|(with_reducible first|refine sldK 1 isAgg29 sizeOf29 ?_|refine spL ?_))
 refine exL ?_
 ((with_reducible refine g_bs (T:=23) ?_);refine seq_buildSlice (k:=4) (z:=.agg #[.int .i64 0,.int .i64 0,.int .i64 0,.int .i64 0]) (len:=4) hS underlying23 sizeOf95 zeroValue95 (by decide) (by decide) (fill4z _ _ _ _ _ _ _ _ _ _ _ _ _ _ _ _) (fun b8 wb8 hS=>?_);simp only [NRM];simp only [NRH] at hS)
 refine ext_end hS.sb ?_;refine mvs ?_;refine snL ?_;have hS:=hS.toRow (k:=4) (m:=4) 2 rfl rfl (by decide);simp only [NRH] at hS;have hS:=hS.order [0,2,1] rfl;simp only [NRF] at hS;have hS:=Heap.sub hS (List.sublist_append_left [_,_] [_]);go_wp2;go_ret;exact⟨_,_,rfl,hS⟩
theorem some10_any (a:Option Addr) (n c:Nat) (xs:List Int) (how:Int) (w:World) (hx:Ints w (Old w) (.slice a n c) xs) (hh:InI how) :
 Calls Tryz.prog 7 #[.slice a n c,.int .i64 how] w fun e w'=>∃ (os:List Sz) (ad:Option Addr) (c2:Nat),e=.returned (.slice ad os.length c2)∧(∀ t ∈ os,t.ok∧t.a.s48∧t.b.s48)∧os.length≤20∧Heap w w' [.frz (Old w) w,.row (.slice ad os.length c2) 95 4 os.length (os.flatMap sc)]:=by
 have hz:=aro_lt how (most:=3) (by decide);have ca:=fun w'=>aro_any how 3 w' (by decide) (by decide) hh
 obtain⟨z,hz0⟩:∃ z,aro how 3=z:=⟨_,rfl⟩;rw [hz0] at hz;simp only [hz0] at ca;clear hz0;have hS:=Heap.start w
 by_cases hz0:z=0
 ·subst hz0
  go_enter func7,ntmps7
  go_wp2_with (fail)
  refine (ca _).mono ?_;rintro e w' ⟨rfl,rfl⟩;simp only []
  go_wp2_with (fail)
  refine (segs08_any a n c 7 xs _ (hx.arg hS (by simp)) (by decide)).mono ?_;rintro e w' ⟨os,ad,c2,rfl,ho,hl,hS1⟩;simp only [];go_wp2;go_ret;refine⟨os,ad,c2,rfl,fun t ht=>?_,by omega,hS1⟩;obtain⟨a,b,c⟩:=ho t ht;have hb:(32:Int)+2*(os.length:Nat)≤60:=by omega
  have hb2:(32:Int)+2*(os.length:Nat)≤46:=by omega
  exact⟨⟨(upto_ok a hb).1,(upto_ok b hb).1,c⟩,by unfold Gp.upto at a;unfold Gp.s48;omega,by unfold Gp.upto at b;unfold Gp.s48;omega⟩
 ·have hzf:(z == 0)=false:=by simpa using hz0
  clear hz0
  go_enter func7,ntmps7
  go_wp2_with (fail)
  refine (ca _).mono ?_;rintro e w' ⟨rfl,rfl⟩;simp only []
  go_wp2_with (fail)
  refine (net08_any a n c xs _ (hx.arg hS (by simp))).mono ?_;rintro e w' ⟨os,ad,c2,rfl,ho,hl,hS1⟩;simp only [];go_wp2;go_ret;refine⟨os,ad,c2,rfl,fun t ht=>?_,hl,hS1⟩;obtain⟨a,b,c⟩:=ho t ht;exact⟨⟨(net_ok a).1,(net_ok b).1,c⟩,by unfold Gp.net at a;unfold Gp.s48;omega,by unfold Gp.net at b;unfold Gp.s48;omega⟩
end Go.Proofs
namespace Go.Proofs
open Go.RowKit Go.Hp
theorem face_any (L:LocR) (rs:List ER) (es:List Ed) (prs:List PR) (V:List Pt) (k:Nat) (f:FRec) (g:Gp) (w:World) (S:Nat→Prop) (h:LocIn w S L rs es prs V k f) (hg:g.ok) (hk1:31≤k) (hk:8*k+8≤16384) (hd:∀ e ∈ es,e.dir.dir) (hx:∀ e ∈ es,(nth pt0 V e.a).x<(nth pt0 V e.b).x→e.dir.x≠0) (hV:V.Pairwise Pt.lt) (hfl:f.L.length=2*es.length) (hVl:V.length≤65536) (hEl:es.length≤30000) :
 Calls Tryz.prog 15 #[.pointer (some ⟨L.bl,0,none⟩),.agg #[.int .i64 g.x,.int .i64 g.y]] w fun en w'=>(∃ l,(∀ v:Nat,v<V.length→findQ V es f.L g.pt=(0,(v:Int))→AroundL es v l)∧en=.returned (.tuple #[.int .i64 (faceQ es f (findQ V es f.L g.pt) l),.int .i64 0]))∧Below w.heap.size w w'∧w.drawn≤w'.drawn:=by
 have hn3:=Hd h.arr.n3;have hL:=h.arr.live;have hFL0:Ints w S (.slice L.s2.1 L.s2.2.1 L.s2.2.2) f.L:=h.fc.l;have hflen:=hFL0.len;have hge:(∀ (x:Int),-1073741824≤x∧x≤1073741824→InI x):=fun x hx=>by unfold InI;omega
 have hq:Bq k g.pt.x∧Bq k g.pt.y:=⟨Bq.int (by omega) (Nat.lt_of_lt_of_le (show g.x.natAbs<2 ^ 31 by have:=hg.1;unfold okC at this;omega) (Nat.pow_le_pow_right (by decide) hk1)),Bq.int (by omega) (Nat.lt_of_lt_of_le (show g.y.natAbs<2 ^ 31 by have:=hg.2;unfold okC at this;omega) (Nat.pow_le_pow_right (by decide) hk1))⟩;have cv:=fun w'=>pvalid_any g.x g.y w' hg.1 hg.2
 have co:=fun w' S' hL'=>pof_any g.x g.y w' S' (hge _ hg.1) (hge _ hg.2) hL'
 have cF:=fun p w' S' h' hp'=>find_any L rs es prs V k f p g.pt w' S' h' hp' hq hk hd hx hV hfl hVl hEl
 have hcs:=findQ_cases V es f.L g.pt;obtain⟨s,hs⟩:∃ s,findQ V es f.L g.pt=s:=⟨_,rfl⟩;simp only [hs] at cF hcs ⊢;clear hs hq hge;replace hx:=Hd hx;replace hV:=Hd hV;obtain⟨hS,hF0,hO0,hp0⟩:=st0 hL
 go_enter Tryz.func15,Tryz.ntmps15
 go_wp2_with (with_reducible first|refine bxA hS fun bx wbx hS=>?_|refine ldA 1 hS Tryz.isAgg29 Tryz.sizeOf29 ?_)
 refine (cv _).mono ?_;rintro e' w' ⟨rfl,hq0⟩;have hS:=hS.below hq0.below hq0.drawn;simp only []
 go_wp2_with (with_reducible refine ldA 1 hS Tryz.isAgg29 Tryz.sizeOf29 ?_)
 refine (co _ S (Liv.at hS hF0)).mono ?_;rintro e' w' ⟨p,S1,rfl,hq1,hp⟩;have h:=(h.at hS hF0).grow hq1;replace hS:=hS.pcl hF0 hO0 hp0 hq1;obtain⟨F1,hF1,-,hp1,hO1,hS⟩:=hS;simp only []
 go_wp2_with (fail)
 refine (cF p _ S1 (h.at hS hF1) (hp.at hS hF1)).mono ?_;rintro e' w' ⟨rfl,hq2⟩;have h:=(h.at hS hF1).grow hq2;replace hS:=hS.pcl hF1 hO1 hp1 hq2;obtain⟨F2,hF2,-,hp2,hO2,hS⟩:=hS;clear cF co cv hp;have hc:=h.cell.weaken hF2;have hfl0:=hfl;obtain⟨N,hN⟩:∃ N,L.s2.2.1=N:=⟨_,rfl⟩;have hN1:N≤2*es.length:=by omega
 have hN2:2*es.length≤N:=by omega
 have hsl:=h.arr.hE.weaken hF2;have hFL:Ints w' F2 (.slice L.s2.1 L.s2.2.1 L.s2.2.2) f.L:=⟨h.fc.l.1.weaken hF2,h.fc.l.2⟩;rw [hN] at hFL;have hcB:=hc;simp only [hN] at hcB;replace hfl:=Hd hfl;clear hN hflen hfl0 hFL0 hc;have hcA:CellsAt w' F2 ⟨L.bl,0,none⟩ [.slice L.g1.1 L.g1.2.1 L.g1.2.2,.slice L.g2.1 L.g2.2.1 L.g2.2.2,.slice L.g3.1 L.g3.2.1 L.g3.2.2,.slice L.g4.1 L.g4.2.1 L.g4.2.2]:=hcB.part 0 4
 rcases hcs with ⟨v,hv,rfl⟩|⟨e,he,rfl⟩|⟨z,rfl⟩
 ·simp only []
  have hd1:(((0:Int)) == 2)=false:=rfl;have hd2:(((0:Int)) == 1)=false:=rfl
  go_wp2_with (with_reducible first|refine alA hS Tryz.zeroValue47 fun b7 wb7 hS=>?_|refine stA 2 hS Tryz.sizeOf47 fun _ hS=>?_|refine ldB 2 hS Tryz.isAgg3 ?_)
  refine rg0 [.p 0,.p 1,.p 2,.r 3,.p 4,.r 5,.e 6,.p 7,.p 8,.p 9,.p 10,.p 11] [] hS fun w1 hS=>?_
  repeat (with_reducible first|refine skL ?_|refine sldG Tryz.isAgg34 Tryz.sizeOf34 ?_|refine sldB 2 Tryz.isAgg3 ?_|refine spL ?_)
  refine exL ?_
  go_wp2_with (fail)
  have hA:=(h.at hS hF2).arr;refine (around_any L.g1.1 L.g2.1 L.g3.1 L.g4.1 L.g1.2.1 L.g1.2.2 L.g2.2.1 L.g2.2.2 L.g3.2.1 L.g3.2.2 L.g4.2.1 L.g4.2.2 rs es v _ S1 (Liv.at hS hF2) hA.hE hA.hEs hd (by omega) (by have:=hn3.out;omega) (by have:=hn3.out;omega)).mono ?_;rintro e' w' ⟨ad,n,c,l,rfl,hS1,hAr⟩;replace hS:=hS.import hS1;simp only [NRH] at hS;clear hS1 hA;simp only [];go_step;refine ext_end hS.sb ?_;refine mvs ?_;refine snL ?_;clear hcA
  obtain rfl:n=l.length:=by
   have:=(hS.rowSl 3 rfl).1;rw [iv_length,zs_length] at this;omega
  have hAv:∀ v':Nat,v'<V.length→((0:Int),(v:Int))=(0,(v':Int))→AroundL es v' l:=fun v' _ e=>by
   obtain rfl:v=v':=by have h:=(Prod.mk.inj e).2;omega
   exact hAr
  have hlt:=hAr.lt;replace hAv:=Hd hAv;cases l with
  | nil =>
   have hR:faceQ es f (0,(v:Int)) []=idxAl f.A v:=by simp [faceQ]
   replace hR:=Hd hR;clear hlt hAr;have hz:(((([]:List Nat).length:Nat):Int) == 0)=true:=rfl
   go_wp2_with (first|((with_reducible refine g_load (T:=35) ?_);refine seq_of hS rfl (stp_loadj (T:=35) 8 Tryz.isAgg35 rfl hcB (by simp) rfl ?_);simp only [NRM]))
   refine (indexF_any L.s5.1 L.s5.2.1 L.s5.2.2 b7 f.A 0 v _ (RowsOf.old (h.at hS hF2).fc.a) (hS.cellsOld 2 rfl)).mono ?_;rintro e' w' ⟨rfl,rfl⟩;simp only [];go_wp2;refine bodyPost_ret (results_tmp2 rfl _ _ _) rfl ?_;exact⟨⟨[],hAv.out,by (rw [hR.out] <;> rfl)⟩,(hp2.step hS hO2 hF2).below,(hp2.step hS hO2 hF2).drawn⟩
  | cons h0 tl =>
   obtain⟨l,hl⟩:∃ l,h0::tl=l:=⟨_,rfl⟩;have hl0:0<l.length:=by rw [← hl];simp
   have hh0:h0 / 2<es.length:=hlt h0 List.mem_cons_self;have hh1:h0<N:=by omega
   have hzl:nth 0 (zs l) (l.length - 1)=((lastN l:Nat):Int):=by
    unfold lastN zs;exact nth_map (fun n:Nat=>(n:Int)) 0 l (l.length - 1)
   have hz0:nth 0 (zs l) (0:Int).toNat=(h0:Int):=by rw [← hl];rfl
   have hz1:nth 0 (zs l) 0=(h0:Int):=by rw [← hl];rfl
   have hll:lastN l<2*es.length:=by
    have h1:lastN l ∈ l:=nth_mem 0 l _ (by omega);rw [← hl] at h1;have:=hlt _ h1;rw [hl] at this;omega
   have hR:faceQ es f (0,(v:Int)) l=if h0 % 2=0∧(nth ed0 es (h0 / 2)).dir.y=0 then nth 0 f.L h0 else nth 0 f.L (lastN l):=by rw [← hl];simp [faceQ]
   have hzI:∀ x ∈ zs l,InI x:=by
    intro x hx;unfold zs at hx;obtain⟨y,hy,rfl⟩:=List.mem_map.1 hx;rw [← hl] at hy;have:=hlt y hy;unfold InI;omega
   rw [hl] at hS hAv ⊢;clear hl hlt hAr;have hrow:=hS.rowSl 3 rfl;have hIr:Ints _ _ (.slice ad l.length c) (zs l):=Ints.intro hrow hzI;have hS:=hS.freeze 3 rfl;simp only [NRH] at hS;have hE:=h.arr.hEs.el (h0 / 2) hh0;have hce:=flat_cell ec_len er0 (show h0 / 2<rs.length by rw [h.arr.hEs.len];omega);obtain⟨r,hr⟩:∃ r,nth er0 rs (h0 / 2)=r:=⟨_,rfl⟩;rw [hr] at hce hE;rw [← hE.dir] at hR;replace hce:((rs.flatMap ec).drop (h0 / 2*5)).take 5=[.int .i64 (r.a:Int),.int .i64 (r.b:Int),.slice r.ad r.n r.c,.int .i64 r.dir.x,.int .i64 r.dir.y]:=hce;clear hr hE hzI;have q1:=tdiv2 h0;have q2:=tmod2 h0;have q3:IntKind.i64.wrap ((h0 / 2:Nat):Int)=((h0 / 2:Nat):Int):=w6
   have q4:IntKind.i64.wrap ((l.length:Int) - 1)=((l.length - 1:Nat):Int):=by
    have:=hrow.le;unfold maxLen at this;rw [w6];omega
   have hnz:((l.length:Int) == 0)=false:=beq_eq_false_iff_ne.2 (by omega);replace hR:=Hd hR;obtain⟨m,hm⟩:∃ m,h0 % 2=m:=⟨_,rfl⟩;have hm2:m=0∨m=1:=by omega
   rw [hm] at q2;obtain⟨i,hi⟩:∃ i,h0 / 2=i:=⟨_,rfl⟩;rw [hi] at q1 q3 hce hh0
   have hcz:((iv (zs l)).drop ((l.length - 1)*1)).take 1=[.int .i64 ((lastN l:Nat):Int)]:=by
    rw [Nat.mul_one,List.drop_eq_getElem_cons (by rw [iv_length,zs_length];omega)];simp only [List.take_succ_cons,List.take_zero,List.cons.injEq,and_true];unfold iv;rw [List.getElem_map,← nth_eq 0 (zs l) _ (by rw [zs_length];omega),hzl]
   clear hzl
   rcases hm2 with rfl|rfl
   ·by_cases hy:r.dir.y=0
    ·have hyd:(r.dir.y == 0)=true:=by simpa using hy
     have hR2:=hR.out;rw [if_pos ⟨hm,hy⟩] at hR2;replace hR2:=Hd hR2;clear hy hR hm hi hcz
     go_wp2_with (first|(with_reducible first|refine ixI Tryz.underlying22 Tryz.sizeOf3 fun _ _ _=>?_|refine ld0 hS Tryz.isAgg3 ?_)|((with_reducible refine g_load (T:=32) ?_);refine seq_of hS rfl (stp_loadj (T:=32) 3 Tryz.isAgg32 rfl hcB (by simp) rfl ?_);simp only [NRM])|((with_reducible refine ixE Tryz.underlying32 Tryz.sizeOf101 hsl hce fun bq oq hcellq=>?_);replace hcellq:CellsAt _ _ ⟨bq,oq+3,none⟩ [.int .i64 r.dir.x,.int .i64 r.dir.y]:=hcellq.part 3 2)|(with_reducible first|refine ldG hS Tryz.isAgg29 Tryz.sizeOf29 ?_|refine alA hS Tryz.zeroValue29 fun b13 wb13 hS=>?_|refine stA 4 hS Tryz.sizeOf29 fun _ hS=>?_)| (with_reducible refine ldB 4 hS Tryz.isAgg3 ?_)|((with_reducible refine g_load (T:=22) ?_);refine seq_of hS rfl (stp_loadj (T:=22) 5 Tryz.isAgg22 rfl hcB (by simp) rfl ?_);simp only [NRM]))
     refine bodyPost_ret (results_tmp2 rfl _ _ _) rfl ?_;exact⟨⟨l,hAv.out,by (rw [hR2.out];first|rfl|(simp only [hz1];rfl))⟩,(hp2.step hS hO2 hF2).below,(hp2.step hS hO2 hF2).drawn⟩
    ·have hyd:(r.dir.y == 0)=false:=by simpa using hy
     have hR2:=hR.out;rw [if_neg (fun e=>hy e.2)] at hR2;replace hR2:=Hd hR2;clear hy hR hm hi
     go_wp2_with (first|(with_reducible first|refine ixI Tryz.underlying22 Tryz.sizeOf3 fun _ _ _=>?_|refine ld0 hS Tryz.isAgg3 ?_)|((with_reducible refine g_load (T:=32) ?_);refine seq_of hS rfl (stp_loadj (T:=32) 3 Tryz.isAgg32 rfl hcB (by simp) rfl ?_);simp only [NRM])|((with_reducible refine ixE Tryz.underlying32 Tryz.sizeOf101 hsl hce fun bq oq hcellq=>?_);replace hcellq:CellsAt _ _ ⟨bq,oq+3,none⟩ [.int .i64 r.dir.x,.int .i64 r.dir.y]:=hcellq.part 3 2)|(with_reducible first|refine ldG hS Tryz.isAgg29 Tryz.sizeOf29 ?_|refine alA hS Tryz.zeroValue29 fun b13 wb13 hS=>?_|refine stA 4 hS Tryz.sizeOf29 fun _ hS=>?_)| (with_reducible refine ldB 4 hS Tryz.isAgg3 ?_))
     refine rg0 [.p 0,.p 1,.p 2,.p 3,.r 4,.p 5,.p 6,.p 7,.p 8,.p 9,.r 10,.p 11,.r 12,.p 13,.p 14] [] hS fun w1 hS=>?_
     repeat (first|(with_reducible refine skL ?_)|((with_reducible refine m_read ?_);refine sched_of rfl rfl (stp_loadj (T:=22) 5 Tryz.isAgg22 rfl hcB (by simp) rfl ?_);simp only [NRM])|(with_reducible first|refine sixE Tryz.underlying22 Tryz.sizeOf3 hrow hcz fun bq oq hcellq=>?_|refine sixI Tryz.underlying22 Tryz.sizeOf3 fun _ _ _=>?_|refine sld0 Tryz.isAgg3 ?_|refine spL ?_))
     refine snL ?_;go_wp2;refine bodyPost_ret (results_tmp2 rfl _ _ _) rfl ?_;exact⟨⟨l,hAv.out,by (rw [hR2.out];first|rfl|(simp only [hz1];rfl))⟩,(hp2.step hS hO2 hF2).below,(hp2.step hS hO2 hF2).drawn⟩
   ·have hR2:=hR.out
    rw [if_neg (fun e=>by omega)] at hR2;replace hR2:=Hd hR2;clear hR hm hi;have q5:(((1:Nat):Int) == 0)=false:=rfl
    go_wp2_with (first|(with_reducible first|refine ixI Tryz.underlying22 Tryz.sizeOf3 fun _ _ _=>?_|refine ld0 hS Tryz.isAgg3 ?_)|((with_reducible refine g_load (T:=32) ?_);refine seq_of hS rfl (stp_loadj (T:=32) 3 Tryz.isAgg32 rfl hcB (by simp) rfl ?_);simp only [NRM])|((with_reducible refine ixE Tryz.underlying32 Tryz.sizeOf101 hsl hce fun bq oq hcellq=>?_);replace hcellq:CellsAt _ _ ⟨bq,oq+3,none⟩ [.int .i64 r.dir.x,.int .i64 r.dir.y]:=hcellq.part 3 2)|(with_reducible first|refine ldG hS Tryz.isAgg29 Tryz.sizeOf29 ?_|refine alA hS Tryz.zeroValue29 fun b13 wb13 hS=>?_|refine stA 4 hS Tryz.sizeOf29 fun _ hS=>?_)| ((with_reducible refine g_load (T:=3) ?_);refine wpList_unwanted rfl ?_;simp only [NRM]))
    refine rg0 [.p 0,.p 1,.p 2,.p 3,.r 4,.p 5,.p 6,.p 7,.p 8,.p 9,.r 10,.p 11,.r 12,.p 13,.p 14] [] hS fun w1 hS=>?_
    repeat (first|(with_reducible refine skL ?_)|((with_reducible refine m_read ?_);refine sched_of rfl rfl (stp_loadj (T:=22) 5 Tryz.isAgg22 rfl hcB (by simp) rfl ?_);simp only [NRM])|(with_reducible first|refine sixE Tryz.underlying22 Tryz.sizeOf3 hrow hcz fun bq oq hcellq=>?_|refine sixI Tryz.underlying22 Tryz.sizeOf3 fun _ _ _=>?_|refine sld0 Tryz.isAgg3 ?_|refine spL ?_))
    refine snL ?_;go_wp2;refine bodyPost_ret (results_tmp2 rfl _ _ _) rfl ?_;exact⟨⟨l,hAv.out,by (rw [hR2.out];first|rfl|(simp only [hz1];rfl))⟩,(hp2.step hS hO2 hF2).below,(hp2.step hS hO2 hF2).drawn⟩
 ·simp only []
  have hd1:(((1:Int)) == 2)=false:=rfl;have hd2:(((1:Int)) == 1)=true:=rfl;have hE:=h.arr.hEs.el e he;have hce:=flat_cell ec_len er0 (show e<rs.length by rw [h.arr.hEs.len];omega);obtain⟨r,hr⟩:∃ r,nth er0 rs e=r:=⟨_,rfl⟩;rw [hr] at hce hE;have hR:faceQ es f (1,(e:Int)) []=if 0<r.dir.y then nth 0 f.L (2*e+1) else nth 0 f.L (2*e):=by rw [hE.dir];simp [faceQ]
  replace hce:((rs.flatMap ec).drop (e*5)).take 5=[.int .i64 (r.a:Int),.int .i64 (r.b:Int),.slice r.ad r.n r.c,.int .i64 r.dir.x,.int .i64 r.dir.y]:=hce;clear hr hE hcA;obtain⟨M,hM⟩:∃ M,2*e=M:=⟨_,rfl⟩;obtain⟨M1,hM1⟩:∃ M1,M+1=M1:=⟨_,rfl⟩;have u1:IntKind.i64.wrap (2*(e:Int))=(M:Int):=w7;have u2:IntKind.i64.wrap ((M:Int)+1)=(M1:Int):=w7;have hMb:M<N∧M1<N:=by omega
  obtain⟨hMa,hMb⟩:=hMb;rw [hM,hM1] at hR;clear hM hM1;have hAv:∀ v':Nat,v'<V.length→((1:Int),(e:Int))=(0,(v':Int))→AroundL es v' []:=fun v' _ e=>by simp at e
  replace hAv:=Hd hAv;replace hR:=Hd hR
  by_cases hy:0<r.dir.y
  ·have hyd:decide (0<r.dir.y)=true:=by simpa using hy
   have hR2:=hR.out;rw [if_pos hy] at hR2;replace hR2:=Hd hR2;clear hy hR
   go_wp2_with (with_reducible first|refine alA hS Tryz.zeroValue47 fun b7 wb7 hS=>?_|refine stA 2 hS Tryz.sizeOf47 fun _ hS=>?_|refine ldB 2 hS Tryz.isAgg3 ?_)
   refine rg0 [.p 0,.p 1,.p 2,.p 3,.r 4,.p 5,.r 6,.p 7,.p 8,.p 9,.r 10,.p 11] [] hS fun w1 hS=>?_
   repeat (first|(with_reducible refine skL ?_)|((with_reducible refine m_read ?_);refine sched_of rfl rfl (stp_loadj (T:=32) 3 Tryz.isAgg32 rfl hcB (by simp) rfl ?_);simp only [NRM])|(with_reducible first|refine sldB 2 Tryz.isAgg3 ?_|refine sixE Tryz.underlying32 Tryz.sizeOf101 hsl hce fun bq oq hcellq=>?_|refine sldJ 4 Tryz.isAgg3 ?_|refine spL ?_))
   refine snL ?_;clear hce hcellq;go_wp2;refine rg0 [.p 0,.p 1,.p 2,.p 3,.r 4,.p 5,.r 6,.p 7,.p 8,.p 9,.r 10,.p 11,.p 12] [] hS fun w1 hS=>?_
   repeat (first|(with_reducible refine skL ?_)|((with_reducible refine m_read ?_);refine sched_of rfl rfl (stp_loadj (T:=22) 5 Tryz.isAgg22 rfl hcB (by simp) rfl ?_);simp only [NRM])|(with_reducible first|refine sldB 2 Tryz.isAgg3 ?_|refine sixI Tryz.underlying22 Tryz.sizeOf3 fun _ _ _=>?_|refine sld0 Tryz.isAgg3 ?_|refine spL ?_))
   refine snL ?_;go_wp2;refine bodyPost_ret (results_tmp2 rfl _ _ _) rfl ?_;exact⟨⟨[],hAv.out,by (rw [hR2.out] <;> rfl)⟩,(hp2.step hS hO2 hF2).below,(hp2.step hS hO2 hF2).drawn⟩
  ·have hyd:decide (0<r.dir.y)=false:=by simpa using hy
   have hR2:=hR.out;rw [if_neg hy] at hR2;replace hR2:=Hd hR2;clear hy hR
   go_wp2_with (with_reducible first|refine alA hS Tryz.zeroValue47 fun b7 wb7 hS=>?_|refine stA 2 hS Tryz.sizeOf47 fun _ hS=>?_|refine ldB 2 hS Tryz.isAgg3 ?_)
   refine rg0 [.p 0,.p 1,.p 2,.p 3,.r 4,.p 5,.r 6,.p 7,.p 8,.p 9,.r 10,.p 11] [] hS fun w1 hS=>?_
   repeat (first|(with_reducible refine skL ?_)|((with_reducible refine m_read ?_);refine sched_of rfl rfl (stp_loadj (T:=32) 3 Tryz.isAgg32 rfl hcB (by simp) rfl ?_);simp only [NRM])|(with_reducible first|refine sldB 2 Tryz.isAgg3 ?_|refine sixE Tryz.underlying32 Tryz.sizeOf101 hsl hce fun bq oq hcellq=>?_|refine sldJ 4 Tryz.isAgg3 ?_|refine spL ?_))
   refine snL ?_;clear hce hcellq;go_wp2;refine rg0 [.p 0,.p 1,.p 2,.p 3,.r 4,.p 5,.r 6,.p 7,.p 8,.r 9,.p 10,.p 11] [] hS fun w1 hS=>?_
   repeat (first|(with_reducible refine skL ?_)|((with_reducible refine m_read ?_);refine sched_of rfl rfl (stp_loadj (T:=22) 5 Tryz.isAgg22 rfl hcB (by simp) rfl ?_);simp only [NRM])|(with_reducible first|refine sldB 2 Tryz.isAgg3 ?_|refine sixI Tryz.underlying22 Tryz.sizeOf3 fun _ _ _=>?_|refine sld0 Tryz.isAgg3 ?_|refine spL ?_))
   refine snL ?_;go_wp2;refine bodyPost_ret (results_tmp2 rfl _ _ _) rfl ?_;exact⟨⟨[],hAv.out,by (rw [hR2.out] <;> rfl)⟩,(hp2.step hS hO2 hF2).below,(hp2.step hS hO2 hF2).drawn⟩
 ·simp only []
  have hd1:(((2:Int)) == 2)=true:=rfl
  go_wp2_with (with_reducible first|refine alA hS Tryz.zeroValue47 fun b7 wb7 hS=>?_|refine stA 2 hS Tryz.sizeOf47 fun _ hS=>?_|refine ldB 2 hS Tryz.isAgg3 ?_)
  refine bodyPost_ret (results_tmp2 rfl _ _ _) rfl ?_;exact⟨⟨[],fun v _ e=>by simp at e,rfl⟩,(hp2.step hS hO2 hF2).below,(hp2.step hS hO2 hF2).drawn⟩
end Go.Proofs
