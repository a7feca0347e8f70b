/- Texts for the walk of the law: K14 K15 K16. -/
import Derived.Test.YtihpoboahbpaiaaGreatQ09
set_option maxRecDepth 100000
set_option maxHeartbeats 16000000
set_option linter.unusedVariables false
set_option linter.unusedSimpArgs false
namespace Go.Hp
open Go.Proofs.Tryz
open Go
theorem fill2w (a b:Int):Instr.fill (fun i=>some (i*1,1)) ((Array.range (2*1)).map ((Value.int .u32 0).cells[· % (Value.int .u32 0).cells.size]!)) [(0,.int .u32 a),(1,.int .u32 b)]=some #[.int .u32 a,.int .u32 b]:=by
 have h:((Array.range (2*1)).map ((Value.int .u32 0).cells[· % (Value.int .u32 0).cells.size]!))=#[.int .u32 0,.int .u32 0]:=by
  apply Array.ext';simp [Array.range,List.ofFn_succ,Value.cells]
 rw [h];simp [Instr.fill,Value.cells]
theorem IsI.stay {w0 w wr:World} {H H':List Chunk} {b:Nat} {o:Obj} {x:WI} {z:Int} (h:IsI wr (fun k=>k=b) x z) (h1:Heap w0 wr H) (h2:Heap w0 w H') (m1:Chunk.blk b o ∈ H) (m2:Chunk.blk b o ∈ H'):IsI w (fun k=>k=b) x z:=h.move fun k hk=>by
 subst hk;rw [h2.blk m2,h1.blk m1]
theorem Heap.pureBlk {w0 w:World} {H:List Chunk} {b:Nat} {o:Obj} (S:Nat→Prop) (h:Heap w0 w (.frz (Old w0) w0::H)) (hm:Chunk.blk b o ∈ H):Pure w0 S w (fun k=>S k∨k=b) :=
 ⟨h.toBelow (by simp),h.drawn,fun k hk=>.inl hk,fun k hk=>by
  rcases hk with hk|rfl
  ·exact .inl hk
  ·exact .inr (h.isNew hm (c:=.blk k o) rfl)⟩
theorem cons_eraseIdx_perm {α:Type}:∀ (H:List α) (j:Nat) (h:j<H.length),(H[j]::H.eraseIdx j).Perm H
 | [],j,h=>by simp at h
 | x::H,0,_=>List.Perm.refl _
 | x::H,j+1,h=>by
  have ih:=cons_eraseIdx_perm H j (by simpa using h);simp only [List.getElem_cons_succ,List.eraseIdx_cons_succ];exact (List.Perm.swap x _ _).trans (ih.cons x)
theorem Heap.take1 {w0 w wr:World} {H:List Chunk} {F:Nat→Prop} {b:Nat} {o:Obj} (hS:Heap w0 w (.frz F wr::H)) (j:Nat) (hj:H[j]? = some (.blk b o)):Heap w0 w (.frz (fun k=>F k∨k=b) w::H.eraseIdx j):=by
 obtain⟨hlt,hv⟩:=List.getElem?_eq_some_iff.1 hj
 have h1:Heap w0 w (.frz F wr::.blk b o::H.eraseIdx j):=hS.perm (by
  refine List.Perm.cons _ ?_;rw [← hv];exact cons_eraseIdx_perm H j hlt)
 have h2:=h1.freeze 1 rfl;exact h2.join
theorem Heap.isNewF {w0 w wr:World} {H:List Chunk} {F:Nat→Prop} {b:Nat} {o:Obj} (hS:Heap w0 w (.frz F wr::H)) (hO:∀ k,Old w0 k→F k) (j:Nat) (hj:H[j]? = some (.blk b o)):New w0 w b:=by
 have hm:=List.mem_of_getElem? hj;refine⟨?_,Chunk.lt (hS.ok _ (List.mem_cons_of_mem _ hm)) (c:=.blk b o) rfl⟩
 rcases Nat.lt_or_ge b w0.heap.size with hlt|hge
 ·exact absurd rfl ((List.pairwise_cons.1 hS.apart).1 _ hm b (hO b hlt))
 ·exact hge
theorem Pure.add {w w':World} {S S':Nat→Prop} (h:Pure w S w' S') {b:Nat} (hb:New w w' b):Pure w S w' (fun k=>S' k∨k=b) :=
 ⟨h.below,h.drawn,fun k hk=>.inl (h.sub k hk),fun k hk=>by
  rcases hk with hk|rfl
  ·exact h.new k hk
  ·exact .inr hb⟩
end Go.Hp
namespace Go.Proofs
open Go.Proofs.Tryz
open Go.RowKit Go.Hp
def JRes (w:World) (S:Nat→Prop) (v:Int) (e:Ending) (w':World):Prop:=∃ (z:WI) (S':Nat→Prop),e=.returned (.agg #[.bool z.neg,.slice z.ad z.n z.cap])∧Pure w S w' S'∧IsI w' S' z v
theorem val_two (m:Nat) (h:m≤9223372036854775808):Wd [m % 4294967296,m / 4294967296]∧val [m % 4294967296,m / 4294967296]=m:=by
 constructor
 ·intro x hx
  rw [WB_eq];simp only [List.mem_cons,List.not_mem_nil,or_false] at hx;omega
 ·simp only [val,WB_eq];omega
theorem from_any (n:Int) (w:World) (S:Nat→Prop) (hn:InI n):Calls Tryz.prog 139 #[.int .i64 n] w (JRes w S n):=by
 obtain⟨h1,h2⟩:=hn;have hS:=Heap.start w
 by_cases h0:n<0
 ·obtain⟨m,rfl⟩:∃ m:Nat,n = -(m:Int):=⟨n.natAbs,by omega⟩
  obtain⟨hw2,hv2⟩:=val_two m (by omega);have hfit:val [m % 4294967296,m / 4294967296]<Lim:=Lim_lt hw2 (by simp);replace hv2:=Hd hv2;have hwn:IntKind.u64.wrap (-IntKind.u64.wrap (-(m:Int)))=(m:Int):=by rw [IntKind.wrap_u64,IntKind.wrap_u64];omega
  go_enter func139,ntmps139
  go_wp2_with (first|(with_reducible refine alA hS zeroValue52 fun br wbr hS=>?_)|((with_reducible refine g_bs (T:=50) ?_);refine seq_buildSlice (k:=1) (z:=.int .u32 0) (len:=2) hS underlying50 sizeOf228 zeroValue228 (by decide) (by decide) (fill2w _ _) (fun bs wbs hS=>?_);simp only [NRM];simp only [NRH] at hS))
  have e1:(m:Int) % 4294967296=((m % 4294967296:Nat):Int):=by omega
  have e2:(m:Int) / 4294967296=((m / 4294967296:Nat):Int):=by omega
  rw [e1,e2] at hS;clear e1 e2;have hmag:=Mag.blk 2 hS (l:=[m % 4294967296,m / 4294967296]) rfl hw2 (by simp [maxLen]);refine (signed_any true _ _ _ [m % 4294967296,m / 4294967296] _ _ hmag hfit).mono ?_;rintro e w2 ⟨z,rfl,hq,hz⟩;have hS0:=hS.below hq.below hq.drawn;clear hS;have hS:=hS0
  go_wp2_with (with_reducible first|refine alA hS zeroValue52 fun bt wbt hS=>?_|refine stA 3 hS sizeOf52 fun _ hS=>?_|refine stA 1 hS sizeOf52 fun _ hS=>?_|refine ldA 3 hS isAgg52 sizeOf52 ?_)
  have hz2:=IsI.stay hz hS0 hS (b:=bs) (o:=.cells #[.int .u32 ((m % 4294967296:Nat):Int),.int .u32 ((m / 4294967296:Nat):Int)] 228 (0,0)) (by simp) (by simp);exact ret_c 1 hS rfl rfl rfl isAgg52 sizeOf52 rfl rfl ⟨z,_,rfl,hS.pureBlk S (b:=bs) (o:=.cells #[.int .u32 ((m % 4294967296:Nat):Int),.int .u32 ((m / 4294967296:Nat):Int)] 228 (0,0)) (by simp),(hz2.weaken fun k hk=>.inr hk).cast (by rw [hv2.out];simp)⟩
 ·obtain⟨m,rfl⟩:∃ m:Nat,n=(m:Int):=⟨n.toNat,by omega⟩
  obtain⟨hw2,hv2⟩:=val_two m (by omega);have hfit:val [m % 4294967296,m / 4294967296]<Lim:=Lim_lt hw2 (by simp)
  go_enter func139,ntmps139
  replace hv2:=Hd hv2
  go_wp2_with (first|(with_reducible refine alA hS zeroValue52 fun br wbr hS=>?_)|((with_reducible refine g_bs (T:=50) ?_);refine seq_buildSlice (k:=1) (z:=.int .u32 0) (len:=2) hS underlying50 sizeOf228 zeroValue228 (by decide) (by decide) (fill2w _ _) (fun bs wbs hS=>?_);simp only [NRM];simp only [NRH] at hS))
  have e1:(m:Int) % 4294967296=((m % 4294967296:Nat):Int):=by omega
  have e2:(m:Int) / 4294967296=((m / 4294967296:Nat):Int):=by omega
  rw [e1,e2] at hS;clear e1 e2;have hmag:=Mag.blk 2 hS (l:=[m % 4294967296,m / 4294967296]) rfl hw2 (by simp [maxLen]);refine (signed_any false _ _ _ [m % 4294967296,m / 4294967296] _ _ hmag hfit).mono ?_;rintro e w2 ⟨z,rfl,hq,hz⟩;have hS0:=hS.below hq.below hq.drawn;clear hS;have hS:=hS0
  go_wp2_with (with_reducible first|refine alA hS zeroValue52 fun bt wbt hS=>?_|refine stA 3 hS sizeOf52 fun _ hS=>?_|refine stA 1 hS sizeOf52 fun _ hS=>?_|refine ldA 3 hS isAgg52 sizeOf52 ?_)
  have hz2:=IsI.stay hz hS0 hS (b:=bs) (o:=.cells #[.int .u32 ((m % 4294967296:Nat):Int),.int .u32 ((m / 4294967296:Nat):Int)] 228 (0,0)) (by simp) (by simp);exact ret_c 1 hS rfl rfl rfl isAgg52 sizeOf52 rfl rfl ⟨z,_,rfl,hS.pureBlk S (b:=bs) (o:=.cells #[.int .u32 ((m % 4294967296:Nat):Int),.int .u32 ((m / 4294967296:Nat):Int)] 228 (0,0)) (by simp),(hz2.weaken fun k hk=>.inr hk).cast (by rw [hv2.out];simp)⟩
end Go.Proofs
namespace Go.Proofs
open Go.Proofs.Tryz
open Go.RowKit Go.Hp
def DRes (w:World) (S:Nat→Prop) (a b:Int) (e:Ending) (w':World):Prop:=∃ (z r:WI) (S':Nat→Prop),e=.returned (.tuple #[.agg #[.bool z.neg,.slice z.ad z.n z.cap],.agg #[.bool r.neg,.slice r.ad r.n r.cap],.int .i64 0])∧Pure w S w' S'∧IsI w' S' z (a / b)∧IsI w' S' r (a % b)
theorem ediv_of {a b q r:Int} (hb:b≠0) (h:r+b*q=a) (h0:0≤r) (hr:r<b.natAbs):a / b=q∧a % b=r:=by
 rcases Int.lt_or_gt_of_ne hb with hlt|hgt
 ·have h1:a / (-b) = -q∧a % (-b)=r:=(Int.ediv_emod_unique (by omega)).2 ⟨by rw [Int.neg_mul_neg];exact h,h0,by omega⟩
  rw [Int.ediv_neg,Int.emod_neg] at h1;exact⟨by omega,h1.2⟩
 ·exact (Int.ediv_emod_unique hgt).2 ⟨h,h0,by omega⟩
theorem ediv_nonneg' {a b:Int} {A B q r:Nat} (hb:b≠0) (ha:0≤a) (hA:A=a.natAbs) (hB:B=b.natAbs) (h:A=q*B+r) (hr:r<B):a / b=(if decide (b<0)=true then -(q:Int) else (q:Int))∧a % b=(r:Int):=by
 have h':(A:Int)=(q:Int)*(B:Int)+(r:Int):=by rw [h];push_cast;rfl
 by_cases hb0:b<0
 ·simp only [hb0,decide_true,if_true]
  refine ediv_of hb ?_ (by omega) (by omega);have:b = -(B:Int):=by omega
  rw [this,Int.neg_mul_neg,Int.mul_comm];omega
 ·simp only [hb0,decide_false,Bool.false_eq_true,if_false]
  refine ediv_of hb ?_ (by omega) (by omega);have:b=(B:Int):=by omega
  rw [this,Int.mul_comm];omega
theorem ediv_neg0 {a b:Int} {A B q:Nat} (hb:b≠0) (ha:a<0) (hA:A=a.natAbs) (hB:B=b.natAbs) (h:A=q*B):a / b=(if (!decide (b<0))=true then -(q:Int) else (q:Int))∧a % b=0:=by
 have h':(A:Int)=(q:Int)*(B:Int):=by rw [h];push_cast;rfl
 by_cases hb0:b<0
 ·simp only [hb0,decide_true,Bool.not_true,Bool.false_eq_true,if_false]
  refine ediv_of hb ?_ (by omega) (by omega);have:b = -(B:Int):=by omega
  rw [this,Int.neg_mul,Int.mul_comm];omega
 ·simp only [hb0,decide_false,Bool.not_false,if_true]
  refine ediv_of hb ?_ (by omega) (by omega);have:b=(B:Int):=by omega
  rw [this,Int.mul_neg,Int.mul_comm];omega
theorem ediv_neg1 {a b:Int} {A B q r:Nat} (hb:b≠0) (ha:a<0) (hA:A=a.natAbs) (hB:B=b.natAbs) (h:A=q*B+r) (hr:r<B) (h0:0<r):a / b=(if (!decide (b<0))=true then -((q+1:Nat):Int) else ((q+1:Nat):Int))∧a % b=((B - r:Nat):Int):=by
 have h':(A:Int)=(q:Int)*(B:Int)+(r:Int):=by rw [h];push_cast;rfl
 by_cases hb0:b<0
 ·simp only [hb0,decide_true,Bool.not_true,Bool.false_eq_true,if_false]
  refine ediv_of hb ?_ (by omega) (by omega);have:b = -(B:Int):=by omega
  rw [this,Int.neg_mul,Int.mul_comm,Int.natCast_add,Int.add_mul];omega
 ·simp only [hb0,decide_false,Bool.not_false,if_true]
  refine ediv_of hb ?_ (by omega) (by omega);have:b=(B:Int):=by omega
  rw [this,Int.mul_neg,Int.mul_comm,Int.natCast_add,Int.add_mul];omega
theorem _root_.Go.Hp.Heap.pick {w0 w:World} {H:List Chunk} (h:Heap w0 w H) (is:List Nat) (hp:is.isSublist (List.range H.length)=true):Heap w0 w (is.filterMap (fun i=>H[i]?)):=by
 have h1:=(List.isSublist_iff_sublist.1 hp).filterMap (fun i=>H[i]?);rw [filterMap_range] at h1;exact h.sub h1
theorem divI_any (x y:WI) (a b:Int) (w:World) (S:Nat→Prop) (hx:IsI w S x a) (hy:IsI w S y b) (hL:Liv w S) (hbz:b≠0) :
 Calls Tryz.prog 96 #[.agg #[.bool x.neg,.slice x.ad x.n x.cap],.agg #[.bool y.neg,.slice y.ad y.n y.cap]] w (DRes w S a b):=by
 obtain⟨xneg,xad,xn,xcap⟩:=x;obtain⟨yneg,yad,yn,ycap⟩:=y;have hfa:=hx.lt;obtain⟨la,ha,na,la512,hxn,hva⟩:=hx;obtain⟨lb,hb,nb,lb512,hyn,hvb⟩:=hy;dsimp only at ha hb hxn hyn ⊢;have hla:=ha.len;have hlb:=hb.len;subst hla hlb;have hb0:val lb≠0:=by omega
 have hbl:0<lb.length:=by
  rcases Nat.eq_zero_or_pos lb.length with h|h
  ·rw [List.length_eq_zero_iff.1 h] at hb0;exact absurd rfl hb0
  ·exact h
 obtain⟨hS,hF0,hO0,hp0⟩:=st0 hL;replace hva:=Hd hva;replace hvb:=Hd hvb;replace hyn:=Hd hyn;cases xneg
 ·have h1:0≤a:=by
   have:¬ a<0:=by simpa using hxn.symm
   omega
  clear hxn
  go_enter func96,ntmps96
  go_wp2_with (first|(with_reducible first|refine bxA hS fun bx wbx hS=>?_|refine alA hS zeroValue52 fun br wbr hS=>?_|refine ldB 1 hS isAgg4 ?_|refine ldB 2 hS isAgg4 ?_|refine ldB 1 hS isAgg50 ?_|refine ldB 2 hS isAgg50 ?_)|(go_at_call 140;refine (divide_any _ _ _ _ _ _ la lb _ S (ha.at hS hF0) (hb.at hS hF0) na nb (by omega) hb0).mono ?_;rintro e w' ⟨S1,qd,rd,qc,rc,lq,lr,rfl,hq,hmq,hmr,nq,nr,hq2001,hdv,hdr⟩;have hbm:=(hb.at hS hF0).grow hq;replace hdv:=Hd hdv;replace hdr:=Hd hdr;replace hS:=hS.pcl hF0 hO0 hp0 hq;obtain⟨F1,hF1,-,hp1,hO1,hS⟩:=hS))
  have hqf:=ediv_nonneg' hbz h1 hva.out hvb.out hdv.out hdr.out;refine (signed_any _ _ _ _ lq _ S1 (hmq.at hS hF1) (by have:=hdv.out;have:=hva.out;have:val lq*1≤val lq*val lb:=Nat.mul_le_mul_left _ (by omega);omega)).mono ?_;rintro e w3 ⟨z,rfl,hq3,hz⟩;have hmr:=(hmr.at hS hF1).grow hq3;replace hS:=hS.pcl hF1 hO1 hp1 hq3;obtain⟨F2,hF2,-,hp2,hO2,hS⟩:=hS
  go_wp2_with (with_reducible first|refine alA hS zeroValue52 fun b9 wb9 hS=>?_|refine stA 5 hS sizeOf52 fun _ hS=>?_)
  refine (signed_any _ _ _ _ lr _ S1 (hmr.at hS hF2) (by have:=hdr.out;have:=Lim_lt hb.wd lb512;omega)).mono ?_;rintro e w4 ⟨r,rfl,hq4,hr⟩;have hz:=(hz.at hS hF2).grow hq4;replace hS:=hS.pcl hF2 hO2 hp2 hq4;obtain⟨F3,hF3,-,hp3,hO3,hS⟩:=hS
  go_wp2_with (with_reducible first|refine alA hS zeroValue52 fun b11 wb11 hS=>?_|refine stA 6 hS sizeOf52 fun _ hS=>?_)
  have hS:=hS.drew;have hC:=hS.pick [0,5,6] rfl;simp only [List.filterMap_cons,List.getElem?_cons_zero,List.getElem?_cons_succ,List.filterMap_nil] at hC;refine wp_region_sched0 [.r 0,.r 1,.e 2,.m 3,.p 4] [3] (fun wZ=>Heap w wZ _) (by kernel_rfl) (by kernel_rfl) hC ?_
  repeat (with_reducible first|refine sldA 1 isAgg52 sizeOf52 ?_|refine sldA 2 isAgg52 sizeOf52 ?_)
  refine exL ?_
  (with_reducible refine stA 3 hS sizeOf52 fun _ hS=>?_)
  have hC:=hS.pick [0,5,6] rfl;refine ext_end hC ?_;refine mvs ?_;refine muL ?_
  (with_reducible refine stA 4 hS sizeOf52 fun _ hS=>?_)
  refine mut_end ?_;refine mvs ?_;refine snL ?_;go_wp2;exact ret_cct 3 4 hS rfl rfl rfl rfl rfl isAgg52 sizeOf52 rfl isAgg52 sizeOf52 rfl rfl ⟨z,r,S1,rfl,hp3.step hS hO3 hF3,(hz.at hS hF3).cast (by rw [hqf.1,hyn.out]),(hr.at hS hF3).cast (by rw [hqf.2];rfl)⟩
 ·have h1:a<0:=by simpa using hxn.symm
  clear hxn
  go_enter func96,ntmps96
  go_wp2_with (with_reducible first|refine bxA hS fun bx wbx hS=>?_|refine alA hS zeroValue52 fun br wbr hS=>?_|refine ldB 1 hS isAgg50 ?_|refine ldB 2 hS isAgg50 ?_)
  refine (divide_any _ _ _ _ _ _ la lb _ S (ha.at hS hF0) (hb.at hS hF0) na nb (by omega) hb0).mono ?_;rintro e w' ⟨S1,qd,rd,qc,rc,lq,lr,rfl,hq,hmq,hmr,nq,nr,hq2001,hdv,hdr⟩;have hbm:=(hb.at hS hF0).grow hq;replace hdv:=Hd hdv;replace hdr:=Hd hdr;replace hS:=hS.pcl hF0 hO0 hp0 hq;obtain⟨F1,hF1,-,hp1,hO1,hS⟩:=hS;simp only []
  have hlr2:lr.length≤512:=by
   have h1:=hdr.out;exact Lim_len nr (Nat.lt_trans h1 (Lim_lt hb.wd lb512))
  by_cases hr0:lr=[]
  ·subst hr0
   have hqf:=ediv_neg0 hbz h1 hva.out hvb.out (by simpa [val] using hdv.out);replace hqf:=Hd hqf
   go_wp2_with (with_reducible first|refine ldB 1 hS isAgg4 ?_|refine ldB 2 hS isAgg4 ?_)
   refine (signed_any _ _ _ _ lq _ S1 (hmq.at hS hF1) (by have:=hdv.out;have:=hva.out;have:val lq*1≤val lq*val lb:=Nat.mul_le_mul_left _ (by omega);omega)).mono ?_;rintro e w3 ⟨z,rfl,hq3,hz⟩;have hmr:=(hmr.at hS hF1).grow hq3;replace hS:=hS.pcl hF1 hO1 hp1 hq3;obtain⟨F2,hF2,-,hp2,hO2,hS⟩:=hS
   go_wp2_with (with_reducible first|refine alA hS zeroValue52 fun b9 wb9 hS=>?_|refine stA 5 hS sizeOf52 fun _ hS=>?_)
   refine (signed_any _ _ _ _ [] _ S1 (hmr.at hS hF2) (by have:=hdr.out;have:=Lim_lt hb.wd lb512;omega)).mono ?_;rintro e w4 ⟨r,rfl,hq4,hr⟩;have hz:=(hz.at hS hF2).grow hq4;replace hS:=hS.pcl hF2 hO2 hp2 hq4;obtain⟨F3,hF3,-,hp3,hO3,hS⟩:=hS
   go_wp2_with (with_reducible first|refine alA hS zeroValue52 fun b11 wb11 hS=>?_|refine stA 6 hS sizeOf52 fun _ hS=>?_)
   have hS:=hS.drew;have hC:=hS.pick [0,5,6] rfl;simp only [List.filterMap_cons,List.getElem?_cons_zero,List.getElem?_cons_succ,List.filterMap_nil] at hC;refine wp_region_sched0 [.r 0,.r 1,.e 2,.m 3,.p 4] [3] (fun wZ=>Heap w wZ _) (by kernel_rfl) (by kernel_rfl) hC ?_
   repeat (with_reducible first|refine sldA 1 isAgg52 sizeOf52 ?_|refine sldA 2 isAgg52 sizeOf52 ?_)
   refine exL ?_
   (with_reducible refine stA 3 hS sizeOf52 fun _ hS=>?_)
   have hC:=hS.pick [0,5,6] rfl;refine ext_end hC ?_;refine mvs ?_;refine muL ?_
   (with_reducible refine stA 4 hS sizeOf52 fun _ hS=>?_)
   refine mut_end ?_;refine mvs ?_;refine snL ?_;go_wp2;exact ret_cct 3 4 hS rfl rfl rfl rfl rfl isAgg52 sizeOf52 rfl isAgg52 sizeOf52 rfl rfl ⟨z,r,S1,rfl,hp3.step hS hO3 hF3,(hz.at hS hF3).cast (by rw [hqf.out.1,hyn.out]),(hr.at hS hF3).cast (by rw [hqf.out.2];simp [val])⟩
  ·have hrl:0<lr.length:=List.length_pos_iff.2 hr0
   have hrv:0<val lr:=by
    rcases Nat.eq_zero_or_pos (val lr) with h|h
    ·exact absurd ((val_zero_nm nr).1 h) hr0
    ·exact h
   have hqf:=ediv_neg1 hbz h1 hva.out hvb.out hdv.out hdr.out hrv;replace hqf:=Hd hqf
   go_wp2_with (first|(with_reducible refine ldB 1 hS isAgg4 ?_)|((with_reducible refine g_bs (T:=50) ?_);refine seq_bs1 (T:=50) (v:=.int .u32 _) hS underlying50 sizeOf228 zeroValue228 rfl rfl rfl (by decide) (by decide) rfl (fun bl wbl hS=>?_);simp only [NRM];simp only [Value.cells] at hS))
   simp only [NRH] at hS;have hw1:Wd [1]:=by intro z hz;simp at hz;rw [hz,WB_eq];omega
   have hlit:=(Mag.blk 5 hS (l:=[1]) rfl hw1 (by simp [maxLen])).weaken (T:=fun k=>S1 k∨k=bl) (fun k h=>.inr h);have hmqL:=(hmq.at hS hF1).weaken (T:=fun k=>S1 k∨k=bl) (fun k h=>.inl h);have hmrL:=(hmr.at hS hF1).weaken (T:=fun k=>S1 k∨k=bl) (fun k h=>.inl h);have hbL:=(hbm.at hS hF1).weaken (T:=fun k=>S1 k∨k=bl) (fun k h=>.inl h);have hp2:=(hp1.step hS hO1 hF1).add (hS.isNewF hO1 4 rfl);have hS2:=hS.take1 4 rfl;obtain⟨F2,hFe2⟩:∃ F',F'=fun k=>F1 k∨k=bl:=⟨_,rfl⟩
   rw [← hFe2] at hS2;have hO2:∀ k,Old w k→F2 k:=fun k h=>by rw [hFe2];exact .inl (hO1 k h)
   have hF2:∀ k,(S1 k∨k=bl)→F2 k:=fun k h=>by
    rw [hFe2]
    rcases h with h|h
    ·exact .inl (hF1 k h)
    ·exact .inr h
   clear hFe2 hS;have hS:=hS2;clear hS2;simp only [List.eraseIdx_cons_succ,List.eraseIdx_cons_zero] at hS
   have hlq:lq.length≤512:=by
    have h3:=hdv.out;have h4:val lq*1≤val lq*val lb:=Nat.mul_le_mul_left _ (by omega);exact Lim_len nq (Nat.lt_of_le_of_lt (by omega) (Lim_lt ha.wd la512))
   refine (sum_any _ _ _ _ _ _ lq [1] _ _ hmqL hlit (by omega) (by simp)).mono ?_;rintro e w5 ⟨bs,S5,ls,rfl,hq5,hms,hsl,hsv⟩;replace hsl:=Hd hsl;replace hsv:=Hd hsv;have hmrL:=hmrL.grow hq5;have hbL:=hbL.grow hq5;replace hS:=hS.pcl hF2 hO2 hp2 hq5;obtain⟨F3,hF3,-,hp3,hO3,hS⟩:=hS;simp only []
   go_wp2_with (with_reducible refine ldB 2 hS isAgg50 ?_)
   refine (difference_any _ _ _ _ _ _ lb lr _ S5 (hbL.at hS hF3) (hmrL.at hS hF3) nr (Nat.le_of_lt hdr.out) (by omega)).mono ?_;rintro e w6 ⟨bd,S6,ld,rfl,hq6,hmd,hdl,hdvv⟩;replace hdl:=Hd hdl;replace hdvv:=Hd hdvv;have hms:=(hms.at hS hF3).grow hq6;replace hS:=hS.pcl hF3 hO3 hp3 hq6;obtain⟨F4,hF4,-,hp4,hO4,hS⟩:=hS;simp only []
   go_wp2_with (with_reducible first|refine ldB 1 hS isAgg4 ?_|refine ldB 2 hS isAgg4 ?_)
   refine (signed_any _ _ _ _ ls _ S6 (hms.at hS hF4) (by have h3:=hdv.out;have h4:=hva.out;have h5:=hsv.out;have h6:=hdr.out;have h7:val lq*2≤val lq*val lb:=Nat.mul_le_mul_left _ (by omega);simp only [val] at h5;omega)).mono ?_;rintro e w3 ⟨z,rfl,hq3,hz⟩;have hmr:=(hmd.at hS hF4).grow hq3;replace hS:=hS.pcl hF4 hO4 hp4 hq3;obtain⟨F5,hF5,-,hp5,hO5,hS⟩:=hS
   go_wp2_with (with_reducible first|refine alA hS zeroValue52 fun b9 wb9 hS=>?_|refine stA 5 hS sizeOf52 fun _ hS=>?_)
   refine (signed_any _ _ _ _ ld _ S6 (hmr.at hS hF5) (by have:=hdvv.out;have:=Lim_lt hb.wd lb512;omega)).mono ?_;rintro e w4 ⟨r,rfl,hq4,hr⟩;have hz:=(hz.at hS hF5).grow hq4;replace hS:=hS.pcl hF5 hO5 hp5 hq4;obtain⟨F6,hF6,-,hp6,hO6,hS⟩:=hS
   go_wp2_with (with_reducible first|refine alA hS zeroValue52 fun b11 wb11 hS=>?_|refine stA 6 hS sizeOf52 fun _ hS=>?_)
   have hS:=hS.drew;have hC:=hS.pick [0,5,6] rfl;simp only [List.filterMap_cons,List.getElem?_cons_zero,List.getElem?_cons_succ,List.filterMap_nil] at hC;refine wp_region_sched0 [.r 0,.r 1,.e 2,.m 3,.p 4] [3] (fun wZ=>Heap w wZ _) (by kernel_rfl) (by kernel_rfl) hC ?_
   repeat (with_reducible first|refine sldA 1 isAgg52 sizeOf52 ?_|refine sldA 2 isAgg52 sizeOf52 ?_)
   refine exL ?_
   (with_reducible refine stA 3 hS sizeOf52 fun _ hS=>?_)
   have hC:=hS.pick [0,5,6] rfl;refine ext_end hC ?_;refine mvs ?_;refine muL ?_
   (with_reducible refine stA 4 hS sizeOf52 fun _ hS=>?_)
   refine mut_end ?_;refine mvs ?_;refine snL ?_;go_wp2;exact ret_cct 3 4 hS rfl rfl rfl rfl rfl isAgg52 sizeOf52 rfl isAgg52 sizeOf52 rfl rfl ⟨z,r,S6,rfl,hp6.step hS hO6 hF6,(hz.at hS hF6).cast (by rw [hqf.out.1,hyn.out,hsv.out];simp [val]),(hr.at hS hF6).cast (by rw [hqf.out.2];have h3:=hdvv.out;simp;omega)⟩
end Go.Proofs
namespace Go.Hp
open Go.Proofs.Tryz
open Go
theorem mag_unique {w:World} {S T:Nat→Prop} {v:Value} {l m:List Nat} (h1:Mag w S v l) (h2:Mag w T v m):l=m:=by
 obtain⟨⟨a1,ad,cap,a2,a3,a4,a5,a6⟩,_⟩:=h1;obtain⟨⟨b1,ad',cap',b2,b3,b4,b5,b6⟩,_⟩:=h2;rw [a2] at b2;simp only [Value.slice.injEq] at b2;obtain⟨rfl,hn,rfl⟩:=b2;apply nth_ext 0 hn;intro i hi;cases ad with
 | none=>have:=(a5 rfl).1;omega
 | some ad =>
  have h1:=(a6 ad rfl).cell i _ (wv_at hi);have h2:=(b6 ad rfl).cell i _ (wv_at (by omega));rw [h1] at h2;simp only [Option.some.injEq,Value.int.injEq,true_and] at h2;omega
open Classical in
noncomputable def magAt (w:World) (v:Value):Nat:=if h:∃ l,∃ S,Mag w S v l then val (Classical.choose h) else 0
theorem magAt_eq {w:World} {S:Nat→Prop} {v:Value} {l:List Nat} (h:Mag w S v l):magAt w v=val l:=by
 have hex:∃ l,∃ S,Mag w S v l:=⟨l,S,h⟩;unfold magAt;rw [dif_pos hex];obtain⟨S',hc⟩:=Classical.choose_spec hex;rw [mag_unique hc h]
end Go.Hp
namespace Go.Proofs
open Go.Proofs.Tryz
open Go.RowKit Go.Hp
theorem gcdI_any (x y:WI) (a b:Int) (w:World) (S:Nat→Prop) (hx:IsI w S x a) (hy:IsI w S y b) (hL:Liv w S) :
 Calls Tryz.prog 152 #[.agg #[.bool x.neg,.slice x.ad x.n x.cap],.agg #[.bool y.neg,.slice y.ad y.n y.cap]] w (JRes w S (Int.gcd a b)):=by
 obtain⟨xneg,xad,xn,xcap⟩:=x;obtain⟨yneg,yad,yn,ycap⟩:=y;obtain⟨la,ha,na,la512,hxn,hva⟩:=hx;obtain⟨lb,hb,nb,lb512,hyn,hvb⟩:=hy;dsimp only at ha hb hxn hyn ⊢;have hla:=ha.len;have hlb:=hb.len;subst hla hlb;clear hxn hyn;obtain⟨g,hg⟩:∃ g,g=Nat.gcd (val la) (val lb):=⟨_,rfl⟩;have hgr:(g:Int)=Int.gcd a b:=by rw [hg,hva,hvb];rfl
 obtain⟨hS,hF0,hO0,hp0⟩:=st0 hL;replace hgr:=Hd hgr;replace hg:=Hd hg;clear hva hvb
 go_enter func152,ntmps152
 go_wp2_with (with_reducible first|refine bxA hS fun bx wbx hS=>?_|refine alA hS zeroValue52 fun br wbr hS=>?_)
 refine rg0 [.p 0,.r 1,.p 2,.r 3,.p 4,.p 5] [] hS fun w1 hS=>?_
 repeat (with_reducible first|refine sldB 1 isAgg50 ?_|refine sldB 2 isAgg50 ?_|refine spL ?_)
 refine snL ?_;go_wp2;have hS:=hS.pick [0,3] rfl;simp only [NRF] at hS
 go_loopw [5,6] (fun v5 v6 wr=>∃ (ad bd:Option Addr) (c d:Nat) (la lb:List Nat) (S1 F:Nat→Prop) (wq:World),v5=.slice ad la.length c∧v6=.slice bd lb.length d∧Heap w wr [.frz F wq,.blk br (.cells #[.bool false,.slice none 0 0] 52 (0,0))]∧(∀ k,S1 k→F k)∧(∀ k,Old w k→F k)∧Pure w S wq S1∧Mag wq S1 (.slice ad la.length c) la∧Mag wq S1 (.slice bd lb.length d) lb∧Nm la∧Nm lb∧la.length≤512∧lb.length≤512∧g=Nat.gcd (val la) (val lb)) (fun v5 v6 w=>magAt w v6)
 case atStart=>exact⟨xad,yad,xcap,ycap,la,lb,S,Old w,w,rfl,rfl,hS,hF0,hO0,hp0,ha,hb,na,nb,la512,lb512,hg.out⟩
 case round =>
  clear hS ha hb na nb la512 lb512 hg hF0 hO0 hp0 hL;obtain⟨ad,bd,c,d,la,lb,S1,F1,wq,rfl,rfl,hS,hF1,hO1,hp1,ha,hb,na,nb,la512,lb512,hg⟩:=hrel;replace hg:=Hd hg;have HM0:=Hd (magAt_eq (hb.at hS hF1))
  by_cases hb0:lb=[]
  ·subst hb0
   have hgl:g=val la:=by rw [hg.out];simp [val]
   replace hgl:=Hd hgl
   go_wp2_with (fail)
   refine (signed_any false _ _ _ la _ S1 (ha.at hS hF1) (Lim_lt ha.wd la512)).mono ?_;rintro e w3 ⟨z,rfl,hq,hz⟩;replace hS:=hS.pcl hF1 hO1 hp1 hq;obtain⟨F2,hF2,-,hp2,hO2,hS⟩:=hS;simp only []
   go_wp2_with (with_reducible first|refine alA hS zeroValue52 fun bt wbt hS=>?_|refine stA 2 hS sizeOf52 fun _ hS=>?_|refine stA 1 hS sizeOf52 fun _ hS=>?_|refine ldA 2 hS isAgg52 sizeOf52 ?_)
   exact ret_c 1 hS rfl rfl rfl isAgg52 sizeOf52 rfl rfl ⟨z,S1,rfl,hp2.step hS hO2 hF2,(hz.at hS hF2).cast (by rw [← hgr.out,hgl.out];simp)⟩
  ·have hbl:0<lb.length:=List.length_pos_iff.2 hb0
   have hbv:val lb≠0:=fun h=>hb0 ((val_zero_nm nb).1 h)
   go_wp2_with (fail)
   refine (divide_any _ _ _ _ _ _ la lb _ S1 (ha.at hS hF1) (hb.at hS hF1) na nb (by omega) hbv).mono ?_;rintro e w' ⟨S2,qd,rd,qc,rc,lq,lr,rfl,hq,hmq,hmr,nq,nr,hq2001,hdv,hdr⟩;have hb:=(hb.at hS hF1).grow hq;replace hdv:=Hd hdv;replace hdr:=Hd hdr;replace hS:=hS.pcl hF1 hO1 hp1 hq;obtain⟨F2,hF2,-,hp2,hO2,hS⟩:=hS;simp only [];go_wp2;go_roundw
   case rel=>exact⟨bd,rd,d,rc,lb,lr,S2,F2,_,rfl,rfl,hS,hF2,hO2,hp2,hb,hmr,nb,nr,lb512,Lim_len nr (Nat.lt_trans hdr.out (Lim_lt hb.wd lb512)),by
    rw [hg.out,Nat.gcd_comm,Nat.gcd_rec];have h1:=hdv.out;have h2:val la % val lb=val lr:=by rw [h1,Nat.mul_comm,Nat.mul_add_mod,Nat.mod_eq_of_lt hdr.out]
    rw [h2,Nat.gcd_comm]⟩
   case measure =>
    rw [HM0.out,magAt_eq (hmr.at hS hF2)];exact hdr.out
end Go.Proofs
