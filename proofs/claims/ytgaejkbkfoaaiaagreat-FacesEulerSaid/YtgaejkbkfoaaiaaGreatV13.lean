/- Texts for the walk of the law: MG and what follows. -/
import Derived.Test.YtgaejkbkfoaaiaaGreatR13
import Derived.Deep.DeepCutAuto
import Derived.Shelf.Slices.CompactI
import Derived.Ground.Names2Prog
set_option maxRecDepth 100000
set_option maxHeartbeats 16000000
set_option linter.unusedVariables false
set_option linter.unusedSimpArgs false
namespace Go.Hp
open Go Go.RowKit Go.Proofs.Tryz
structure Gen (os:List Sz) (gs:List Gp):Prop where
 cJ:∀ t ∈ os,t.ok∧t.sm
 qm:∀ g ∈ gs,g.ok∧g.sm
 lo:os.length≤24
 lg:gs.length≤4
theorem net_ok {g:Gp} (h:g.mV):g.ok∧g.sm:=by unfold Gp.mV at h;unfold Gp.ok fS Gp.sm smC;omega
theorem upto_ok {g:Gp} {b:Int} (h:g.gP b) (hb:b≤60):g.ok∧g.sm:=by unfold Gp.gP at h;unfold Gp.ok fS Gp.sm smC;omega
theorem aF0.at {w0 w wr:World} {H:List Chunk} {F S:Nat→Prop} {sg pt v e:Option Addr × Nat × Nat} {os:List Sz} {gs:List Gp} {V:List Pt} {es:List Ed} (h:aF0 wr S sg pt v e os gs V es) (hS:aA w0 w (.aH F wr::H)) (hF:∀ k,S k→F k):aF0 w S sg pt v e os gs V es:=by
 obtain⟨prs,h3⟩:=h.vs;obtain⟨rs,h4,h5⟩:=h.es;exact⟨h.aY2.move (hS.da hF),h.pts.move (hS.da hF),⟨prs,h3.at hS hF⟩,⟨rs,h4.move (hS.da hF),h5.at hS hF⟩⟩
theorem aF0.grow {w w':World} {S S':Nat→Prop} {sg pt v e:Option Addr × Nat × Nat} {os:List Sz} {gs:List Gp} {V:List Pt} {es:List Ed} (h:aF0 w S sg pt v e os gs V es) (hp:Pure w S w' S'):aF0 w' S' sg pt v e os gs V es:=by
 obtain⟨prs,h3⟩:=h.vs;obtain⟨rs,h4,h5⟩:=h.es;exact⟨h.aY2.grow hp,h.pts.grow hp,⟨prs,h3.grow hp⟩,⟨rs,h4.grow hp,h5.grow hp⟩⟩
theorem aA.a13 {w0 w wr:World} {F:Nat→Prop} {c1 c2:Chunk} {H:List Chunk} (hS:aA w0 w (.aH F wr::c1::c2::H)):aA w0 w (.aH (fun k=>(F k∨c1.has k)∨c2.has k) w::H):=by
 have h1:=(hS.freeze 1 rfl).freeze 2 rfl;exact h1.join.join
theorem gen_of {o1 o2:List Sz} {xs:List Int} (h1:a3e o1) (h2:a9G o2) (l1:o1.length≤20) (l2:o2.length≤4):Gen (o1++o2) ((xs.take 4).map og):=by
 refine⟨fun t ht=>?_,fun g hg=>?_,by rw [List.length_append];omega,by simp;omega⟩
 ·rcases List.mem_append.1 ht with h|h
  ·obtain⟨a,b,c⟩:=h1 t h
   exact⟨⟨(net_ok a).1,(net_ok b).1,c⟩,(net_ok a).2,(net_ok b).2⟩
  ·obtain⟨a,b,c⟩:=h2 t h
   have hb:(32:Int)+2*(o2.length:Nat)≤60:=by omega
   exact⟨⟨(upto_ok a hb).1,(upto_ok b hb).1,c⟩,(upto_ok a hb).2,(upto_ok b hb).2⟩
 ·obtain⟨x,_,rfl⟩:=List.mem_map.1 hg
  have:=a7k x;exact upto_ok (b:=32) this (by decide)
theorem Ints.bj {w:World} {S:Nat→Prop} {v:Value} {xs:List Int} (h:Ints w S v xs):Ints w (Old w) v xs:=⟨h.1.bj,h.2⟩
theorem nO.bj {w:World} {S:Nat→Prop} {v:Value} {I:List (List Nat)} (h:nO w S v I):nO w (Old w) v I:=by
 obtain⟨R,h1,h2,h3⟩:=h;exact⟨R,h1,h2.bj,fun i hi=>Ints.bj (h3 i hi)⟩
theorem jb.bj {w:World} {S:Nat→Prop} {s1 s2 s3 s4 s5:Option Addr × Nat × Nat} {f:iL} (h:jb w S s1 s2 s3 s4 s5 f):jb w (Old w) s1 s2 s3 s4 s5 f:=⟨Ints.bj h.n,Ints.bj h.l,Ints.bj h.o,nO.bj h.i,nO.bj h.a⟩
theorem kfKC2 {α:Type} {o:Option α} {f g:α} (h:o=some f) (e:f=g:=by kernel_rfl):o=some g:=h.trans (congrArg some e)
section
open Go.Shelf
def laysNm220_ren:Go.Shelf.Ren:=⟨fun|20=>72|n=>n,fun|22=>22|3=>3|4=>4|0=>0|n=>n,fun|n=>n⟩
theorem laysNm220:Go.Proofs.Lays2.n20 prog laysNm220_ren:={
 mixed:=by kernel_rfl
 f20:=kfKC2 func72
 t0:=underlying0
 a0:=isAgg0
 z0:=sizeOf0
 v0:=zeroValue0
 t3:=underlying3
 a3:=isAgg3
 z3:=sizeOf3
 v3:=zeroValue3
 t4:=underlying4
 a4:=isAgg4
 z4:=sizeOf4
 v4:=zeroValue4
 t22:=underlying22
 a22:=isAgg22
 z22:=sizeOf22
 v22:=zeroValue22
 i3:=by kernel_rfl }
theorem slices_Compact_int (aB off cap:Nat) (zs:List Int) (w:World) (hH:Go.Sort.Holds (Value.int .i64) w aB off zs.toArray) (dJ:zs.length≤9223372036854775807) (aXb:zs.length≤cap) :
 Calls prog 72 #[.slice (some ⟨aB,off,none⟩) zs.length cap] w fun e w'=>e=.returned (.slice (some ⟨aB,off,none⟩) (Go.Lib.compact zs).length cap)∧∃ q,w'=Go.Sort.putRow (Value.int .i64) (Go.Sort.ahead w q) aB off (Go.Lib.compact zs++List.replicate (zs.length - (Go.Lib.compact zs).length) 0).toArray:=Proofs.Any.slices_Compact_int laysNm220 aB off cap zs w hH dJ aXb
theorem slices_Compact_int_empty (a:Option Addr) (cap:Nat) (w:World) :
 Calls prog 72 #[.slice a 0 cap] w fun e w'=>e=.returned (.slice a 0 cap)∧w'=w:=Proofs.Any.slices_Compact_int_empty laysNm220 a cap w
end
section
open Go.RowKit Go.Shelf Go.Hp
theorem compact_sub (xs:List Int):(Lib.compact xs).Sublist xs:=by
 unfold Lib.compact Lib.compactUpTo;have h:=(List.filter_sublist (l:=List.range xs.length) (p:=Lib.keeps xs.toArray)).map (fun i=>xs.toArray[i]!)
 have e:(List.range xs.length).map (fun i=>xs.toArray[i]!)=xs:=by
  have:=Lib.range_map_get xs.toArray
  simpa using this
 rw [e] at h;exact h
theorem compact_len (xs:List Int):(Lib.compact xs).length≤xs.length:=(compact_sub xs).length_le
theorem compact_row {w0 w:World} {H:List Chunk} {ad:Option Addr} {n cap:Nat} {T:TypeId} {xs:List Int} (j:Nat) (hS:aA w0 w H) (hj:H[j]? = some (.row (.slice ad n cap) T 1 n (iv xs))) (hl:n≤1000000) :
 Calls prog 72 #[.slice ad n cap] w fun e w'=>e=.returned (.slice ad (Lib.compact xs).length cap)∧aA w0 w' (H.set j (.row (.slice ad (Lib.compact xs).length cap) T 1 (Lib.compact xs).length (iv (Lib.compact xs)))):=by
 have lW:=hS.ok _ (bW hj);obtain⟨hlen,mL⟩:=lW;rw [tK] at hlen;have wF:xs.length=n:=by omega
 subst wF
 rcases mL with ⟨hv,hn⟩|⟨g,a5H,cur,hv,hb,hg,mm,fg,hcs,a0Q⟩
 ·simp only [Value.slice.injEq] at hv
  obtain⟨rfl,hx,rfl⟩:=hv;have lB:xs=[]:=List.eq_nil_of_length_eq_zero hx;subst lB;have iq:Lib.compact ([]:List Int)=[]:=rfl;refine (slices_Compact_int_empty none 0 w).mono fun e w' ⟨he,hw⟩=>⟨by rw [he,iq];rfl,?_⟩
  subst hw
  have:H.set j (.row (.slice none 0 0) T 1 0 (iv []))=H:=by
   apply List.ext_getElem?;intro i;rw [List.getElem?_set]
   split
   ·rename_i h;subst h
    obtain⟨aW,hq⟩:=List.getElem?_eq_some_iff.1 hj;rw [if_pos aW,List.getElem?_eq_getElem aW,hq]
    rfl
   ·rfl
  rw [iq];simp only [List.length_nil];rw [this];exact hS
 ·simp only [Value.slice.injEq] at hv
  obtain⟨rfl,-,rfl⟩:=hv;have a6I:cur.toList.take xs.length=xs.map (Value.int .i64):=by simpa [iv] using a0Q
  refine (slices_Compact_int g 0 cap xs w (holds_of_blockI hg a6I) (by omega) mm).mono fun e w' ⟨he,q,hw⟩=>⟨he,?_⟩
  have hw':w'=Sort.grow (Sort.putRow (Value.int .i64) (Sort.ahead w q) g 0 (Lib.compact xs++List.replicate (xs.length - (Lib.compact xs).length) 0).toArray) #[]:=by rw [hw,Sort.grow_empty]
  clear hw;subst hw';have dK:=compact_len xs;have fy:=grownBy_sortedI (w:=w) (g:=g) (n:=q) (os:=#[]) (Lib.compact xs++List.replicate (xs.length - (Lib.compact xs).length) 0).toArray;refine hS.sQ j hj fy.os fy.tape fy.output (by first|exact Nat.le_add_right _ _|simp [Go.Sort.grow,Go.Sort.putRow,Go.Sort.ahead]) fy.size ?_ (fun k hk=>.inl hk) (fun k hk tR=>fy.block k hk (fun e=>tR (by simp only [Chunk.has,Value.ownBlock];exact e.symm)));refine⟨by rw [tK];omega,.inr ⟨g,cap,_,rfl,Nat.zero_le _,heap_sortedI _ hg,by omega,fg,?_,?_⟩⟩
  ·simp [Go.Sort.putCells,hcs]
  ·have h1:=take_putCellsI cur (Lib.compact xs++List.replicate (xs.length - (Lib.compact xs).length) 0) (by simp;omega)
   have h2:(Lib.compact xs++List.replicate (xs.length - (Lib.compact xs).length) (0:Int)).length=xs.length:=by simp;omega
   rw [h2] at h1;rw [Nat.mul_one];have h3:=congrArg (List.take (Lib.compact xs).length) h1;rw [List.take_take,Nat.min_eq_left dK] at h3;rw [h3];simp [iv,List.map_append]
end
def nbTo (L:List Int) (f:Int):Nat→List Int
 | 0=>[]
 | h+1=>if nth 0 L h=f∧nth 0 L (tw h)≠f then nbTo L f h++[nth 0 L (tw h)] else nbTo L f h
theorem nbTo_len (L:List Int) (f:Int):∀ h,(nbTo L f h).length≤h
 | 0=>Nat.le_refl _
 | h+1=>by
  have:=nbTo_len L f h;unfold nbTo;split <;> simp <;> omega
theorem mem_nbTo (L:List Int) (f x:Int):∀ h,x ∈ nbTo L f h↔∃ k,k<h∧nth 0 L k=f∧nth 0 L (tw k)≠f∧nth 0 L (tw k)=x
 | 0=>by simp [nbTo]
 | h+1=>by
  have ih:=mem_nbTo L f x h;unfold nbTo
  split
  ·rename_i hc
   rw [List.mem_append,ih,List.mem_singleton]
   constructor
   ·rintro (⟨k,a,b,c,d⟩|e)
    ·exact⟨k,by omega,b,c,d⟩
    ·exact⟨h,by omega,hc.1,hc.2,e.symm⟩
   ·rintro⟨k,a,b,c,d⟩
    by_cases e:k=h
    ·subst e;exact .inr d.symm
    ·exact .inl ⟨k,by omega,b,c,d⟩
  ·rename_i hc
   rw [ih]
   constructor
   ·rintro⟨k,a,b,c,d⟩;exact⟨k,by omega,b,c,d⟩
   ·rintro⟨k,a,b,c,d⟩
    by_cases e:k=h
    ·subst e;exact absurd ⟨b,c⟩ hc
    ·exact⟨k,by omega,b,c,d⟩
def nbs (L:List Int) (f:Int):List Int:=Lib.compact (rV (nbTo L f L.length))
theorem neighbours_any (L:List Int) (m:Nat) (hm:L.length=2*m) (hle:L.length≤1000000) (fK:Int) (a1 a2 a3 a4 a5:Option Addr) (n1 c1 n2 c2 n3 c3 n4 c4 n5 c5:Nat) (zU:0≤fK) (qU:fK<(n3:Int)) (w:World) (hL:Ints w (Old w) (.slice a2 n2 c2) L) :
 Calls prog 27 #[.agg #[.slice a1 n1 c1,.slice a2 n2 c2,.slice a3 n3 c3,.slice a4 n4 c4,.slice a5 n5 c5],.int .i64 fK] w fun e w'=>∃ ad c,e=.returned (.tuple #[.slice ad (nbs L fK).length c,.int .i64 0])∧aA w w' [.aH (Old w) w,.row (.slice ad (nbs L fK).length c) 3 1 (nbs L fK).length (iv (nbs L fK))]:=by
 have fx:=hL.len;subst fx;have d0:decide ((n3:Int)≤fK)=false:=by simp;omega
 have d1:decide (fK<0)=false:=by simp;omega
 have hS:=aA.start w
 go_enter func27,ntmps27
 go_wp2_with (with_reducible first|refine cI hS fun bx cu hS=>?_|refine aU 1 hS isAgg22 ?_)
 have hS:=hS.iB 3 1;simp only [List.cons_append,List.nil_append] at hS
 try try simp only [fA]
 go_loopw [6,22] (fun v6 v22 wr=>∃ (h:Nat) (ad:Option Addr) (c:Nat),h≤L.length∧v22=.int .i64 (h:Int)∧v6=.slice ad (nbTo L fK h).length c∧aA w wr [.aH (Old w) w,.aB bx (.cells #[.slice a1 n1 c1,.slice a2 L.length c2,.slice a3 n3 c3,.slice a4 n4 c4,.slice a5 n5 c5] 37 (0,0)),.row (.slice ad (nbTo L fK h).length c) 3 1 (nbTo L fK h).length (iv (nbTo L fK h))]) (fun _ v22 _=>L.length - (intOf v22).toNat)
 case atStart=>exact⟨0,none,0,by omega,rfl,rfl,hS⟩
 case round =>
  clear hS;obtain⟨h,ad,c,hh,rfl,rfl,hS⟩:=hrel
  by_cases hhl:h<L.length
  ·have hx:=aSS (h:=h) (by omega)
   have tj:tw h<L.length:=by rw [hm];exact a1Q (by omega)
   have cA:nbTo L fK (h+1)=if nth 0 L h=fK∧nth 0 L (tw h)≠fK then nbTo L fK h++[nth 0 L (tw h)] else nbTo L fK h:=rfl
   have oB:=nbTo_len L fK h;obtain⟨B,hB⟩:∃ B,nbTo L fK h=B:=⟨_,rfl⟩;rw [hB] at hS cA oB;rw [hB];replace hB:=Hd hB
   by_cases q1:nth 0 L h=fK
   ·have e1:(nth 0 L h == fK)=true:=by simp [q1]
    by_cases q2:nth 0 L (tw h)=fK
    ·rw [if_neg (fun h=>h.2 q2)] at cA
     have e2:(nth 0 L (tw h) != fK)=false:=by simp [q2]
     replace cA:=Hd cA;replace q1:=Hd q1;replace q2:=Hd q2
     go_wp2_with (with_reducible first|refine aU 1 hS isAgg22 ?_|refine sV underlying22 sizeOf3 fun _ _ _=>?_|refine fP hS isAgg3 ?_)
     go_roundw
     case rel=>exact⟨h+1,ad,c,by omega,by simp,by rw [cA.out],by rw [cA.out];exact hS⟩
     case measure=>simp [intOf];omega
    ·rw [if_pos ⟨q1,q2⟩] at cA
     have e2:(nth 0 L (tw h) != fK)=true:=by simp [q2]
     have eJ:(nbTo L fK (h+1)).length=B.length+1:=by rw [cA];simp
     have gW:iv (nbTo L fK (h+1))=iv B++[.int .i64 (nth 0 L (tw h))]:=by rw [cA];simp [iv]
     replace eJ:=Hd eJ;replace gW:=Hd gW;replace cA:=Hd cA;replace q1:=Hd q1;replace q2:=Hd q2
     go_wp2_with (first|(with_reducible first|refine aU 1 hS isAgg22 ?_|refine sV underlying22 sizeOf3 fun _ _ _=>?_|refine fP hS isAgg3 ?_)|((with_reducible refine dV (T:=22) ?_);refine fZ (T:=22) (v:=.int .i64 _) hS underlying22 sizeOf3 zeroValue3 rfl rfl rfl (by decide) (by decide) rfl (fun bq wbq hS=>?_);simp only [aD];simp only [Value.cells] at hS)|((with_reducible refine eG ?_);refine fw (t:=22) 2 hS underlying22 a0A rfl (by decide) rfl rfl rfl rfl (by simp [Value.oneCell']) (by omega) (by unfold maxLen;omega) (fun dU gL _ hS=>?_);simp only [aD];simp only [List.set_cons_succ,List.set_cons_zero] at hS))
     go_roundw
     case rel=>exact⟨h+1,dU,gL,by omega,by simp,by rw [eJ.out],by rw [eJ.out,gW.out];exact hS.sb⟩
     case measure=>simp [intOf];omega
   ·have e1:(nth 0 L h == fK)=false:=by simp [q1]
    rw [if_neg (fun h=>q1 h.1)] at cA;replace cA:=Hd cA;replace q1:=Hd q1
    go_wp2_with (with_reducible first|refine aU 1 hS isAgg22 ?_|refine sV underlying22 sizeOf3 fun _ _ _=>?_|refine fP hS isAgg3 ?_)
    go_roundw
    case rel=>exact⟨h+1,ad,c,by omega,by simp,by rw [cA.out],by rw [cA.out];exact hS⟩
    case measure=>simp [intOf];omega
  ·obtain rfl:L.length=h:=by omega
   have oB:=nbTo_len L fK L.length;have pE:Lib.compact (rV (nbTo L fK L.length))=nbs L fK:=rfl;have bh:(rV (nbTo L fK L.length)).length=(nbTo L fK L.length).length:=srt_len _;obtain⟨B,hB⟩:∃ B,nbTo L fK L.length=B:=⟨_,rfl⟩;rw [hB] at hS oB pE bh;rw [hB];replace hB:=Hd hB;replace pE:=Hd pE;replace bh:=Hd bh
   go_wp2_with (fail)
   refine (aWi 2 hS rfl (by omega)).mono ?_;rintro e w5 ⟨rfl,hS5⟩;simp only [List.set_cons_succ,List.set_cons_zero] at hS5;simp only []
   go_wp2_with (fail)
   refine (compact_row 2 hS5 rfl (by omega)).mono ?_;rintro e w6 ⟨rfl,hS6⟩;simp only [List.set_cons_succ,List.set_cons_zero] at hS6;rw [pE.out] at hS6 ⊢;simp only [];go_wp2;refine bodyPost_ret (results_tmp2 rfl _ _ _) rfl ?_;exact⟨ad,c,rfl,hS6.sub (by repeat (first|exact List.Sublist.refl _|apply List.Sublist.cons_cons|apply List.Sublist.cons|exact List.nil_sublist _))⟩
theorem get_bang {α:Type} [Inhabited α] (xs:List α) (i:Nat) (h:i<xs.length):xs.toArray[i]! = xs[i]:=by
 rw [getElem!_pos xs.toArray i (by simpa using h)];simp
theorem compact_mem {xs:List Int} (x:Int) (hs:xs.Pairwise (· ≤ ·)):x ∈ Lib.compact xs↔x ∈ xs:=by
 constructor
 ·exact fun h=>(compact_sub xs).subset h
 ·intro h
  have key:∀ m,m≤xs.length→∀ i (hi:i<m) (mg:i<xs.length),xs[i] ∈ Lib.compactUpTo xs.toArray m:=by
   intro m
   induction m with
   | zero=>intro _ i hi;omega
   | succ m ih =>
    intro hm i hi mg;rw [Lib.compactUpTo_succ]
    rcases Nat.lt_or_ge i m with h1|h1
    ·exact List.mem_append_left _ (ih (by omega) i h1 mg)
    ·obtain rfl:i=m:=by omega
     by_cases hk:Lib.keeps xs.toArray i=true
     ·rw [if_pos hk,get_bang _ _ mg];simp
     ·rw [if_neg hk,List.append_nil]
      simp only [Lib.keeps,decide_eq_true_iff,not_or,ne_eq,Decidable.not_not] at hk;obtain⟨h0,h2⟩:=hk;rw [get_bang _ _ mg,get_bang _ _ (by omega)] at h2;rw [h2];exact ih (by omega) (i - 1) (by omega) (by omega)
  obtain⟨i,hi,rfl⟩:=List.mem_iff_getElem.1 h;exact key xs.length (Nat.le_refl _) i hi hi
theorem compact_lt {xs:List Int} (hs:xs.Pairwise (· ≤ ·)):(Lib.compact xs).Pairwise (· < ·):=by
 have key:∀ m,m≤xs.length→(Lib.compactUpTo xs.toArray m).Pairwise (· < ·)∧∀ x ∈ Lib.compactUpTo xs.toArray m,0<m∧∀ (h:m - 1<xs.length),x≤xs[m - 1]:=by
  intro m
  induction m with
  | zero=>intro _;exact⟨by simp [Lib.compactUpTo],by simp [Lib.compactUpTo]⟩
  | succ m ih =>
   intro hm;obtain⟨h1,h2⟩:=ih (by omega);have gv:m<xs.length:=by omega
   have kV:∀ (h:m - 1<xs.length),0<m→xs[m - 1]≤xs[m]:=fun h h0=>(List.pairwise_iff_getElem.1 hs) _ _ h gv (by omega)
   rw [Lib.compactUpTo_succ]
   by_cases hk:Lib.keeps xs.toArray m=true
   ·rw [if_pos hk,get_bang _ _ gv]
    refine⟨a07 h1 fun x hx=>?_,fun x hx=>⟨by omega,fun h=>?_⟩⟩
    ·obtain⟨h0,h3⟩:=h2 x hx
     have h4:=h3 (by omega);have h5:=kV (by omega) h0;simp only [Lib.keeps,decide_eq_true_iff] at hk
     rcases hk with hk|hk
     ·omega
     ·rw [get_bang _ _ gv,get_bang _ _ (by omega:m - 1<xs.length)] at hk
      have:xs[m]≠xs[m - 1]:=hk;omega
    ·simp only [Nat.add_sub_cancel]
     rcases List.mem_append.1 hx with h3|h3
     ·obtain⟨h0,h4⟩:=h2 x h3
      have:=h4 (by omega);have:=kV (by omega) h0;omega
     ·simp at h3;omega
   ·rw [if_neg hk,List.append_nil]
    refine⟨h1,fun x hx=>⟨by omega,fun h=>?_⟩⟩;simp only [Nat.add_sub_cancel];obtain⟨h0,h4⟩:=h2 x hx;have:=h4 (by omega);have:=kV (by omega) h0;omega
 exact (key xs.length (Nat.le_refl _)).1
theorem mem_nbs (L:List Int) (f x:Int):x ∈ nbs L f↔∃ k,k<L.length∧nth 0 L k=f∧nth 0 L (tw k)≠f∧nth 0 L (tw k)=x:=by
 unfold nbs;rw [compact_mem _ (srt_sorted _)];unfold rV;rw [(List.mergeSort_perm _ _).mem_iff,mem_nbTo]
theorem nbs_lt (L:List Int) (f:Int):(nbs L f).Pairwise (· < ·):=compact_lt (srt_sorted _)
def sqZ (x y s:Int):List Sz:=[⟨⟨x,y⟩,⟨x+s,y⟩⟩,⟨⟨x+s,y⟩,⟨x+s,y+s⟩⟩,⟨⟨x+s,y+s⟩,⟨x,y+s⟩⟩,⟨⟨x,y+s⟩,⟨x,y⟩⟩]
def lvS:List Sz:=sqZ 0 0 9++sqZ 3 3 2
def lvG:List Gp:=[⟨1,1⟩,⟨20,1⟩]
def lvV:List Pt:=[⟨0,0⟩,⟨0,9⟩,⟨1,1⟩,⟨3,3⟩,⟨3,5⟩,⟨5,3⟩,⟨5,5⟩,⟨9,0⟩,⟨9,9⟩,⟨20,1⟩]
def lvE:List Ed:=[⟨0,1,[3],⟨0,1⟩⟩,⟨0,7,[0],⟨1,0⟩⟩,⟨1,8,[2],⟨1,0⟩⟩,⟨3,4,[7],⟨0,1⟩⟩,⟨3,5,[4],⟨1,0⟩⟩,⟨4,6,[6],⟨1,0⟩⟩,⟨5,6,[5],⟨0,1⟩⟩,⟨7,8,[1],⟨0,1⟩⟩]
def lvR:List (List Nat):=[[2,0],[4,1],[],[8,6],[10,7],[12,9],[11,13],[14,3],[5,15],[]]
theorem lv_arr:eu lvS lvG lvV lvE:=aBI (by decide +kernel)
def aroB (es:List Ed) (v:Nat) (l:List Nat):Bool:=l.isPerm (outs es v) && yx (fun g h=>!decide (jW (eh es h) (eh es g)<0)) l
theorem aroB_ok {es:List Ed} {v:Nat} {l:List Nat} (h:aroB es v l=true):nU es v l:=by
 unfold aroB at h;rw [Bool.and_eq_true] at h;exact⟨List.isPerm_iff.1 h.1,a2q _ (fun x y h=>by simpa using h) _ h.2⟩
theorem lv_aro (v:Nat) (hv:v<lvV.length):nU lvE v (nth [] lvR v):=by
 have h:(List.range lvV.length).all (fun v=>aroB lvE v (nth [] lvR v))=true:=by decide +kernel
 rw [List.all_eq_true] at h;exact aroB_ok (h v (List.mem_range.2 hv))
theorem lv_hos (t:Sz) (ht:t ∈ lvS):t.ok:=by
 have h:lvS.all (fun t=>decide ((-1073741824≤t.a.x∧t.a.x≤1073741824)∧(-1073741824≤t.a.y∧t.a.y≤1073741824)) && decide ((-1073741824≤t.b.x∧t.b.x≤1073741824)∧(-1073741824≤t.b.y∧t.b.y≤1073741824)) && decide (t.a≠t.b))=true:=by decide +kernel
 rw [List.all_eq_true] at h;have h1:=h t ht;simp only [Bool.and_eq_true,decide_eq_true_eq] at h1;exact⟨h1.1.1,h1.1.2,h1.2⟩
theorem lv_hgs (g:Gp) (hg:g ∈ lvG):g.ok:=by
 have h:lvG.all (fun g=>decide ((-1073741824≤g.x∧g.x≤1073741824)∧(-1073741824≤g.y∧g.y≤1073741824)))=true:=by decide +kernel
 rw [List.all_eq_true] at h;have h1:=h g hg;simp only [decide_eq_true_eq] at h1;exact h1
def lvX:FI:=jR lvV lvE lvR (fun v=>nR lvE (nth [] lvR v))
theorem lv_unique {V:List Pt} {es:List Ed} {RL:List (List Nat)} (h:eu lvS lvG V es) (hl:RL.length=V.length) (hR:∀ v,v<V.length→nU es v (nth [] RL v)):V=lvV∧es=lvE∧RL=lvR:=by
 have cJ:∀ t ∈ lvS,t.a≠t.b:=fun t ht=>(lv_hos t ht).2.2
 obtain⟨rfl,rfl⟩:=h.unique cJ lv_arr;refine⟨rfl,rfl,yP [] (by rw [hl];rfl) (fun v hv=>?_)⟩;rw [hl] at hv;exact nU.unique lv_arr cJ (hR v hv) (lv_aro v hv)
theorem lv_O:lvX.fr.O=[-1,1,7]:=by decide +kernel
theorem lv_L:lvX.fr.L=[0,1,1,0,0,1,1,2,2,1,1,2,2,1,1,0]:=by decide +kernel
theorem lv_I:lvX.fr.I.map List.length=[1,1,0]:=by
 have h:lvX.fr.I.map List.length=(lvX.gE lvX.n).I.map List.length:=by
  unfold FI.fr;rw [List.map_map];exact List.map_congr_left (fun l _=>srtN_len l)
 rw [h];decide +kernel
theorem lv_A:lvX.fr.A.map List.length=[1,1,0]:=by decide +kernel
theorem lv_nbs:nbs lvX.fr.L 1=[0,2]:=by
 rw [lv_L];refine a5G (lt:=(· < ·)) (fun x=>Int.lt_irrefl x) (fun a b=>Int.lt_trans a b) (nbs_lt _ _) (by decide) (fun x=>?_);rw [mem_nbs]
 constructor
 ·rintro⟨k,hk,h1,h2,rfl⟩
  have h:(List.range 16).all (fun k=>!(decide (nth 0 [(0:Int),1,1,0,0,1,1,2,2,1,1,2,2,1,1,0] k=1)) || decide (nth 0 [(0:Int),1,1,0,0,1,1,2,2,1,1,2,2,1,1,0] (tw k)=1) || [(0:Int),2].contains (nth 0 [(0:Int),1,1,0,0,1,1,2,2,1,1,2,2,1,1,0] (tw k)))=true:=by decide +kernel
  rw [List.all_eq_true] at h;have h3:=h k (List.mem_range.2 hk);rw [Bool.or_eq_true,Bool.or_eq_true] at h3
  rcases h3 with (h3|h3)|h3
  ·rw [Bool.not_eq_true',decide_eq_false_iff_not] at h3;exact absurd h1 h3
  ·exact absurd (of_decide_eq_true h3) h2
  ·exact List.contains_iff_mem.1 h3
 ·intro h
  simp only [List.mem_cons,List.not_mem_nil,or_false] at h
  rcases h with rfl|rfl
  ·exact⟨1,by decide,by decide,by decide,by decide⟩
  ·exact⟨6,by decide,by decide,by decide,by decide⟩
structure P3 where
 x:Int
 y:Int
 d:Int
theorem P3.ext' {p q:P3} (h1:p.x=q.x) (h2:p.y=q.y) (h3:p.d=q.d):p=q:=by cases p;cases q;simp_all
def P3.pt (p:P3):Pt:=⟨(p.x:Rat) / (p.d:Rat),(p.y:Rat) / (p.d:Rat)⟩
def g3 (x y d:Int):Nat:=Nat.gcd (Nat.gcd x.natAbs y.natAbs) d.natAbs
def P3.ok (p:P3):Prop:=0<p.d∧g3 p.x p.y p.d=1
theorem rdiv_eq {a b c d:Int} (hb:0<b) (hd:0<d):(a:Rat) / (b:Rat)=(c:Rat) / (d:Rat)↔a*d=c*b:=by
 have hb':(b:Rat)≠0:=by exact_mod_cast (by omega:b≠0)
 have hd':(d:Rat)≠0:=by exact_mod_cast (by omega:d≠0)
 constructor
 ·intro h
  have:(a:Rat)*d=c*b:=by
   have h1:(a:Rat)=c / d*b:=by rw [← h];grind
   rw [h1];grind
  exact_mod_cast this
 ·intro h
  have:(a:Rat)*d=c*b:=by exact_mod_cast h
  grind
theorem rdiv_lt {a b c d:Int} (hb:0<b) (hd:0<d):(a:Rat) / (b:Rat)<(c:Rat) / (d:Rat)↔a*d<c*b:=by
 have hb':(0:Rat)<(b:Rat):=by exact_mod_cast hb
 have hd':(0:Rat)<(d:Rat):=by exact_mod_cast hd
 have tu:(0:Rat)<(b:Rat)*d:=Rat.mul_pos hb' hd';have e1:(a:Rat) / b*(b*d)=a*d:=by grind
 have e2:(c:Rat) / d*(b*d)=c*b:=by grind
 constructor
 ·intro h
  have:(a:Rat)*d<c*b:=by
   rw [← e1,← e2];exact (Rat.mul_lt_mul_right tu).2 h
  exact_mod_cast this
 ·intro h
  have:(a:Rat)*d<c*b:=by exact_mod_cast h
  rw [← e1,← e2] at this;exact (Rat.mul_lt_mul_right tu).1 this
theorem nat_cop {x y d x' y' d':Nat} (h:Nat.gcd (Nat.gcd x y) d=1) (hx:x*d'=x'*d) (hy:y*d'=y'*d):d ∣ d':=by
 have h1:d ∣ Nat.gcd x y*d':=by
  rw [← Nat.gcd_mul_right,hx,hy,Nat.gcd_mul_right];exact⟨_,Nat.mul_comm _ _⟩
 exact Nat.Coprime.dvd_of_dvd_mul_left (show Nat.Coprime d (Nat.gcd x y) by rw [Nat.coprime_comm];exact h) h1
theorem P3.inj {p q:P3} (hp:p.ok) (hq:q.ok) (h:p.pt=q.pt):p=q:=by
 obtain⟨bD,bB⟩:=hp;obtain⟨jz,az⟩:=hq;have hx:p.x*q.d=q.x*p.d:=(rdiv_eq bD jz).1 (congrArg Pt.x h);have hy:p.y*q.d=q.y*p.d:=(rdiv_eq bD jz).1 (congrArg Pt.y h);have nx:p.x.natAbs*q.d.natAbs=q.x.natAbs*p.d.natAbs:=by rw [← Int.natAbs_mul,← Int.natAbs_mul,hx]
 have ny:p.y.natAbs*q.d.natAbs=q.y.natAbs*p.d.natAbs:=by rw [← Int.natAbs_mul,← Int.natAbs_mul,hy]
 have d1:=nat_cop bB nx ny;have d2:=nat_cop az nx.symm ny.symm;have hd:p.d.natAbs=q.d.natAbs:=Nat.dvd_antisymm d1 d2;have hd':p.d=q.d:=by omega
 have bJ:q.d≠0:=by omega
 refine P3.ext' ?_ ?_ hd'
 ·rw [hd'] at hx;exact Int.eq_of_mul_eq_mul_right bJ hx
 ·rw [hd'] at hy;exact Int.eq_of_mul_eq_mul_right bJ hy
def P3.make (x y d:Int):P3 :=
 let s:Int:=if d<0 then -1 else 1
 ⟨s*x / (g3 x y d:Nat),s*y / (g3 x y d:Nat),s*d / (g3 x y d:Nat)⟩
theorem P3.make_ok {x y d:Int} (hd:d≠0):(P3.make x y d).ok∧(P3.make x y d).pt=⟨(x:Rat) / d,(y:Rat) / d⟩:=by
 have key:∀ x y d:Int,0<d→(P3.mk (x / (g3 x y d:Nat)) (y / (g3 x y d:Nat)) (d / (g3 x y d:Nat))).ok∧(P3.mk (x / (g3 x y d:Nat)) (y / (g3 x y d:Nat)) (d / (g3 x y d:Nat))).pt=⟨(x:Rat) / d,(y:Rat) / d⟩:=by
  intro x y d hd;obtain⟨g,hg⟩:∃ g,g=g3 x y d:=⟨_,rfl⟩;have hgd:g ∣ d.natAbs:=by rw [hg];exact Nat.gcd_dvd_right _ _
  have hgx:g ∣ x.natAbs:=by rw [hg];exact Nat.dvd_trans (Nat.gcd_dvd_left _ _) (Nat.gcd_dvd_left _ _)
  have hgy:g ∣ y.natAbs:=by rw [hg];exact Nat.dvd_trans (Nat.gcd_dvd_left _ _) (Nat.gcd_dvd_right _ _)
  have mA:0<g:=Nat.pos_of_dvd_of_pos hgd (by omega);obtain⟨u,hu⟩:(g:Int) ∣ x:=Int.ofNat_dvd_left.2 hgx;obtain⟨v,hv⟩:(g:Int) ∣ y:=Int.ofNat_dvd_left.2 hgy;obtain⟨e,he⟩:(g:Int) ∣ d:=Int.ofNat_dvd_left.2 hgd;have hg0':(g:Int)≠0:=by omega
  rw [← hg,hu,hv,he,Int.mul_ediv_cancel_left _ hg0',Int.mul_ediv_cancel_left _ hg0',Int.mul_ediv_cancel_left _ hg0']
  have yk:0<e:=by
   rcases Int.lt_trichotomy e 0 with h|h|h
   ·have:=Int.mul_neg_of_pos_of_neg (show (0:Int)<g by omega) h;omega
   ·subst h;simp at he;omega
   ·exact h
  refine⟨⟨yk,?_⟩,?_⟩
  ·have h1:g3 x y d=g*g3 u v e:=by
    unfold g3;rw [hu,hv,he,Int.natAbs_mul,Int.natAbs_mul,Int.natAbs_mul,Int.natAbs_natCast,Nat.gcd_mul_left,Nat.gcd_mul_left]
   rw [← hg] at h1;show g3 u v e=1;have h2:g*1=g*g3 u v e:=by omega
   exact (Nat.eq_of_mul_eq_mul_left mA h2).symm
  ·have fy:((g:Int):Rat)≠0:=by exact_mod_cast hg0'
   have uh:((e:Int):Rat)≠0:=by exact_mod_cast (by omega:e≠0)
   apply Pt.ext'
   ·show (u:Rat) / e=((g*u:Int):Rat) / ((g*e:Int):Rat)
    rw [Rat.intCast_mul,Rat.intCast_mul];grind
   ·show (v:Rat) / e=((g*v:Int):Rat) / ((g*e:Int):Rat)
    rw [Rat.intCast_mul,Rat.intCast_mul];grind
 unfold P3.make
 by_cases h:d<0
 ·have h3:g3 (-x) (-y) (-d)=g3 x y d:=by unfold g3;simp
  have:=key (-x) (-y) (-d) (by omega);rw [h3] at this;simp only [if_pos h,Int.neg_one_mul];refine⟨this.1,this.2.trans ?_⟩;have jD:((d:Int):Rat)≠0:=by exact_mod_cast hd
  apply Pt.ext'
  ·show ((-x:Int):Rat) / ((-d:Int):Rat)=(x:Rat) / d
   rw [Rat.intCast_neg,Rat.intCast_neg];grind
  ·show ((-y:Int):Rat) / ((-d:Int):Rat)=(y:Rat) / d
   rw [Rat.intCast_neg,Rat.intCast_neg];grind
 ·have:=key x y d (by omega)
  simp only [if_neg h,Int.one_mul];exact this
def P3.of (x y:Int):P3:=⟨x,y,1⟩
theorem P3.of_ok (x y:Int):(P3.of x y).ok:=⟨(by decide:(0:Int)<1),by simp [P3.of,g3]⟩
theorem P3.of_pt (x y:Int):(P3.of x y).pt=⟨(x:Rat),(y:Rat)⟩:=by
 apply Pt.ext' <;> simp [P3.of,P3.pt] <;> grind
theorem castPos {d:Int} (h:0<d):(0:Rat)<(d:Rat):=by exact_mod_cast h
theorem castNe {d:Int} (h:d≠0):(d:Rat)≠0:=by exact_mod_cast h
def P3.low (a b:P3):Prop:=a.x*b.d - b.x*a.d<0∨(a.x*b.d - b.x*a.d=0∧a.y*b.d - b.y*a.d<0)
theorem P3.lt_iff {a b:P3} (ha:a.ok) (hb:b.ok):a.pt.lt b.pt↔a.low b:=by
 unfold Pt.lt P3.pt P3.low;simp only;rw [rdiv_lt ha.1 hb.1,rdiv_lt ha.1 hb.1,rdiv_eq ha.1 hb.1];omega
def sideI (a b c:P3):Int:=(b.x*a.d - a.x*b.d)*(c.y*a.d - a.y*c.d) - (b.y*a.d - a.y*b.d)*(c.x*a.d - a.x*c.d)
theorem sideI_area {a b c:P3} (ha:0<a.d) (hb:0<b.d) (hc:0<c.d):bT a.pt b.pt c.pt*((a.d:Rat)*b.d*(a.d*c.d))=(sideI a b c:Rat):=by
 have h1:=castNe (show a.d≠0 by omega);have h2:=castNe (show b.d≠0 by omega);have h3:=castNe (show c.d≠0 by omega);unfold bT sideI P3.pt;simp only [Rat.intCast_sub,Rat.intCast_mul]
 grind
theorem sideI_pos {a b c:P3} (ha:0<a.d) (hb:0<b.d) (hc:0<c.d):(0<sideI a b c↔0<bT a.pt b.pt c.pt)∧(sideI a b c=0↔bT a.pt b.pt c.pt=0):=by
 have e:=sideI_area ha hb hc;obtain⟨m,hm⟩:∃ m,m=((a.d:Rat)*b.d*(a.d*c.d)):=⟨_,rfl⟩;have wA:0<m:=by rw [hm];exact Rat.mul_pos (Rat.mul_pos (castPos ha) (castPos hb)) (Rat.mul_pos (castPos ha) (castPos hc))
 rw [← hm] at e;obtain⟨q,hq⟩:∃ q,q=bT a.pt b.pt c.pt:=⟨_,rfl⟩;rw [← hq] at e ⊢;obtain⟨z,hz⟩:∃ z,z=sideI a b c:=⟨_,rfl⟩;rw [← hz] at e ⊢
 constructor
 ·constructor
  ·intro h
   have:(0:Rat)<(z:Rat):=castPos h;rw [← e,Rat.mul_comm] at this;exact yE wA this
  ·intro h
   have:(0:Rat)<(z:Rat):=by rw [← e];exact Rat.mul_pos h wA
   exact_mod_cast this
 ·constructor
  ·intro h
   have:(z:Rat)=0:=by rw [h];rfl
   rw [← e] at this
   grind
  ·intro h
   have:(z:Rat)=0:=by rw [← e,h];grind
   exact_mod_cast this
def sgI (ax ay bx by':Int):Sg:=⟨⟨(ax:Rat),(ay:Rat)⟩,⟨(bx:Rat),(by':Rat)⟩⟩
def inI (ax ay bx by':Int) (p:P3):Prop:=min ax bx*p.d≤p.x∧p.x≤max ax bx*p.d∧min ay by'*p.d≤p.y∧p.y≤max ay by'*p.d
theorem rle_div {m x d:Int} (hd:0<d):(m:Rat)≤(x:Rat) / (d:Rat)↔m*d≤x:=by
 have h:=@rdiv_lt x d m 1 hd (by decide);have e:(m:Rat) / ((1:Int):Rat)=m:=by simp;grind
 rw [e] at h
 constructor
 ·intro h1
  by_cases h2:x<m*d
  ·exfalso
   have:=h.2 (by omega)
   grind
  ·omega
 ·intro h1
  rcases sw (m:Rat) ((x:Rat) / d) with h2|h2
  ·exact h2
  ·apply Classical.byContradiction
   intro h3;have:(x:Rat) / d<m:=by grind
   have:=h.1 this;omega
theorem rdiv_le {m x d:Int} (hd:0<d):(x:Rat) / (d:Rat)≤(m:Rat)↔x≤m*d:=by
 have h:=@rdiv_lt m 1 x d (by decide) hd;have e:(m:Rat) / ((1:Int):Rat)=m:=by simp;grind
 rw [e] at h
 constructor
 ·intro h1
  by_cases h2:m*d<x
  ·exfalso
   have:=h.2 (by omega)
   grind
  ·omega
 ·intro h1
  rcases sw ((x:Rat) / d) (m:Rat) with h2|h2
  ·exact h2
  ·apply Classical.byContradiction
   intro h3;have:(m:Rat)<(x:Rat) / d:=by grind
   have:=h.1 this;omega
theorem castMin' (a b:Int):min (a:Rat) (b:Rat)=((min a b:Int):Rat):=by
 have h1:(a:Rat)≤b↔a≤b:=by constructor <;> intro h <;> exact_mod_cast h
 rcases Int.le_total a b with h|h
 ·rw [Int.min_eq_left h];have:=h1.2 h;grind
 ·rw [Int.min_eq_right h]
  have h2:(b:Rat)≤a:=by exact_mod_cast h
  grind
theorem castMax' (a b:Int):max (a:Rat) (b:Rat)=((max a b:Int):Rat):=by
 rcases Int.le_total a b with h|h
 ·rw [Int.max_eq_right h]
  have h2:(a:Rat)≤b:=by exact_mod_cast h
  grind
 ·rw [Int.max_eq_left h]
  have h2:(b:Rat)≤a:=by exact_mod_cast h
  grind
theorem onI_iff {ax ay bx by':Int} {p:P3} (hp:0<p.d):cj (sgI ax ay bx by') p.pt↔sideI (P3.of ax ay) (P3.of bx by') p=0∧inI ax ay bx by' p:=by
 unfold cj;have e1:(sgI ax ay bx by').a=(P3.of ax ay).pt:=(P3.of_pt ax ay).symm;have e2:(sgI ax ay bx by').b=(P3.of bx by').pt:=(P3.of_pt bx by').symm;rw [e1,e2,← (sideI_pos (P3.of_ok ax ay).1 (P3.of_ok bx by').1 hp).2];refine and_congr_right fun _=>?_
 unfold sj inI;show min (ax:Rat) (bx:Rat)≤(p.x:Rat) / p.d∧(p.x:Rat) / p.d≤max (ax:Rat) (bx:Rat)∧min (ay:Rat) (by':Rat)≤(p.y:Rat) / p.d∧(p.y:Rat) / p.d≤max (ay:Rat) (by':Rat)↔_;rw [castMin',castMin',castMax',castMax',rle_div hp,rle_div hp,rdiv_le hp,rdiv_le hp]
theorem crossing_make {ax ay bx by' cx cy ex ey d n:Int} (hd:d=(bx - ax)*(ey - cy) - (by' - ay)*(ex - cx)) (hn:n=(cx - ax)*(ey - cy) - (cy - ay)*(ex - cx)) (h0:d≠0) :
 (P3.make (ax*d+(bx - ax)*n) (ay*d+(by' - ay)*n) d).pt=lz (sgI ax ay bx by') (sgI cx cy ex ey)∧fJ (sgI ax ay bx by') (sgI cx cy ex ey)=(d:Rat):=by
 have hdt:fJ (sgI ax ay bx by') (sgI cx cy ex ey)=(d:Rat):=by
  rw [hd];unfold fJ sgI;simp only [Rat.intCast_sub,Rat.intCast_mul]
 refine⟨(P3.make_ok h0).2.trans ?_,hdt⟩;have jD:=castNe h0;unfold lz;rw [a0b,hdt]
 have fU:bT (sgI cx cy ex ey).a (sgI cx cy ex ey).b (sgI ax ay bx by').a=(n:Rat):=by
  rw [hn];unfold bT sgI;simp only [Rat.intCast_sub,Rat.intCast_mul];grind
 rw [fU];apply Pt.ext'
 ·show ((ax*d+(bx - ax)*n:Int):Rat) / d=(ax:Rat)+(n:Rat) / d*((bx:Rat) - ax)
  simp only [Rat.intCast_sub,Rat.intCast_mul,Rat.intCast_add];grind
 ·show ((ay*d+(by' - ay)*n:Int):Rat) / d=(ay:Rat)+(n:Rat) / d*((by':Rat) - ay)
  simp only [Rat.intCast_sub,Rat.intCast_mul,Rat.intCast_add];grind
theorem det_zero {ax ay bx by' cx cy ex ey d:Int} (hd:d=(bx - ax)*(ey - cy) - (by' - ay)*(ex - cx)):fJ (sgI ax ay bx by') (sgI cx cy ex ey)=0↔d=0:=by
 have hdt:fJ (sgI ax ay bx by') (sgI cx cy ex ey)=(d:Rat):=by
  rw [hd];unfold fJ sgI;simp only [Rat.intCast_sub,Rat.intCast_mul]
 rw [hdt]
 constructor
 ·intro h;exact_mod_cast h
 ·intro h;rw [h];rfl
def P3.bd (p:P3):Prop:=p.x.natAbs<1073741824∧p.y.natAbs<1073741824∧p.d.natAbs<1073741824
theorem mul_bd {a b:Int} (ha:a.natAbs<1073741824) (hb:b.natAbs<1073741824):(a*b).natAbs<1152921504606846976:=by
 rw [Int.natAbs_mul];have h1:a.natAbs*b.natAbs≤1073741824*b.natAbs:=Nat.mul_le_mul_right _ (by omega);have h2:1073741824*b.natAbs<1073741824*1073741824:=by omega
 omega
theorem wrapMul {a b:Int} (ha:a.natAbs<1073741824) (hb:b.natAbs<1073741824):IntKind.i64.wrap (a*b)=a*b:=by
 have:=mul_bd ha hb;exact w6
theorem g3_eq (x y d:Int):Int.gcd (Int.gcd x y:Nat) d=g3 x y d:=by unfold g3 Int.gcd;simp
theorem tdiv_dvd {a:Int} {g:Nat} (h:(g:Int) ∣ a):a.tdiv (g:Int)=a / (g:Int):=by
 obtain⟨k,rfl⟩:=h
 by_cases hg:(g:Int)=0
 ·rw [hg];simp
 ·rw [Int.mul_tdiv_cancel_left _ hg,Int.mul_ediv_cancel_left _ hg]
theorem g3_dvd (x y d:Int):((g3 x y d:Nat):Int) ∣ x∧((g3 x y d:Nat):Int) ∣ y∧((g3 x y d:Nat):Int) ∣ d:=by
 unfold g3;refine⟨Int.ofNat_dvd_left.2 (Nat.dvd_trans (Nat.gcd_dvd_left _ _) (Nat.gcd_dvd_left _ _)),Int.ofNat_dvd_left.2 (Nat.dvd_trans (Nat.gcd_dvd_left _ _) (Nat.gcd_dvd_right _ _)),Int.ofNat_dvd_left.2 (Nat.gcd_dvd_right _ _)⟩
theorem gcd_bd {x y:Int} {B:Nat} (hx:x.natAbs<B) (hy:y.natAbs<B):Int.gcd x y<B:=by
 unfold Int.gcd
 by_cases h:x.natAbs=0
 ·rw [h,Nat.gcd_zero_left];exact hy
 ·exact Nat.lt_of_le_of_lt (Nat.gcd_le_left _ (by omega)) hx
theorem mcommon_any (a b:Int) (w:World) (ha:a.natAbs<1099511627776) (hb:b.natAbs<1099511627776) :
 Calls prog 166 #[.int .i64 a,.int .i64 b] w fun e w'=>e=.returned (.int .i64 (Int.gcd a b:Nat))∧w'=w:=by
 obtain⟨G,hG⟩:∃ G,Int.gcd a b=G:=⟨_,rfl⟩;rw [hG];have nT:IntKind.i64.wrap (-a) = -a:=w6;have mM:IntKind.i64.wrap (-b) = -b:=w6
 by_cases h1:a<0
 ·have d1:decide (a<0)=true:=by simpa using h1
  replace h1:a<0:=h1
  by_cases h2:b<0
  ·have d2:decide (b<0)=true:=by simpa using h2
   have hg:=Hd (show Int.gcd (-a) (-b)=G by rw [← hG];simp);clear hG
   go_enter func166,ntmps166
   go_wp2
   go_loopw [0,1] (fun va vb wr=>∃ x y:Int,va=.int .i64 x∧vb=.int .i64 y∧wr=w∧0≤x∧0≤y∧x<1099511627776∧y<1099511627776∧Int.gcd x y=G) (fun va vb _=>(intOf vb).natAbs)
   case atStart=>exact⟨-a,-b,rfl,rfl,rfl,by omega,by omega,by omega,by omega,hg.out⟩
   case round =>
    obtain⟨x,y,rfl,rfl,rfl,iz,iJ,hx,hy,qK⟩:=hrel
    by_cases h0:y=0
    ·subst h0
     have hg3:(G:Int)=x:=by rw [← qK,Int.gcd_zero];omega
     replace hg3:=Hd hg3;clear qK;go_wp2;go_ret;exact⟨by rw [hg3.out];rfl,rfl⟩
    ·have hyt:decide (0<y)=true:=by simp;omega
     have hyf:(y == 0)=false:=by simp [h0]
     have hm:=Int.tmod_eq_emod_of_nonneg (b:=y) iz;have hg3:=aWr x y;have hb3:=@aOx x y h0;have my:0≤Int.tmod x y:=Int.tmod_nonneg _ iz;rw [hm] at hg3 hb3 my;have hw:IntKind.i64.wrap (x % y)=x % y:=w6;have hb4:(x % y)<1099511627776:=by omega
     replace qK:=Hd qK;replace hg3:=Hd hg3;replace hb3:=Hd hb3;replace hb4:=Hd hb4;replace my:=Hd my;go_wp2;go_roundw
     case rel=>exact⟨y,x % y,rfl,rfl,trivial,iJ,my.out,hy,hb4.out,hg3.out.trans qK.out⟩
     case measure=>exact hb3.out
  ·have d2:decide (b<0)=false:=by simpa using h2
   have hg:=Hd (show Int.gcd (-a) b=G by rw [← hG];simp);clear hG
   go_enter func166,ntmps166
   go_wp2
   go_loopw [0,1] (fun va vb wr=>∃ x y:Int,va=.int .i64 x∧vb=.int .i64 y∧wr=w∧0≤x∧0≤y∧x<1099511627776∧y<1099511627776∧Int.gcd x y=G) (fun va vb _=>(intOf vb).natAbs)
   case atStart=>exact⟨-a,b,rfl,rfl,rfl,by omega,by omega,by omega,by omega,hg.out⟩
   case round =>
    obtain⟨x,y,rfl,rfl,rfl,iz,iJ,hx,hy,qK⟩:=hrel
    by_cases h0:y=0
    ·subst h0
     have hg3:(G:Int)=x:=by rw [← qK,Int.gcd_zero];omega
     replace hg3:=Hd hg3;clear qK;go_wp2;go_ret;exact⟨by rw [hg3.out];rfl,rfl⟩
    ·have hyt:decide (0<y)=true:=by simp;omega
     have hyf:(y == 0)=false:=by simp [h0]
     have hm:=Int.tmod_eq_emod_of_nonneg (b:=y) iz;have hg3:=aWr x y;have hb3:=@aOx x y h0;have my:0≤Int.tmod x y:=Int.tmod_nonneg _ iz;rw [hm] at hg3 hb3 my;have hw:IntKind.i64.wrap (x % y)=x % y:=w6;have hb4:(x % y)<1099511627776:=by omega
     replace qK:=Hd qK;replace hg3:=Hd hg3;replace hb3:=Hd hb3;replace hb4:=Hd hb4;replace my:=Hd my;go_wp2;go_roundw
     case rel=>exact⟨y,x % y,rfl,rfl,trivial,iJ,my.out,hy,hb4.out,hg3.out.trans qK.out⟩
     case measure=>exact hb3.out
 ·have d1:decide (a<0)=false:=by simpa using h1
  by_cases h2:b<0
  ·have d2:decide (b<0)=true:=by simpa using h2
   have hg:=Hd (show Int.gcd a (-b)=G by rw [← hG];simp);clear hG
   go_enter func166,ntmps166
   go_wp2
   go_loopw [0,1] (fun va vb wr=>∃ x y:Int,va=.int .i64 x∧vb=.int .i64 y∧wr=w∧0≤x∧0≤y∧x<1099511627776∧y<1099511627776∧Int.gcd x y=G) (fun va vb _=>(intOf vb).natAbs)
   case atStart=>exact⟨a,-b,rfl,rfl,rfl,by omega,by omega,by omega,by omega,hg.out⟩
   case round =>
    obtain⟨x,y,rfl,rfl,rfl,iz,iJ,hx,hy,qK⟩:=hrel
    by_cases h0:y=0
    ·subst h0
     have hg3:(G:Int)=x:=by rw [← qK,Int.gcd_zero];omega
     replace hg3:=Hd hg3;clear qK;go_wp2;go_ret;exact⟨by rw [hg3.out];rfl,rfl⟩
    ·have hyt:decide (0<y)=true:=by simp;omega
     have hyf:(y == 0)=false:=by simp [h0]
     have hm:=Int.tmod_eq_emod_of_nonneg (b:=y) iz;have hg3:=aWr x y;have hb3:=@aOx x y h0;have my:0≤Int.tmod x y:=Int.tmod_nonneg _ iz;rw [hm] at hg3 hb3 my;have hw:IntKind.i64.wrap (x % y)=x % y:=w6;have hb4:(x % y)<1099511627776:=by omega
     replace qK:=Hd qK;replace hg3:=Hd hg3;replace hb3:=Hd hb3;replace hb4:=Hd hb4;replace my:=Hd my;go_wp2;go_roundw
     case rel=>exact⟨y,x % y,rfl,rfl,trivial,iJ,my.out,hy,hb4.out,hg3.out.trans qK.out⟩
     case measure=>exact hb3.out
  ·have d2:decide (b<0)=false:=by simpa using h2
   have hg:=Hd hG;clear hG
   go_enter func166,ntmps166
   go_wp2
   go_loopw [0,1] (fun va vb wr=>∃ x y:Int,va=.int .i64 x∧vb=.int .i64 y∧wr=w∧0≤x∧0≤y∧x<1099511627776∧y<1099511627776∧Int.gcd x y=G) (fun va vb _=>(intOf vb).natAbs)
   case atStart=>exact⟨a,b,rfl,rfl,rfl,by omega,by omega,by omega,by omega,hg.out⟩
   case round =>
    obtain⟨x,y,rfl,rfl,rfl,iz,iJ,hx,hy,qK⟩:=hrel
    by_cases h0:y=0
    ·subst h0
     have hg3:(G:Int)=x:=by rw [← qK,Int.gcd_zero];omega
     replace hg3:=Hd hg3;clear qK;go_wp2;go_ret;exact⟨by rw [hg3.out];rfl,rfl⟩
    ·have hyt:decide (0<y)=true:=by simp;omega
     have hyf:(y == 0)=false:=by simp [h0]
     have hm:=Int.tmod_eq_emod_of_nonneg (b:=y) iz;have hg3:=aWr x y;have hb3:=@aOx x y h0;have my:0≤Int.tmod x y:=Int.tmod_nonneg _ iz;rw [hm] at hg3 hb3 my;have hw:IntKind.i64.wrap (x % y)=x % y:=w6;have hb4:(x % y)<1099511627776:=by omega
     replace qK:=Hd qK;replace hg3:=Hd hg3;replace hb3:=Hd hb3;replace hb4:=Hd hb4;replace my:=Hd my;go_wp2;go_roundw
     case rel=>exact⟨y,x % y,rfl,rfl,trivial,iJ,my.out,hy,hb4.out,hg3.out.trans qK.out⟩
     case measure=>exact hb3.out
theorem make05_any (x y d:Int) (w:World) (hx:x.natAbs<1099511627776) (hy:y.natAbs<1099511627776) (hd:d.natAbs<1099511627776) (h0:d≠0) :
 Calls prog 109 #[.int .i64 x,.int .i64 y,.int .i64 d] w fun e w'=>e=.returned (.agg #[.int .i64 (P3.make x y d).x,.int .i64 (P3.make x y d).y,.int .i64 (P3.make x y d).d])∧Pure w (fun _=>False) w' (fun _=>False):=by
 obtain⟨M,hM⟩:∃ M,P3.make x y d=M:=⟨_,rfl⟩;rw [hM];unfold P3.make at hM;simp only at hM;have w1:IntKind.i64.wrap (-x) = -x:=w6;have w2:IntKind.i64.wrap (-y) = -y:=w6;have w3:IntKind.i64.wrap (-d) = -d:=w6;obtain⟨v1,v2,v3⟩:=g3_dvd x y d;have ge:=g3_eq x y d;have kb:=gcd_bd hx hy;have t1:=aFK x (g3 x y d);have t2:=aFK y (g3 x y d);have t3:=aFK d (g3 x y d);have u1:=tdiv_dvd v1;have u2:=tdiv_dvd v2;have u3:=tdiv_dvd v3;have mA:((g3 x y d:Nat):Int)≠0:=fun h=>h0 (by rw [h] at v3;exact Int.zero_dvd.1 v3)
 have n1:(-1*x) / ((g3 x y d:Nat):Int) = -(x.tdiv (g3 x y d:Nat)):=by rw [u1,Int.neg_one_mul];exact Int.neg_ediv_of_dvd v1
 have n2:(-1*y) / ((g3 x y d:Nat):Int) = -(y.tdiv (g3 x y d:Nat)):=by rw [u2,Int.neg_one_mul];exact Int.neg_ediv_of_dvd v2
 have n3:(-1*d) / ((g3 x y d:Nat):Int) = -(d.tdiv (g3 x y d:Nat)):=by rw [u3,Int.neg_one_mul];exact Int.neg_ediv_of_dvd v3
 have gn:Int.gcd (Int.gcd x y:Nat) (-d)=g3 x y d:=by rw [← ge];simp
 have kn:Int.gcd (-x) (-y)=Int.gcd x y:=by simp
 obtain⟨K,hK⟩:∃ K:Nat,Int.gcd x y=K:=⟨_,rfl⟩;obtain⟨G,hG⟩:∃ G:Int,((g3 x y d:Nat):Int)=G:=⟨_,rfl⟩;rw [hK] at kb kn ge gn;rw [hG] at u1 u2 u3 n1 n2 n3 mA t1 t2 t3 hM;have gn2:((Int.gcd (K:Int) (-d):Nat):Int)=G:=by rw [gn,hG]
 have ge2:((Int.gcd (K:Int) d:Nat):Int)=G:=by rw [ge,hG]
 have q1:IntKind.i64.wrap (x.tdiv G)=x.tdiv G:=w6;have q2:IntKind.i64.wrap (y.tdiv G)=y.tdiv G:=w6;have q3:IntKind.i64.wrap (d.tdiv G)=d.tdiv G:=w6;have q4:IntKind.i64.wrap (-(x.tdiv G)) = -(x.tdiv G):=w6;have q5:IntKind.i64.wrap (-(y.tdiv G)) = -(y.tdiv G):=w6;have q6:IntKind.i64.wrap (-(d.tdiv G)) = -(d.tdiv G):=w6;have hG0:(G == 0)=false:=by simpa using mA
 clear v1 v2 v3 ge gn hG h0 t1 t2 t3;have hS:=aA.start w
 by_cases aEe:d<0
 ·have d1:decide (d<0)=true:=by simpa using aEe
  simp only [if_pos aEe] at hM;rw [n1,n2,n3] at hM;clear n1 n2 n3 u1 u2 u3 aEe;replace hM:=Hd hM;replace kn:=Hd kn;replace hK:=Hd hK;replace gn2:=Hd gn2;replace ge2:=Hd ge2
  go_enter func109,ntmps109
  go_wp2_with (with_reducible refine bH hS zeroValue117 fun br fu hS=>?_)
  refine (mcommon_any (-x) (-y) _ (by omega) (by omega)).mono ?_;rintro e w' ⟨rfl,rfl⟩;rw [kn.out];simp only []
  go_wp2_with (fail)
  refine (mcommon_any (K:Int) (-d) _ (by omega) (by omega)).mono ?_;rintro e w' ⟨rfl,rfl⟩;rw [gn2.out];simp only [];go_wp2;refine dB [.p 0,.p 1,.p 2,.p 3,.p 4,.p 5,.p 6,.p 7,.p 8,.p 9,.m 10] [10] hS fun w1 hS=>?_
  refine aM ?_;refine dC ?_
  (with_reducible refine aJ 1 hS sizeOf117 fun _ hS=>?_)
  refine dD ?_;refine bE ?_;go_wp2;exact fE 1 hS rfl rfl rfl isAgg117 sizeOf117 rfl rfl ⟨by first|(rw [← hM.out];done)|(rw [← hM.out];rfl),hS.pure _⟩
 ·have d1:decide (d<0)=false:=by simpa using aEe
  simp only [if_neg aEe,Int.one_mul] at hM;rw [← u1,← u2,← u3] at hM;clear n1 n2 n3 u1 u2 u3 aEe;replace hM:=Hd hM;replace kn:=Hd kn;replace hK:=Hd hK;replace gn2:=Hd gn2;replace ge2:=Hd ge2
  go_enter func109,ntmps109
  go_wp2_with (with_reducible refine bH hS zeroValue117 fun br fu hS=>?_)
  refine (mcommon_any (x) (y) _ (by omega) (by omega)).mono ?_;rintro e w' ⟨rfl,rfl⟩;rw [hK.out];simp only []
  go_wp2_with (fail)
  refine (mcommon_any (K:Int) (d) _ (by omega) (by omega)).mono ?_;rintro e w' ⟨rfl,rfl⟩;rw [ge2.out];simp only [];go_wp2;refine dB [.p 0,.p 1,.p 2,.p 3,.p 4,.p 5,.p 6,.p 7,.p 8,.p 9,.m 10] [10] hS fun w1 hS=>?_
  refine aM ?_;refine dC ?_
  (with_reducible refine aJ 1 hS sizeOf117 fun _ hS=>?_)
  refine dD ?_;refine bE ?_;go_wp2;exact fE 1 hS rfl rfl rfl isAgg117 sizeOf117 rfl rfl ⟨by first|(rw [← hM.out];done)|(rw [← hM.out];rfl),hS.pure _⟩
theorem mul_bdk {a b:Int} {m n:Nat} (ha:a.natAbs≤m) (hb:b.natAbs≤n):(a*b).natAbs≤m*n:=by
 rw [Int.natAbs_mul];exact Nat.mul_le_mul ha hb
theorem of05_any (x y:Int) (w:World):Calls prog 59 #[.agg #[.int .i64 x,.int .i64 y]] w fun e w'=>e=.returned (.agg #[.int .i64 x,.int .i64 y,.int .i64 1])∧Pure w (fun _=>False) w' (fun _=>False):=by
 have hS:=aA.start w
 go_enter func59,ntmps59
 go_wp2_with (with_reducible first|refine cI hS fun bx cu hS=>?_|refine bH hS zeroValue117 fun br fu hS=>?_|refine aU 1 hS isAgg3 ?_|refine aJ 2 hS sizeOf117 fun _ hS=>?_)
 exact fE 2 hS rfl rfl rfl isAgg117 sizeOf117 rfl rfl ⟨rfl,hS.pure _⟩
theorem sign05_any (n:Int) (w:World):Calls prog 165 #[.int .i64 n] w fun e w'=>e=.returned (.int .i64 (gQ n))∧w'=w:=by
 obtain⟨s,hs⟩:∃ s,gQ n=s:=⟨_,rfl⟩;rw [hs];unfold gQ at hs
 by_cases h1:n<0
 ·have d1:decide (n<0)=true:=by simpa using h1
  rw [if_pos h1] at hs;subst hs;clear h1
  go_enter func165,ntmps165
  go_wp2;go_ret;exact⟨rfl,rfl⟩
 ·have d1:decide (n<0)=false:=by simpa using h1
  rw [if_neg h1] at hs
  by_cases h2:0<n
  ·have d2:decide (0<n)=true:=by simpa using h2
   rw [if_pos h2] at hs;subst hs;clear h1 h2
   go_enter func165,ntmps165
   go_wp2;go_ret;exact⟨rfl,rfl⟩
  ·have d2:decide (0<n)=false:=by simpa using h2
   rw [if_neg h2] at hs;subst hs;clear h1 h2
   go_enter func165,ntmps165
   go_wp2;go_ret;exact⟨rfl,rfl⟩
def cmp3 (a b:P3):Int:=if gQ (a.x*b.d - b.x*a.d)≠0 then gQ (a.x*b.d - b.x*a.d) else gQ (a.y*b.d - b.y*a.d)
theorem sgnZ_neg {a:Int}:gQ a<0↔a<0:=by unfold gQ;split <;> (try split) <;> omega
theorem cmp3_low (a b:P3):cmp3 a b<0↔a.low b:=by
 unfold cmp3 P3.low;have h1:=@sgnZ_neg (a.x*b.d - b.x*a.d);have h2:=@sgnZ_neg (a.y*b.d - b.y*a.d);have h3:=@aAz (a.x*b.d - b.x*a.d)
 split <;> omega
theorem cmp05_any (a b:P3) (w:World) (ha:a.bd) (hb:b.bd):Calls prog 108 #[.agg #[.int .i64 a.x,.int .i64 a.y,.int .i64 a.d],.agg #[.int .i64 b.x,.int .i64 b.y,.int .i64 b.d]] w fun e w'=>e=.returned (.int .i64 (cmp3 a b))∧Pure w (fun _=>False) w' (fun _=>False):=by
 obtain⟨ax,ay,ad⟩:=a;obtain⟨bx,by',bd⟩:=b;obtain⟨a1,a2,a3⟩:=ha;obtain⟨b1,b2,b3⟩:=hb;simp only at a1 a2 a3 b1 b2 b3;obtain⟨c,hc⟩:∃ c,cmp3 ⟨ax,ay,ad⟩ ⟨bx,by',bd⟩=c:=⟨_,rfl⟩;rw [hc];unfold cmp3 at hc;simp only at hc;have m1:=mul_bd a1 b3;have m2:=mul_bd b1 a3;have m3:=mul_bd a2 b3;have m4:=mul_bd b2 a3;have w1:=wrapMul a1 b3;have w2:=wrapMul b1 a3;have w3:=wrapMul a2 b3;have w4:=wrapMul b2 a3;have w5:IntKind.i64.wrap (ax*bd - bx*ad)=ax*bd - bx*ad:=Go.Hp.w6;have w6:IntKind.i64.wrap (ay*bd - by'*ad)=ay*bd - by'*ad:=Go.Hp.w6
 have s1:=fun w=>sign05_any (ax*bd - bx*ad) w
 have s2:=fun w=>sign05_any (ay*bd - by'*ad) w
 obtain⟨u,hu⟩:∃ u,gQ (ax*bd - bx*ad)=u:=⟨_,rfl⟩;obtain⟨v,hv⟩:∃ v,gQ (ay*bd - by'*ad)=v:=⟨_,rfl⟩;simp only [hu] at s1 hc;simp only [hv] at s2 hc;clear hu hv m1 m2 m3 m4 a1 a2 a3 b1 b2 b3;have hS:=aA.start w
 by_cases h0:u=0
 ·have hf:(u == 0)=true:=by simp [h0]
  rw [if_neg (by simpa using h0)] at hc;subst hc;subst h0
  go_enter func108,ntmps108
  go_wp2_with (with_reducible first|refine cI hS fun bx1 wbx1 hS=>?_|refine cI hS fun bx2 wbx2 hS=>?_|refine aU 1 hS isAgg3 ?_|refine aU 2 hS isAgg3 ?_)
  refine (s1 _).mono ?_;rintro e w' ⟨rfl,rfl⟩;simp only []
  go_wp2_with (with_reducible first|refine aU 1 hS isAgg3 ?_|refine aU 2 hS isAgg3 ?_)
  refine (s2 _).mono ?_;rintro e w' ⟨rfl,rfl⟩;simp only [];go_wp2;go_ret;exact⟨rfl,hS.pure _⟩
 ·have hf:(u == 0)=false:=by simp [h0]
  rw [if_pos h0] at hc;subst hc
  go_enter func108,ntmps108
  go_wp2_with (with_reducible first|refine cI hS fun bx1 wbx1 hS=>?_|refine cI hS fun bx2 wbx2 hS=>?_|refine aU 1 hS isAgg3 ?_|refine aU 2 hS isAgg3 ?_)
  refine (s1 _).mono ?_;rintro e w' ⟨rfl,rfl⟩;simp only [];go_wp2;go_ret;exact⟨rfl,hS.pure _⟩
theorem side05_any (ax ay bx by':Int) (c:P3) (w:World) (ha:smC ax∧smC ay) (hb:smC bx∧smC by') (hc:c.bd) :
 Calls prog 110 #[.agg #[.int .i64 ax,.int .i64 ay,.int .i64 1],.agg #[.int .i64 bx,.int .i64 by',.int .i64 1],.agg #[.int .i64 c.x,.int .i64 c.y,.int .i64 c.d]] w fun e w'=>e=.returned (.int .i64 (gQ (sideI (P3.of ax ay) (P3.of bx by') c)))∧Pure w (fun _=>False) w' (fun _=>False):=by
 obtain⟨cx,cy,cd⟩:=c;obtain⟨c1,c2,c3⟩:=hc;obtain⟨ha1,ha2⟩:=ha;obtain⟨oY,iD⟩:=hb;unfold smC at ha1 ha2 oY iD;simp only at c1 c2 c3;obtain⟨s,hs⟩:∃ s,gQ (sideI (P3.of ax ay) (P3.of bx by') ⟨cx,cy,cd⟩)=s:=⟨_,rfl⟩;rw [hs];unfold sideI P3.of at hs;simp only [Int.mul_one] at hs;have m1:=mul_bdk (a:=ax) (b:=cd) (m:=1000) (n:=1073741824) (by omega) (by omega);have m2:=mul_bdk (a:=ay) (b:=cd) (m:=1000) (n:=1073741824) (by omega) (by omega);have m3:=mul_bdk (a:=bx - ax) (b:=cy - ay*cd) (m:=2000) (n:=1100000000000) (by omega) (by omega);have m4:=mul_bdk (a:=by' - ay) (b:=cx - ax*cd) (m:=2000) (n:=1100000000000) (by omega) (by omega);have w1:IntKind.i64.wrap ax=ax:=Go.Hp.w6;have w2:IntKind.i64.wrap ay=ay:=Go.Hp.w6;have w3:IntKind.i64.wrap bx=bx:=Go.Hp.w6;have w4:IntKind.i64.wrap by'=by':=Go.Hp.w6
 have w5:IntKind.i64.wrap cx=cx:=Go.Hp.w6;have w6:IntKind.i64.wrap cy=cy:=Go.Hp.w6;have w7:IntKind.i64.wrap (bx - ax)=bx - ax:=Go.Hp.w6;have w8:IntKind.i64.wrap (by' - ay)=by' - ay:=Go.Hp.w6
 have w9:IntKind.i64.wrap (ax*cd)=ax*cd:=Go.Hp.w6;have w10:IntKind.i64.wrap (ay*cd)=ay*cd:=Go.Hp.w6;have w11:IntKind.i64.wrap (cx - ax*cd)=cx - ax*cd:=Go.Hp.w6;have w12:IntKind.i64.wrap (cy - ay*cd)=cy - ay*cd:=Go.Hp.w6;have w13:IntKind.i64.wrap ((bx - ax)*(cy - ay*cd))=(bx - ax)*(cy - ay*cd):=Go.Hp.w6;have w14:IntKind.i64.wrap ((by' - ay)*(cx - ax*cd))=(by' - ay)*(cx - ax*cd):=Go.Hp.w6;have w15:IntKind.i64.wrap ((bx - ax)*(cy - ay*cd) - (by' - ay)*(cx - ax*cd))=(bx - ax)*(cy - ay*cd) - (by' - ay)*(cx - ax*cd):=Go.Hp.w6;have s1:=fun w=>sign05_any ((bx - ax)*(cy - ay*cd) - (by' - ay)*(cx - ax*cd)) w
 simp only [hs] at s1;clear m1 m2 m3 m4 c1 c2 c3 ha1 ha2 oY iD hs;have hS:=aA.start w
 go_enter func110,ntmps110
 go_wp2_with (with_reducible first|refine cI hS fun b1 wb1 hS=>?_|refine cI hS fun b2 ri hS=>?_|refine cI hS fun b3 wb3 hS=>?_|refine aU 1 hS isAgg3 ?_|refine aU 2 hS isAgg3 ?_|refine aU 3 hS isAgg3 ?_)
 refine (s1 _).mono ?_;rintro e w' ⟨rfl,rfl⟩;simp only [];go_wp2;go_ret;exact⟨rfl,hS.pure _⟩
theorem in05_any (x0 y0 x1 y1:Int) (p:P3) (w:World) (h0:smC x0∧smC y0) (h1:smC x1∧smC y1) (hp:p.bd) :
 Calls prog 111 #[.agg #[.int .i64 x0,.int .i64 y0,.int .i64 x1,.int .i64 y1],.agg #[.int .i64 p.x,.int .i64 p.y,.int .i64 p.d]] w fun e w'=>e=.returned (.bool (decide (x0*p.d≤p.x) && decide (p.x≤x1*p.d) && decide (y0*p.d≤p.y) && decide (p.y≤y1*p.d)))∧Pure w (fun _=>False) w' (fun _=>False):=by
 obtain⟨px,pyQ,pdQ⟩:=p;obtain⟨p1,p2,p3⟩:=hp;obtain⟨h0,zG⟩:=h0;obtain⟨h1,h1'⟩:=h1;unfold smC at h0 zG h1 h1';simp only at p1 p2 p3 ⊢;have w1:IntKind.i64.wrap (x0*pdQ)=x0*pdQ:=wrapMul (by omega) (by omega);have w2:IntKind.i64.wrap (y0*pdQ)=y0*pdQ:=wrapMul (by omega) (by omega);have w3:IntKind.i64.wrap (x1*pdQ)=x1*pdQ:=wrapMul (by omega) (by omega);have w4:IntKind.i64.wrap (y1*pdQ)=y1*pdQ:=wrapMul (by omega) (by omega);obtain⟨c1,e1⟩:∃ c1,decide (x0*pdQ≤px)=c1:=⟨_,rfl⟩;obtain⟨c2,e2⟩:∃ c2,decide (px≤x1*pdQ)=c2:=⟨_,rfl⟩;obtain⟨c3,e3⟩:∃ c3,decide (y0*pdQ≤pyQ)=c3:=⟨_,rfl⟩;obtain⟨c4,e4⟩:∃ c4,decide (pyQ≤y1*pdQ)=c4:=⟨_,rfl⟩;rw [e1,e2,e3,e4];clear p1 p2 p3 h0 zG h1 h1';have hS:=aA.start w;cases c1
 ·go_enter func111,ntmps111
  go_wp2_with (first|(with_reducible first|refine cI hS fun b1 wb1 hS=>?_|refine cI hS fun b2 ri hS=>?_|refine aU 1 hS isAgg3 ?_|refine aU 2 hS isAgg3 ?_)|((with_reducible refine dq (T:=3) ?_);refine sf rfl ?_;simp only [aD]))
  go_ret;exact⟨by first|rfl|simp,hS.pure _⟩
 ·cases c2
  ·go_enter func111,ntmps111
   go_wp2_with (first|(with_reducible first|refine cI hS fun b1 wb1 hS=>?_|refine cI hS fun b2 ri hS=>?_|refine aU 1 hS isAgg3 ?_|refine aU 2 hS isAgg3 ?_)|((with_reducible refine dq (T:=3) ?_);refine sf rfl ?_;simp only [aD]))
   go_ret;exact⟨by first|rfl|simp,hS.pure _⟩
  ·cases c3
   ·go_enter func111,ntmps111
    go_wp2_with (first|(with_reducible first|refine cI hS fun b1 wb1 hS=>?_|refine cI hS fun b2 ri hS=>?_|refine aU 1 hS isAgg3 ?_|refine aU 2 hS isAgg3 ?_)|((with_reducible refine dq (T:=3) ?_);refine sf rfl ?_;simp only [aD]))
    go_ret;exact⟨by first|rfl|simp,hS.pure _⟩
   ·cases c4
    ·go_enter func111,ntmps111
     go_wp2_with (first|(with_reducible first|refine cI hS fun b1 wb1 hS=>?_|refine cI hS fun b2 ri hS=>?_|refine aU 1 hS isAgg3 ?_|refine aU 2 hS isAgg3 ?_)|((with_reducible refine dq (T:=3) ?_);refine sf rfl ?_;simp only [aD]))
     go_ret;exact⟨by first|rfl|simp,hS.pure _⟩
    ·go_enter func111,ntmps111
     go_wp2_with (first|(with_reducible first|refine cI hS fun b1 wb1 hS=>?_|refine cI hS fun b2 ri hS=>?_|refine aU 1 hS isAgg3 ?_|refine aU 2 hS isAgg3 ?_)|((with_reducible refine dq (T:=3) ?_);refine sf rfl ?_;simp only [aD]))
     go_ret;exact⟨by first|rfl|simp,hS.pure _⟩
theorem on08_any (s:Sz) (p:P3) (w:World) (hs:s.sm) (hp:p.bd) (hd:0<p.d) :
 Calls prog 61 #[.agg #[.int .i64 s.a.x,.int .i64 s.a.y,.int .i64 s.b.x,.int .i64 s.b.y],.agg #[.int .i64 p.x,.int .i64 p.y,.int .i64 p.d]] w fun e w'=>e=.returned (.bool (decide (cj s.sg p.pt)))∧Pure w (fun _=>False) w' (fun _=>False):=by
 obtain⟨⟨ax,ay⟩,⟨bx,by'⟩⟩:=s;obtain⟨⟨a1,a2⟩,b1,b2⟩:=hs;simp only at a1 a2 b1 b2;have hiff:=onI_iff (ax:=ax) (ay:=ay) (bx:=bx) (by':=by') hd;obtain⟨R,hR⟩:∃ R,decide (cj (Sz.sg ⟨⟨ax,ay⟩,⟨bx,by'⟩⟩) p.pt)=R:=⟨_,rfl⟩;rw [hR]
 have o9:R=(decide (sideI (P3.of ax ay) (P3.of bx by') p=0) && (decide (min ax bx*p.d≤p.x) && decide (p.x≤max ax bx*p.d) && decide (min ay by'*p.d≤p.y) && decide (p.y≤max ay by'*p.d))):=by
  rw [← hR,Bool.eq_iff_iff,decide_eq_true_iff];refine Iff.trans hiff ?_;unfold inI;simp only [Bool.and_eq_true,decide_eq_true_eq,and_assoc]
 have sd:=fun w=>side05_any ax ay bx by' p w ⟨a1,a2⟩ ⟨b1,b2⟩ hp
 have mmQ:smC (min ax bx)∧smC (min ay by')∧smC (max ax bx)∧smC (max ay by'):=by unfold smC at *;omega
 have ii:=fun w=>in05_any (min ax bx) (min ay by') (max ax bx) (max ay by') p w ⟨mmQ.1,mmQ.2.1⟩ ⟨mmQ.2.2.1,mmQ.2.2.2⟩ hp
 have hz:=@aAz (sideI (P3.of ax ay) (P3.of bx by') p);obtain⟨q,hq⟩:∃ q,gQ (sideI (P3.of ax ay) (P3.of bx by') p)=q:=⟨_,rfl⟩;rw [hq] at hz;simp only [hq] at sd;obtain⟨J,hJ⟩:∃ J,(decide (min ax bx*p.d≤p.x) && decide (p.x≤max ax bx*p.d) && decide (min ay by'*p.d≤p.y) && decide (p.y≤max ay by'*p.d))=J:=⟨_,rfl⟩;simp only [hJ] at ii
 have hR4:R=(decide (q=0) && J):=by
  rw [o9,hJ,Bool.eq_iff_iff,Bool.and_eq_true,Bool.and_eq_true,decide_eq_true_iff,decide_eq_true_iff,hz]
 clear o9;have o9:=hR4;clear hR4 hq hJ hR hiff hz mmQ a1 a2 b1 b2 hp hd;obtain⟨px,pyQ,pdQ⟩:=p;simp only at sd ii;have hS:=aA.start w
 by_cases h0:q=0
 ·have d0:(q == 0)=true:=by simp [h0]
  have hR3:R=J:=by rw [o9];simp [h0]
  clear o9;subst h0;subst hR3
  go_enter func61,ntmps61
  go_wp2_with (with_reducible first|refine cI hS fun b1 wb1 hS=>?_|refine cI hS fun b2 ri hS=>?_|refine eW 1 hS isAgg43 sizeOf43 ?_)
  refine (of05_any ax ay _).mono ?_;rintro e w' ⟨rfl,hq⟩;have hS:=hS.below hq.below hq.drawn;simp only []
  go_wp2_with (with_reducible first|refine bH hS zeroValue117 fun b5 wb5 hS=>?_|refine aJ 3 hS sizeOf117 fun _ hS=>?_|refine eW 1 hS isAgg43 sizeOf43 ?_)
  refine (of05_any bx by' _).mono ?_;rintro e w' ⟨rfl,hq⟩;have hS:=hS.below hq.below hq.drawn;simp only []
  go_wp2_with (with_reducible first|refine bH hS zeroValue117 fun b6 xz hS=>?_|refine aJ 4 hS sizeOf117 fun _ hS=>?_|refine aU 1 hS isAgg3 ?_|refine bH hS zeroValue167 fun b7 wb7 hS=>?_|refine aJ 5 hS sizeOf167 fun _ hS=>?_|refine bA 3 hS isAgg117 sizeOf117 ?_|refine bA 4 hS isAgg117 sizeOf117 ?_|refine bA 2 hS isAgg117 sizeOf117 ?_)
  refine (sd _).mono ?_;rintro e w' ⟨rfl,hq⟩;have hS:=hS.below hq.below hq.drawn;simp only []
  go_wp2_with (with_reducible first|refine bA 5 hS isAgg167 sizeOf167 ?_|refine bA 2 hS isAgg117 sizeOf117 ?_)
  refine (ii _).mono ?_;rintro e w' ⟨rfl,hq⟩;have hS:=hS.below hq.below hq.drawn;simp only [];go_wp2;go_ret;exact⟨rfl,hS.pure _⟩
 ·have d0:(q == 0)=false:=by simp [h0]
  have hR3:R=false:=by rw [o9];simp [h0]
  clear o9;subst hR3
  go_enter func61,ntmps61
  go_wp2_with (with_reducible first|refine cI hS fun b1 wb1 hS=>?_|refine cI hS fun b2 ri hS=>?_|refine eW 1 hS isAgg43 sizeOf43 ?_)
  refine (of05_any ax ay _).mono ?_;rintro e w' ⟨rfl,hq⟩;have hS:=hS.below hq.below hq.drawn;simp only []
  go_wp2_with (with_reducible first|refine bH hS zeroValue117 fun b5 wb5 hS=>?_|refine aJ 3 hS sizeOf117 fun _ hS=>?_|refine eW 1 hS isAgg43 sizeOf43 ?_)
  refine (of05_any bx by' _).mono ?_;rintro e w' ⟨rfl,hq⟩;have hS:=hS.below hq.below hq.drawn;simp only []
  go_wp2_with (with_reducible first|refine bH hS zeroValue117 fun b6 xz hS=>?_|refine aJ 4 hS sizeOf117 fun _ hS=>?_|refine aU 1 hS isAgg3 ?_|refine bH hS zeroValue167 fun b7 wb7 hS=>?_|refine aJ 5 hS sizeOf167 fun _ hS=>?_|refine bA 3 hS isAgg117 sizeOf117 ?_|refine bA 4 hS isAgg117 sizeOf117 ?_|refine bA 2 hS isAgg117 sizeOf117 ?_)
  refine (sd _).mono ?_;rintro e w' ⟨rfl,hq⟩;have hS:=hS.below hq.below hq.drawn;simp only []
  go_wp2_with (first|((with_reducible refine dq (T:=167) ?_);refine sf rfl ?_;simp only [aD])|((with_reducible refine dq (T:=117) ?_);refine sf rfl ?_;simp only [aD]))
  go_ret;exact⟨rfl,hS.pure _⟩
instance :DecidableEq P3:=fun a b=>decidable_of_iff (a.x=b.x∧a.y=b.y∧a.d=b.d) ⟨fun h=>P3.ext' h.1 h.2.1 h.2.2,fun h=>by subst h;exact⟨rfl,rfl,rfl⟩⟩
def tcQ (p:P3):List Value:=[.int .i64 p.x,.int .i64 p.y,.int .i64 p.d]
theorem tc_len (p:P3):(tcQ p).length=3:=rfl
def tp0:P3:=⟨0,0,1⟩
theorem tc_one (l:List P3):∀ v ∈ l.flatMap tcQ,v.oneCell'=true:=by
 intro v hv;obtain⟨p,_,h⟩:=List.mem_flatMap.1 hv;simp only [tcQ,List.mem_cons,List.not_mem_nil,or_false] at h
 rcases h with rfl|rfl|rfl <;> rfl
structure TL (l:List P3):Prop where
 ok:∀ p ∈ l,p.ok∧p.bd
 sorted:(l.map P3.pt).Pairwise Pt.lt
theorem TL.nil:TL []:=⟨by simp,by simp⟩
theorem nth_mapP {l:List P3} {i:Nat} (hi:i<l.length):nth au (l.map P3.pt) i=(nth tp0 l i).pt:=by
 rw [bS _ _ _ (by simpa using hi),bS _ _ _ hi,List.getElem_map]
theorem TL.insert {l:List P3} {p:P3} {k:Nat} (h:TL l) (hp:p.ok∧p.bd) (hk:k≤l.length) (dg:∀ j,j<k→(nth tp0 l j).pt.lt p.pt) (jU:k<l.length→¬ (nth tp0 l k).pt.lt p.pt) (bJ:¬ (k<l.length∧nth tp0 l k=p)):TL (l.take k++p::l.drop k)∧∀ x,x ∈ l.take k++p::l.drop k↔x ∈ l∨x=p:=by
 have cA:vw (l.map P3.pt) p.pt k:=by
  refine⟨by simpa using hk,fun j hj=>by rw [nth_mapP (by omega)];exact dg j hj,fun j hj gX=>?_⟩;have hjl':j<l.length:=by simpa using gX
  rw [nth_mapP hjl'];intro aW
  rcases Nat.lt_or_eq_of_le hj with h1|h1
  ·have h2:=List.pairwise_iff_getElem.1 h.sorted k j (by simp;omega) (by simpa using hjl') h1
   rw [List.getElem_map,List.getElem_map,← bS tp0 l k (by omega),← bS tp0 l j hjl'] at h2;exact jU (by omega) (Pt.lt_trans h2 aW)
  ·subst h1;exact jU hjl' aW
 have wi:¬ (k<(l.map P3.pt).length∧nth au (l.map P3.pt) k=p.pt):=by
  rintro⟨h1,h2⟩;have h1':k<l.length:=by simpa using h1
  rw [nth_mapP h1'] at h2;exact bJ ⟨h1',P3.inj (h.ok _ (cQ tp0 l k h1')).1 hp.1 h2⟩
 have j0:∀ x,x ∈ l.take k++p::l.drop k↔x ∈ l∨x=p:=by
  intro x
  conv=>rhs;rw [← List.take_append_drop k l]
  simp only [List.mem_append,List.mem_cons]
  constructor
  ·rintro (h|h|h)
   ·exact .inl (.inl h)
   ·exact .inr h
   ·exact .inl (.inr h)
  ·rintro ((h|h)|h)
   ·exact .inl h
   ·exact .inr (.inr h)
   ·exact .inr (.inl h)
 refine⟨⟨fun x hx=>?_,?_⟩,j0⟩
 ·rcases (j0 x).1 hx with h1|rfl
  ·exact h.ok x h1
  ·exact hp
 ·rw [List.map_append,List.map_cons,List.map_take,List.map_drop]
  exact cA.sorted h.sorted wi
end Go.Hp
