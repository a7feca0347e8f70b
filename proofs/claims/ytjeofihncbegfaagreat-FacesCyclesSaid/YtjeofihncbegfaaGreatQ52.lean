/- Of FV2 CP. -/
import Derived.Test.YtjeofihncbegfaaGreatQ36
set_option maxRecDepth 100000
set_option maxHeartbeats 16000000
set_option linter.unusedVariables false
set_option linter.unusedSimpArgs false
namespace Go.Hp
open Go.Proofs.Tryz
open Go Go.RowKit
def slLen:Value→Nat
 | .slice _ n _=>n
 | _=>0
end Go.Hp
namespace Go.Proofs
open Go.Proofs.Tryz
open Go.RowKit Go.Hp
theorem cycle_any {N:List Nat} (hp:IsPerm N) {h:Nat} (hh:h<N.length) (hle:N.length≤1000000) (an a2 a3 a4 a5:Option Addr) (cn n2 c2 n3 c3 n4 c4 n5 c5:Nat) (w:World) (hN:Nats w (Old w) (.slice an N.length cn) N) :
 Calls Tryz.prog 22 #[.agg #[.slice an N.length cn,.slice a2 n2 c2,.slice a3 n3 c3,.slice a4 n4 c4,.slice a5 n5 c5],.int .i64 (h:Int)] w fun e w'=>∃ ad c,e=.returned (.tuple #[.slice ad (orb N h).length c,.int .i64 0])∧Heap w w' [.frz (Old w) w,.row (.slice ad (orb N h).length c) 3 1 (orb N h).length (iv (zs (orb N h)))]:=by
 obtain⟨p0,p1,p2,p3⟩:=per_spec hp hh;have hlt:=fun j=>it_lt hp hh j
 have horb:orb N h=(List.range (per N h)).map fun j=>it N j h:=rfl
 obtain⟨p,hpe⟩:∃ p,per N h=p:=⟨_,rfl⟩;rw [hpe] at p0 p1 p2 p3 horb;obtain⟨f,hff⟩:∃ f:Nat→Nat,f=fun j=>it N j h:=⟨_,rfl⟩
 rw [← hff] at horb;have hf0:f 0=h:=by rw [hff];rfl
 have hfs:∀ j,nth 0 N (f j)=f (j+1):=fun j=>by rw [hff];rfl
 have hfl:∀ j,f j<N.length:=fun j=>by rw [hff];exact hlt j
 have hfp:f p=h:=by rw [hff];exact p2
 have hfn:∀ j,0<j→j<p→f j≠h:=fun j a b=>by rw [hff];exact p3 j a b
 clear hff p2 p3 hlt hpe;rw [horb];have hol:((List.range p).map f).length=p:=by simp
 have hr1:(List.range 1).map f=[h]:=by rw [← hf0];rfl
 have hrs:∀ j,(List.range (j+1)).map f=(List.range j).map f++[f j]:=fun j=>by rw [List.range_succ,List.map_append];rfl
 have h1:=hfs 0;rw [hf0] at h1;obtain⟨k1,hk1⟩:∃ k,f 1=k:=⟨_,rfl⟩;rw [show f (0+1)=k1 from hk1] at h1;have d0:decide ((N.length:Int)≤(h:Int))=false:=by simp;omega
 replace horb:=Hd horb;replace hf0:=Hd hf0;replace hfs:=Hd hfs;replace hfl:=Hd hfl;replace hfp:=Hd hfp;replace hfn:=Hd hfn;replace hol:=Hd hol;replace hrs:=Hd hrs;replace hr1:=Hd hr1;replace hk1:=Hd hk1;have hS:=Heap.start w
 go_enter func22,ntmps22
 go_wp2_with (first|(with_reducible first|refine bxA hS fun bx wbx hS=>?_|refine ldB 1 hS isAgg22 ?_)|((with_reducible refine g_bs (T:=22) ?_);refine seq_bs1 (T:=22) (v:=.int .i64 _) hS underlying22 sizeOf3 zeroValue3 rfl rfl rfl (by decide) (by decide) rfl (fun bl wbl hS=>?_);simp only [NRM];simp only [Value.cells] at hS)|(with_reducible first|refine ixN underlying22 sizeOf3 fun _ _ _=>?_|refine ld0 hS isAgg3 ?_))
 have hS:=hS.toRow (m:=1) (k:=1) 2 rfl (by simp) (by decide);simp only [List.cons_append,List.nil_append,List.set_cons_succ,List.set_cons_zero] at hS;have hi0:[Value.int .i64 (h:Int)]=iv (zs ((List.range 1).map f)):=by rw [hr1.out];rfl
 replace hS:Heap w _ [.frz (Old w) w,.blk bx _,.row (.slice (some ⟨bl,0,none⟩) 1 1) 3 1 1 [Value.int .i64 (h:Int)]]:=hS;rw [hi0] at hS;clear hi0;have h1':nth 0 N ((h:Int)).toNat=k1:=by rw [Int.toNat_natCast];exact h1
 try try simp only [NRG]
 go_loopw [6,7] (fun v6 v7 wr=>∃ (j:Nat) (ad:Option Addr) (c:Nat),1≤j∧j≤p∧v7=.int .i64 (f j:Int)∧v6=.slice ad j c∧Heap w wr [.frz (Old w) w,.blk bx (.cells #[.slice an N.length cn,.slice a2 n2 c2,.slice a3 n3 c3,.slice a4 n4 c4,.slice a5 n5 c5] 37 (0,0)),.row (.slice ad j c) 3 1 j (iv (zs ((List.range j).map f)))]) (fun v6 _ _=>p+1 - slLen v6)
 case atStart=>exact⟨1,some ⟨bl,0,none⟩,1,by omega,by omega,by rw [hk1.out,h1],rfl,hS⟩
 case round =>
  clear hS;obtain⟨j,ad,c,hj1,hjp,rfl,rfl,hS⟩:=hrel
  by_cases hjl:j<p
  ·have hne:=hfn.out j (by omega) hjl
   have hlt2:=hfl.out j;have hnx:=hfs.out j;have hrs2:=hrs.out j;obtain⟨k,hk⟩:∃ k,f j=k:=⟨_,rfl⟩;obtain⟨k2,hk2⟩:∃ k,f (j+1)=k:=⟨_,rfl⟩;rw [hk,hk2] at hnx;rw [hk] at hne hlt2 hrs2;rw [hk];have hz:iv (zs ((List.range (j+1)).map f))=iv (zs ((List.range j).map f))++[.int .i64 (k:Int)]:=by rw [hrs2];simp [iv,zs]
   have q1:((k:Int) != (h:Int))=true:=by simp;omega
   replace hz:=Hd hz;replace hk:=Hd hk;replace hk2:=Hd hk2;clear hrs2 hne
   go_wp2_with (first|(with_reducible first|refine ldB 1 hS isAgg22 ?_|refine ixN underlying22 sizeOf3 fun _ _ _=>?_|refine ld0 hS isAgg3 ?_)|((with_reducible refine g_bs (T:=22) ?_);refine seq_bs1 (T:=22) (v:=.int .i64 _) hS underlying22 sizeOf3 zeroValue3 rfl rfl rfl (by decide) (by decide) rfl (fun bq wbq hS=>?_);simp only [NRM];simp only [Value.cells] at hS)|((with_reducible refine g_app ?_);refine seq_append_lit (t:=22) 2 hS underlying22 infoI rfl (by decide) rfl rfl rfl rfl (by simp [Value.oneCell']) (by omega) (by unfold maxLen;omega) (fun ad2 cp2 _ hS=>?_);simp only [NRM];simp only [List.set_cons_succ,List.set_cons_zero] at hS))
   go_roundw
   case rel=>exact⟨j+1,ad2,cp2,by omega,by omega,by rw [hk2.out,hnx],rfl,by rw [hz.out];exact hS.sb⟩
   case measure=>simp only [slLen];omega
  ·obtain rfl:p=j:=by omega
   have hfe:=hfp.out;have q1:((h:Int) != (h:Int))=false:=by simp
   rw [hfe];replace hfe:=Hd hfe;go_wp2;refine bodyPost_ret (results_tmp2 rfl _ _ _) rfl ?_;exact⟨ad,c,by rw [hol.out];rfl,by rw [hol.out];exact hS.sb⟩
end Go.Proofs
namespace Go.Hp
open Go Go.RowKit
def cnt (l:List Nat) (n:Nat):List Int:=(List.range n).map fun k=>((l.count k:Nat):Int)
theorem cnt_nil (n:Nat):cnt [] n=List.replicate n 0:=by
 apply List.ext_getElem <;> simp [cnt]
theorem nth_cnt {l:List Nat} {n k:Nat} (hk:k<n):nth 0 (cnt l n) k=((l.count k:Nat):Int):=by
 simp [nth,cnt,hk]
theorem cnt_add {l:List Nat} {n k:Nat} (hk:k<n):(cnt l n).set k (((l.count k:Nat):Int)+1)=cnt (l++[k]) n:=by
 apply List.ext_getElem
 ·simp [cnt]
 ·intro i h1 h2
  simp only [cnt,List.length_set,List.length_map,List.length_range] at h1;simp only [cnt,List.getElem_set,List.getElem_map,List.getElem_range,List.count_append,List.count_singleton]
  by_cases e:k=i
  ·subst e;simp
  ·simp [e]
def bgn (es:List Ed):Nat→List Nat
 | 0=>[]
 | i+1=>bgn es i++[(nth ed0 es i).a,(nth ed0 es i).b]
theorem bgn_len (es:List Ed):∀ i,(bgn es i).length=2*i
 | 0=>rfl
 | i+1=>by simp [bgn,bgn_len es i];omega
theorem nth_bgn (es:List Ed):∀ i h,h<2*i→nth 0 (bgn es i) h=orgE es h
 | 0,h,hh=>by omega
 | i+1,h,hh=>by
  by_cases hl:h<2*i
  ·rw [← nth_bgn es i h hl]
   simp only [nth,bgn,List.getD_eq_getElem?_getD];rw [List.getElem?_append_left (by rw [bgn_len];exact hl)]
  ·simp only [nth,bgn,List.getD_eq_getElem?_getD]
   rw [List.getElem?_append_right (by rw [bgn_len];omega),bgn_len]
   by_cases e:h=2*i
   ·subst e
    have h1:2*i % 2=0:=by omega
    have h2:2*i / 2=i:=by omega
    simp [orgE,h1,h2,nth]
   ·obtain rfl:h=2*i+1:=by omega
    have h1:(2*i+1) % 2=1:=by omega
    have h2:(2*i+1) / 2=i:=by omega
    have h3:2*i+1 - 2*i=1:=by omega
    simp [orgE,h1,h2,h3,nth]
def prefTo (X:List (List Nat)):Nat→List Nat
 | 0=>[]
 | i+1=>prefTo X i++nth [] X i
theorem prefTo_eq (X:List (List Nat)):∀ i,i≤X.length→prefTo X i=(X.take i).flatten
 | 0,_=>by simp [prefTo]
 | i+1,h=>by
  have hi:i<X.length:=by omega
  rw [prefTo,prefTo_eq X i (by omega),nth_eq _ _ _ hi,List.take_succ_eq_append_getElem hi,List.flatten_append,List.flatten_cons,List.flatten_nil,List.append_nil]
theorem prefTo_all (X:List (List Nat)):prefTo X X.length=X.flatten:=by rw [prefTo_eq X _ (Nat.le_refl _),List.take_length]
theorem mem_prefTo (X:List (List Nat)) (y:Nat):∀ i,y ∈ prefTo X i↔∃ j,j<i∧y ∈ nth [] X j
 | 0=>by simp [prefTo]
 | i+1=>by
  rw [prefTo,List.mem_append,mem_prefTo X y i]
  constructor
  ·rintro (⟨j,a,b⟩|b)
   ·exact⟨j,by omega,b⟩
   ·exact⟨i,by omega,b⟩
  ·rintro⟨j,a,b⟩
   by_cases e:j=i
   ·subst e;exact .inr b
   ·exact .inl ⟨j,by omega,b⟩
def ouL (f:FRec) (i:Nat):List Nat:=if i=0 then [] else [(nth 0 f.O i).toNat]
def lst (f:FRec) (i:Nat):List Nat:=nth [] f.I i++ouL f i
def lstTo (f:FRec):Nat→List Nat
 | 0=>[]
 | i+1=>lstTo f i++lst f i
def ouTo (f:FRec):Nat→List Nat
 | 0=>[]
 | i+1=>ouTo f i++ouL f i
theorem lstTo_count (f:FRec) (y:Nat):∀ i,(lstTo f i).count y=(prefTo f.I i).count y+(ouTo f i).count y
 | 0=>rfl
 | i+1=>by simp only [lstTo,lst,prefTo,ouTo,List.count_append,lstTo_count f y i];omega
theorem mem_ouTo (f:FRec) (y:Nat):∀ i,y ∈ ouTo f i↔∃ j,0<j∧j<i∧(nth 0 f.O j).toNat=y
 | 0=>by simp [ouTo]
 | i+1=>by
  rw [ouTo,List.mem_append,mem_ouTo f y i]
  constructor
  ·rintro (⟨j,a,b,c⟩|b)
   ·exact⟨j,a,by omega,c⟩
   ·unfold ouL at b
    split at b
    ·simp at b
    ·exact⟨i,by omega,by omega,(List.mem_singleton.1 b).symm⟩
  ·rintro⟨j,a,b,c⟩
   by_cases e:j=i
   ·subst e;right;unfold ouL;rw [if_neg (by omega),c];simp
   ·exact .inl ⟨j,a,by omega,c⟩
section
variable {m n:Nat} {org:Nat→Nat} {hasE:Nat→Bool} {f:FRec}
theorem FGood.oon (h:FGood m n org hasE f) {i:Nat} (h0:0<i) (hi:i<f.O.length):∃ q:Nat,nth 0 f.O i=(q:Int)∧(nth 0 f.O i).toNat=q∧q<2*m∧leastF f.N q=q∧nth 0 f.L q=(i:Int)∧∀ j,j<f.O.length→q ∉ nth [] f.I j:=by
 obtain⟨q,a,b⟩:=h.on i h0 hi;exact⟨q,a,by rw [a];rfl,b⟩
theorem FGood.ocount (h:FGood m n org hasE f) (y:Nat):∀ i,i≤f.O.length→(ouTo f i).count y≤1
 | 0,_=>by simp [ouTo]
 | i+1,hi=>by
  have ih:=h.ocount y i (by omega);rw [ouTo,List.count_append];unfold ouL
  split
  ·simpa using ih
  ·rename_i h0
   rw [List.count_singleton]
   split
   ·rename_i e
    have e:(nth 0 f.O i).toNat=y:=by simpa using e
    have:(ouTo f i).count y=0:=by
     rw [List.count_eq_zero];intro hm;obtain⟨j,j0,ji,je⟩:=(mem_ouTo f y i).1 hm;obtain⟨q,_,q2,_,_,q5,_⟩:=h.oon (i:=i) (by omega) (by omega);obtain⟨r,_,r2,_,_,r5,_⟩:=h.oon (i:=j) j0 (by omega);obtain rfl:q=y:=by omega
     obtain rfl:r=q:=by omega
     rw [q5] at r5;omega
    omega
   ·omega
theorem FGood.lmem (h:FGood m n org hasE f) {i y:Nat} (hi:i<f.O.length) (hy:y ∈ lst f i):y<2*m∧leastF f.N y=y∧nth 0 f.L y=(i:Int):=by
 unfold lst at hy
 rcases List.mem_append.1 hy with hy|hy
 ·exact h.im i hi y hy
 ·unfold ouL at hy
  split at hy
  ·simp at hy
  ·obtain⟨q,_,q2,q3,q4,q5,_⟩:=h.oon (i:=i) (by omega) hi
   have:=List.mem_singleton.1 hy;obtain rfl:y=q:=by omega
   exact⟨q3,q4,q5⟩
theorem FGood.once (h:FGood m n org hasE f) {y:Nat} (hy:y<2*m):(lstTo f f.O.length).count y=if leastF f.N y=y then 1 else 0:=by
 have e0:prefTo f.I f.O.length=f.I.flatten:=by rw [← h.ilen];exact prefTo_all f.I
 have h1:(prefTo f.I f.O.length).count y≤1:=by rw [e0];exact h.icount y
 have h2:=h.ocount y _ (Nat.le_refl _)
 have m1:y ∈ prefTo f.I f.O.length→leastF f.N y=y:=fun hm=>by
  obtain⟨j,a,b⟩:=(mem_prefTo f.I y _).1 hm;exact (h.im j a y b).2.1
 have m2:y ∈ ouTo f f.O.length→leastF f.N y=y∧y ∉ prefTo f.I f.O.length:=fun hm=>by
  obtain⟨j,j0,ji,je⟩:=(mem_ouTo f y _).1 hm;obtain⟨q,_,q2,q3,q4,q5,q6⟩:=h.oon j0 ji;obtain rfl:q=y:=by omega
  refine⟨q4,fun hm2=>?_⟩;obtain⟨k,a,b⟩:=(mem_prefTo f.I q _).1 hm2;exact q6 k a b
 rw [lstTo_count]
 split
 ·rename_i hl
  rcases h.named y hy hl with ⟨i,i0,ii,ie⟩|⟨i,ii,ie⟩
  ·have hm:y ∈ ouTo f f.O.length:=(mem_ouTo f y _).2 ⟨i,i0,ii,by rw [ie];rfl⟩
   have a:=List.count_eq_zero.2 (m2 hm).2;have b:=List.count_pos_iff.2 hm;omega
  ·have hm:y ∈ prefTo f.I f.O.length:=(mem_prefTo f.I y _).2 ⟨i,ii,ie⟩
   have a:(ouTo f f.O.length).count y=0:=List.count_eq_zero.2 fun h=>(m2 h).2 hm
   have b:=List.count_pos_iff.2 hm;omega
 ·rename_i hl
  have a:=List.count_eq_zero.2 fun h=>hl (m1 h)
  have b:=List.count_eq_zero.2 fun h=>hl (m2 h).1
  omega
theorem lstTo_mono (f:FRec) (y:Nat) {i:Nat}:∀ j,(lstTo f i).count y≤(lstTo f (i+j)).count y
 | 0=>Nat.le_refl _
 | j+1=>Nat.le_trans (lstTo_mono f y j) (by rw [← Nat.add_assoc,lstTo,List.count_append];omega)
theorem prefTo_mono (X:List (List Nat)) (y:Nat) {i:Nat}:∀ j,(prefTo X i).count y≤(prefTo X (i+j)).count y
 | 0=>Nat.le_refl _
 | j+1=>Nat.le_trans (prefTo_mono X y j) (by rw [← Nat.add_assoc,prefTo,List.count_append];omega)
theorem FGood.nle (h:FGood m n org hasE f) {i y:Nat} (k:Nat) (hi:i<f.O.length) (hy:y<2*m):(lstTo f i++(lst f i).take k).count y≤1:=by
 have h1:=h.once hy;have h2:=lstTo_mono f y (i:=i+1) (f.O.length - (i+1));have h3:=(List.take_sublist k (lst f i)).count_le y;rw [show i+1+(f.O.length - (i+1))=f.O.length by omega,h1,lstTo,List.count_append] at h2;rw [List.count_append]
 split at h2 <;> omega
theorem FGood.ale (h:FGood m n org hasE f) {i u:Nat} (k:Nat) (hi:i<f.O.length) (hu:u<n) (ho:(prefTo f.A f.O.length).count u=if hasE u=true then 0 else 1):(prefTo f.A i++(nth [] f.A i).take k).count u≤1:=by
 have h2:=prefTo_mono f.A u (i:=i+1) (f.O.length - (i+1));have h3:=(List.take_sublist k (nth [] f.A i)).count_le u;rw [show i+1+(f.O.length - (i+1))=f.O.length by omega,ho,prefTo,List.count_append] at h2;rw [List.count_append]
 split at h2 <;> omega
theorem FGood.aonce (h:FGood m n org hasE f) {u:Nat} (hu:u<n):(prefTo f.A f.O.length).count u=if hasE u=true then 0 else 1:=by
 have e0:prefTo f.A f.O.length=f.A.flatten:=by rw [← h.alen];exact prefTo_all f.A
 rw [e0];exact h.acount u hu
end
theorem IsPerm.count {N:List Nat} (h:IsPerm N) {k:Nat} (hk:k<N.length):N.count k=1:=by
 have hd:N.Nodup:=by
  rw [List.nodup_iff_pairwise_ne,List.pairwise_iff_getElem];intro i j hi hj hij e;have:=h.inj i j hi hj (by rw [nth_eq _ _ _ hi,nth_eq _ _ _ hj];exact e);omega
 have hm:k ∈ N:=by
  have h1:=orb_self h hk;obtain⟨p,hp,he⟩:=period_ex h hk;have:nth 0 N (it N p k)=k:=he;rw [← this];exact nth_mem 0 N _ (it_lt h hk p)
 rw [List.Nodup.count hd,if_pos hm]
def minTo (l:List Nat) (h k:Nat):Nat:=(l.take k).foldl min h
theorem minTo_succ {l:List Nat} {h k:Nat} (hk:k<l.length):minTo l h (k+1)=min (minTo l h k) (nth 0 l k):=by
 unfold minTo;rw [nth_eq _ _ _ hk,List.take_succ_eq_append_getElem hk,List.foldl_append];rfl
theorem minTo_all (N:List Nat) (h:Nat):minTo (orb N h) h (orb N h).length=leastF N h:=by
 unfold minTo leastF;rw [List.take_length]
theorem minTo_le (l:List Nat) (h k:Nat):minTo l h k≤h:=(foldl_min_le (l.take k) h).1
theorem Nats.mk8 {w:World} {S:Nat→Prop} {v:Value} {n:Nat} {is:List Nat} (h:SlC w S 1 v n (iv (zs is))) (hi:∀ x ∈ is,x≤1000000):Nats w S v is:=by
 have hn:n=is.length:=by have:=h.1;simp [iv,zs] at this;omega
 subst hn;refine⟨by rw [show (zs is).length=is.length by simp [zs]];exact h,fun x hx=>?_⟩;obtain⟨y,hy,rfl⟩:∃ y:Nat,y ∈ is∧((y:Nat):Int)=x:=by simpa [zs] using hx
 have:=hi y hy;unfold InI;omega
end Go.Hp
