/- Texts for the walk of the law: FP FK KH KI KJ. -/
import Derived.Test.YtihpoboahbpaiaaGreatQ33
set_option maxRecDepth 100000
set_option maxHeartbeats 16000000
set_option linter.unusedVariables false
set_option linter.unusedSimpArgs false
namespace Go.Hp
open Go.Proofs.Tryz
open Go Go.RowKit
def paintTo (N:List Nat) (h:Nat) (L:List Int) (f:Int) (j:Nat):List Int:=setAll L ((List.range j).map fun j=>it N j h) f
def leastTo (N:List Nat) (h j:Nat):Nat:=((List.range j).map fun j=>it N j h).foldl min h
theorem paintTo_succ (N:List Nat) (h:Nat) (L:List Int) (f:Int) (j:Nat):paintTo N h L f (j+1)=(paintTo N h L f j).set (it N j h) f:=by
 unfold paintTo setAll;rw [List.range_succ,List.map_append,List.foldl_append]
 rfl
theorem leastTo_succ (N:List Nat) (h j:Nat):leastTo N h (j+1)=min (leastTo N h j) (it N j h):=by
 unfold leastTo;rw [List.range_succ,List.map_append,List.foldl_append]
 rfl
theorem paintTo_length (N:List Nat) (h:Nat) (L:List Int) (f:Int) (j:Nat):(paintTo N h L f j).length=L.length:=setAll_length _ _ _
theorem leastTo_le (N:List Nat) (h j:Nat):leastTo N h j≤h:=(foldl_min_le _ _).1
def idxM (f:Nat→Nat) (p x:Nat):Nat:=((List.range p).find? (fun j=>f j == x)).getD p
theorem idxM_eq {f:Nat→Nat} {p:Nat} (hi:∀ i j,i<j→j<p→f i≠f j) {j:Nat} (hj:j<p):idxM f p (f j)=j:=by
 unfold idxM;cases hf:(List.range p).find? (fun i=>f i == f j) with
 | none =>
  have:=List.find?_eq_none.1 hf j (by simpa using hj);simp at this
 | some q =>
  have h1:=List.find?_some hf;have h2:=List.mem_of_find?_eq_some hf;simp only [beq_iff_eq] at h1;rw [List.mem_range] at h2;simp only [Option.getD_some]
  rcases Nat.lt_trichotomy q j with h|h|h
  ·exact absurd h1 (hi q j h hj)
  ·exact h
  ·exact absurd h1.symm (hi j q h h2)
theorem it_apart {N:List Nat} (hp:IsPerm N) {h:Nat} (hh:h<N.length) {i j:Nat} (hij:i<j) (hj:j<per N h):it N i h≠it N j h:=by
 intro e;obtain⟨p0,p1,p2,p3⟩:=per_spec hp hh;have e1:j=(j - i)+i:=by omega
 rw [e1,it_add] at e;have:=it_inj hp hh (it_lt hp hh (j - i)) i e;exact p3 (j - i) (by omega) (by omega) this.symm
end Go.Hp
namespace Go.Proofs
open Go.Proofs.Tryz
open Go.RowKit Go.Hp
theorem paint_any {N:List Nat} (hp:IsPerm N) {h:Nat} (hh:h<N.length) (hle:N.length≤1000000) (L:List Int) (face:Int) (bf b4 g cl cn:Nat) (an:Option Addr) (v3 v4 v5:Value) (w:World) (S:Nat→Prop) (hNx:Nats w S (.slice an N.length cn) N) (hLl:L.length=N.length)
 (hS:Heap w w [.frz S w,.blk bf (.cells #[.slice an N.length cn,.slice (some ⟨g,0,none⟩) L.length cl,v3,v4,v5] 37 (0,0)),.blk b4 (.cells #[.slice an N.length cn] 22 (0,0)),.row (.slice (some ⟨g,0,none⟩) L.length cl) 3 1 L.length (iv L)]) :
 Calls Tryz.prog 83 #[.int .i64 (h:Int),.int .i64 face,.pointer (some ⟨bf,0,none⟩),.pointer (some ⟨b4,0,none⟩)] w fun e w'=>e=.returned (.int .i64 (leastF N h:Int))∧Heap w w' [.frz S w,.blk bf (.cells #[.slice an N.length cn,.slice (some ⟨g,0,none⟩) L.length cl,v3,v4,v5] 37 (0,0)),.blk b4 (.cells #[.slice an N.length cn] 22 (0,0)),.row (.slice (some ⟨g,0,none⟩) L.length cl) 3 1 L.length (iv (setAll L (orb N h) face))]:=by
 obtain⟨p0,p1,p2,p3⟩:=per_spec hp hh;have e1:leastF N h=leastTo N h (per N h):=rfl;have e2:setAll L (orb N h) face=paintTo N h L face (per N h):=rfl;rw [e1,e2];clear e1 e2;have hlt:=fun j=>it_lt hp hh j
 have hap:=fun i j (a:i<j) b=>it_apart hp hh a b
 obtain⟨p,hpe⟩:∃ p,per N h=p:=⟨_,rfl⟩;rw [hpe] at p0 p1 p2 p3;rw [hpe] at hap;rw [hpe];obtain⟨f,hff⟩:∃ f:Nat→Nat,f=fun j=>it N j h:=⟨_,rfl⟩
 obtain⟨P,hPP⟩:∃ P:Nat→List Int,P=paintTo N h L face:=⟨_,rfl⟩;obtain⟨M,hMM⟩:∃ M:Nat→Nat,M=leastTo N h:=⟨_,rfl⟩;have hf0:f 0=h:=by rw [hff];rfl
 have hfs:∀ j,nth 0 N (f j)=f (j+1):=fun j=>by rw [hff];rfl
 have hfl:∀ j,f j<N.length:=fun j=>by rw [hff];exact hlt j
 have hfp:f p=h:=by rw [hff];exact p2
 have hfn:∀ j,0<j→j<p→f j≠h:=fun j a b=>by rw [hff];exact p3 j a b
 have hfi:∀ i j,i<j→j<p→f i≠f j:=fun i j a b=>by rw [hff];exact hap i j a b
 have hix:∀ j,j<p→idxM f p (f j)=j:=fun j hj=>idxM_eq hfi hj
 have hPs:∀ j,P (j+1)=(P j).set (f j) face:=fun j=>by rw [hPP,hff];exact paintTo_succ N h L face j
 have hPl:∀ j,(P j).length=L.length:=fun j=>by rw [hPP];exact paintTo_length N h L face j
 have hP0:P 0=L:=by rw [hPP];rfl
 have hMs:∀ j,M (j+1)=min (M j) (f j):=fun j=>by rw [hMM,hff];exact leastTo_succ N h j
 have hM0:M 0=h:=by rw [hMM];rfl
 have hMl:∀ j,M j≤h:=fun j=>by rw [hMM];exact leastTo_le N h j
 rw [← hPP,← hMM];clear hff hPP hMM hlt p2 p3 hpe hp hap hfi;obtain⟨n,hn⟩:∃ n,N.length=n:=⟨_,rfl⟩;rw [hn] at hle hh p1 hfl hLl hNx hS;rw [hLl] at hS hPl;rw [hn,hLl];clear hLl hn;rw [← hP0] at hS;replace hP0:=Hd hP0;replace hM0:=Hd hM0;replace hPs:=Hd hPs;replace hMs:=Hd hMs;replace hf0:=Hd hf0;replace hix:=Hd hix;replace hfs:=Hd hfs;replace hfp:=Hd hfp;replace hfn:=Hd hfn;replace hfl:=Hd hfl;replace hPl:=Hd hPl;replace hMl:=Hd hMl
 go_enter func83,ntmps83
 go_wp2
 go_loopw [7,8] (fun v7 v8 wr=>∃ j:Nat,j<p∧v7=.int .i64 (M j:Int)∧v8=.int .i64 (f j:Int)∧Heap w wr [.frz S w,.blk bf (.cells #[.slice an n cn,.slice (some ⟨g,0,none⟩) n cl,v3,v4,v5] 37 (0,0)),.blk b4 (.cells #[.slice an n cn] 22 (0,0)),.row (.slice (some ⟨g,0,none⟩) n cl) 3 1 n (iv (P j))]) (fun _ v8 _=>p - idxM f p (intOf v8).toNat)
 case atStart=>exact⟨0,p0,by rw [hM0.out],by rw [hf0.out],hS⟩
 case round =>
  clear hS;obtain⟨j,hjp,rfl,rfl,hS⟩:=hrel;have hk:=hfl.out j;have hk2:=hfl.out (j+1);have hst:=Hd (hPs.out j);have hms:=Hd (hMs.out j);have hnx:=Hd (hfs.out j);have hpl:=hPl.out j;have hml:=hMl.out j;have hij:=Hd (hix.out j hjp);obtain⟨k,hkk⟩:∃ k,f j=k:=⟨_,rfl⟩;rw [hkk] at hk hst hms hnx hij;rw [hkk];obtain⟨m,hmm⟩:∃ m,M j=m:=⟨_,rfl⟩;rw [hmm] at hms hml;rw [hmm];obtain⟨Q,hQQ⟩:∃ Q,P j=Q:=⟨_,rfl⟩;rw [hQQ] at hst hpl hS;obtain⟨k2,hk2e⟩:∃ k2,f (j+1)=k2:=⟨_,rfl⟩;rw [hk2e] at hnx hk2;clear hkk hmm hQQ;obtain⟨m2,hm2⟩:∃ m2,M (j+1)=m2:=⟨_,rfl⟩;rw [hm2] at hms
  by_cases hend:j+1=p
  ·have hfe:k2=h:=by rw [← hk2e,hend];exact hfp.out
   rw [hend] at hm2 hst;clear hk2e hend;subst hfe;replace hm2:=Hd hm2;have hnx:=hnx.out;have hQ:((k2:Int) == (k2:Int))=true:=by simp
   by_cases hkm:k<m
   ·have hmk:m2=k:=by have:=hms.out;omega
    clear hms;subst hmk;have hmn:min (m:Int) (m2:Int)=(m2:Int):=by omega
    go_wp2_with (with_reducible first|refine ldB 1 hS isAgg22 ?_|refine ixS underlying22 sizeOf3 ?_|refine stR 3 hS sizeOf3 fun _ hS=>?_|refine ldB 2 hS isAgg22 ?_|refine ixN underlying22 sizeOf3 fun _ _ _=>?_|refine ld0 hS isAgg3 ?_)
    go_ret;exact⟨by rw [hm2.out];rfl,by rw [hst.out];exact hS⟩
   ·have hmk:m2=m:=by have:=hms.out;omega
    clear hms;subst hmk;have hmn:min (m2:Int) (k:Int)=(m2:Int):=by omega
    go_wp2_with (with_reducible first|refine ldB 1 hS isAgg22 ?_|refine ixS underlying22 sizeOf3 ?_|refine stR 3 hS sizeOf3 fun _ hS=>?_|refine ldB 2 hS isAgg22 ?_|refine ixN underlying22 sizeOf3 fun _ _ _=>?_|refine ld0 hS isAgg3 ?_)
    go_ret;exact⟨by rw [hm2.out];rfl,by rw [hst.out];exact hS⟩
  ·have hfe:k2≠h:=by rw [← hk2e];exact hfn.out (j+1) (by omega) (by omega)
   have hQ:((k2:Int) == (h:Int))=false:=by simp;omega
   have hix2:=Hd (hix.out (j+1) (by omega));rw [hk2e] at hix2;replace hk2e:=Hd hk2e;replace hm2:=Hd hm2;have hnx:=hnx.out
   by_cases hkm:k<m
   ·have hmk:m2=k:=by have:=hms.out;omega
    clear hms;subst hmk;have hmn:min (m:Int) (m2:Int)=(m2:Int):=by omega
    go_wp2_with (with_reducible first|refine ldB 1 hS isAgg22 ?_|refine ixS underlying22 sizeOf3 ?_|refine stR 3 hS sizeOf3 fun _ hS=>?_|refine ldB 2 hS isAgg22 ?_|refine ixN underlying22 sizeOf3 fun _ _ _=>?_|refine ld0 hS isAgg3 ?_)
    go_roundw
    case rel=>exact⟨j+1,by omega,by rw [hm2.out],by rw [hk2e.out,hnx],by rw [hst.out];exact hS⟩
    case measure=>simp only [intOf,Int.toNat_natCast];rw [hnx,hix2.out,hij.out];omega
   ·have hmk:m2=m:=by have:=hms.out;omega
    clear hms;subst hmk;have hmn:min (m2:Int) (k:Int)=(m2:Int):=by omega
    go_wp2_with (with_reducible first|refine ldB 1 hS isAgg22 ?_|refine ixS underlying22 sizeOf3 ?_|refine stR 3 hS sizeOf3 fun _ hS=>?_|refine ldB 2 hS isAgg22 ?_|refine ixN underlying22 sizeOf3 fun _ _ _=>?_|refine ld0 hS isAgg3 ?_)
    go_roundw
    case rel=>exact⟨j+1,by omega,by rw [hm2.out],by rw [hk2e.out,hnx],by rw [hst.out];exact hS⟩
    case measure=>simp only [intOf,Int.toNat_natCast];rw [hnx,hix2.out,hij.out];omega
end Go.Proofs
namespace Go.Hp.G
open Go Go.RowKit Go.Hp
section
variable {P:Program} {ops:Array Oper} {Q:Exit→Act→World→Prop} {C:World→Prop}
theorem run_lit {T E:TypeId} {k len:Nat} {z:Value} {parts:Array (Nat × Operand)} {cells:Array Value} {t:Tmp} {ty:TypeId} {pos:String} {aft:Array Edge} (hu:P.underlying T=some (.slice E)) (hsz:∀ w,(sizeOf E).run P w=.ok k w) (hz:∀ w,(zeroValue E).run P w=.ok z w)
 (hl:len*k≤16777216) (h0:0<len*k) (a:Act) (hf:Instr.fill (fun i=>some (i*k,k)) ((Array.range (len*k)).map (z.cells[· % z.cells.size]!)) (parts.toList.map fun p=>(p.1,a.eval p.2))=some cells) (w:World) :
 (execOp a.eval ⟨some t,.buildSlice T len parts,ty,pos,aft,none⟩).run P w=.ok (.value (.slice (some ⟨w.heap.size,0,none⟩) len len)) (w.alloc (.cells cells E (0,0))):=by
 generalize a.eval=ρ at hf;have h1:¬ (16777216<len*k):=by omega
 have h2:¬ (len*k=0):=by omega
 have h3:Array.toList (Array.map (fun x:Nat × Operand=>(x.1,ρ x.2)) parts)=parts.toList.map fun p=>(p.1,ρ p.2):=by simp
 simp only [execOp,Instr.buildSlice,Sem.run_bind,run_underlying hu,hsz,Result.andThen_ok,gt_iff_lt,Nat.reducePow,h1,if_false,h2,hz,Sem.run_pure,h3,hf]
 rfl
theorem pre_nil1 {J:List Chunk→World→Prop} {E:Act→World→Prop} {a:Act} {p:Box} (h:∀ b w,J [.blk b p.o] w→E (a.put (some p.t) (p.v b)) w):wpPre P ops Q C [p] E [] a J:=by
 intro L w hL hJ
 match L,hL,hJ with
 | [(q,b)],hL,hJ =>
  simp only [List.map_cons,List.map_nil,List.cons.injEq,and_true] at hL;subst hL;exact h b w hJ
end
end Go.Hp.G
namespace Go.Hp.G
open Go Go.RowKit Go.Hp
section
variable {P:Program} {ops:Array Oper} {Q:Exit→Act→World→Prop} {md:Region.Mode} {C:World→Prop} {M:List Nat}
def wpPre1 (P:Program) (ops:Array Oper) (Q:Exit→Act→World→Prop) (C:World→Prop) (End:Act→(List Chunk→World→Prop)→Prop):List Mv→Act→(List Chunk→World→Prop)→Prop
 | [],a,J=>End a J
 | .p i::s,a,J=>∃ o v,ops[i]? = some o∧YieldsIf P ops (fun _=>True) o v a∧wpPre1 P ops Q C End s (a.put o.dst v) J
 | .r i::s,a,J=>∃ o v,ops[i]? = some o∧YieldsIf P ops C o v a∧wpPre1 P ops Q C End s (a.put o.dst v) J
 | .e i::s,a,J=>∀ B w,J B w→wpOp P ops (NoPanic Q) i (fun a' w'=>∃ J',J' B w'∧Stable J'∧(∀ B w,J' B w→C w)∧wpPre1 P ops Q C End s a' J') a w
 | .m i::s,a,J=>False
def boxOk1 (md:Region.Mode) (ops:Array Oper) (M:List Nat) (A1 A:List Box) (chk:Array Bool→Array Bool→Bool):List Mv→Array Bool→Array Bool→Bool
 | [],l0,lA=>(A1.all fun p=>Region.ready md ops (lA.setIfInBounds p.i false) == [p.i]) && chk l0 lA
 | .p i::s,l0,lA=>(Region.ready md ops lA).contains i && noBox md ops A i && Region.free md ops l0 i && !M.contains i && looksOk ops A i && boxOk1 md ops M A1 A chk s (l0.setIfInBounds i true) (lA.setIfInBounds i true)
 | .r i::s,l0,lA=>(Region.ready md ops lA).contains i && noBox md ops A i && Region.free md ops l0 i && !M.contains i && (M.all fun m=>(anc md ops ops.size m).contains i) && looksOk ops A i && boxOk1 md ops M A1 A chk s (l0.setIfInBounds i true) (lA.setIfInBounds i true)
 | .e i::s,l0,lA=>(Region.ready md ops lA == [i]) && noBox md ops A i && !M.contains i && looksOk ops A i && boxOk1 md ops M A1 A chk s (l0.setIfInBounds i true) (lA.setIfInBounds i true)
 | .m _::_,_,_=>false
theorem wpG_of_box1 {A A1:List Box} {chk:Array Bool→Array Bool→Bool} {k:Nat} {End:Act→(List Chunk→World→Prop)→Prop} (hA:BoxesOk P ops A) (hsel:Region.noSelect ops=true)
 (hfin:∀ (listed l0 lA:Array Bool) (pend:List Box) (L:List (Box × Nat)) (a:Act) (w:World) (J:List Chunk→World→Prop),(∀ p ∈ pend,p ∉ A1)→chk l0 lA=true→boxesFree md ops M A lA=true→Up A listed l0 lA (L.map (·.1.i))→Closed md ops listed→(L.map (·.1)++pend).Perm A→J (L.map Box.blk) w→Stable J→(∀ B w,J B w→C w)→End a J→wpG P md ops (NoPanic Q) M C (pend.length+k) listed (over a L) w):∀ (n:Nat) (s1:List Mv) (listed l0 lA:Array Bool) (pend:List Box) (L:List (Box × Nat)) (a:Act) (w:World) (J:List Chunk→World→Prop),
 n=s1.length+pend.length→boxOk1 md ops M A1 A chk s1 l0 lA=true→boxesFree md ops M A lA=true→Up A listed l0 lA (L.map (·.1.i))→Closed md ops listed→(L.map (·.1)++pend).Perm A→J (L.map Box.blk) w→Stable J→(∀ B w,J B w→C w) →
 wpPre1 P ops Q C End s1 a J→wpG P md ops (NoPanic Q) M C (n+k) listed (over a L) w:=by
 have hQ:∀ c a w,¬ NoPanic Q (.panic c) a w:=fun _ _ _ h=>h
 intro n
 induction n with
 | zero =>
  intro s1 listed l0 lA pend L a w J hn hok hbf hup hcl hL hJ hst hJC hpre;have e1:s1=[]:=List.length_eq_zero_iff.1 (by omega);have e2:pend=[]:=List.length_eq_zero_iff.1 (by omega);subst e1 e2;simp only [boxOk1,Bool.and_eq_true] at hok;have:=hfin listed l0 lA [] L a w J (by simp) hok.2 hbf hup hcl hL hJ hst hJC hpre
  simpa using this
 | succ n ih =>
  have lay:∀ (s1:List Mv) (listed l0 lA:Array Bool) (pend:List Box) (L:List (Box × Nat)) (a:Act) (w:World) (J:List Chunk→World→Prop) (p:Box),p ∈ pend→p.i ∈ Region.ready md ops listed →
   boxOk1 md ops M A1 A chk s1 l0 lA=true→boxesFree md ops M A lA=true→Up A listed l0 lA (L.map (·.1.i))→Closed md ops listed→(L.map (·.1)++pend).Perm A→J (L.map Box.blk) w→Stable J→(∀ B w,J B w→C w) →
   wpPre1 P ops Q C End s1 a J→n+1=s1.length+pend.length →
   wpOp P ops (NoPanic Q) p.i (fun a' w'=>Keeps M C (listed.setIfInBounds p.i true) w'∧wpG P md ops (NoPanic Q) M C (n+k) (listed.setIfInBounds p.i true) a' w') (over a L) w:=by
   intro s1 listed l0 lA pend L a w J p hp hr hok hbf hup hcl hL hJ hst hJC hpre hk;have hpA:p ∈ A:=hL.subset (List.mem_append_right _ hp);obtain⟨o,ho,hod,hog,hor⟩:=hA.op p hpA
   have hni:(pend.map (·.i)).Nodup:=by
    have h1:((L.map (·.1)++pend).map (·.i)).Nodup:=((hL.map _).nodup_iff).2 hA.i;rw [List.map_append] at h1;exact (List.nodup_append.1 h1).2.1
   have hft:=filter_take hp hni
   have hJ':J ((L++[(p,w.heap.size)]).map Box.blk) (w.alloc p.o):=by
    rw [List.map_append];exact hst.alloc _ _ _ hJ
   refine wpOp_box ho hod hog (hor _ _) ⟨fun _=>hJC _ _ hJ',?_⟩
   have hlen:(pend.filter fun q=>q.i != p.i).length+1=pend.length:=by
    have:=hft.length_eq
    simpa using this
   have:=ih s1 (listed.setIfInBounds p.i true) l0 lA (pend.filter fun q=>q.i != p.i) (L++[(p,w.heap.size)]) a _ J (by omega) hok hbf (by rw [List.map_append];exact hup.box hpA) (hcl.set hr) (by
    rw [List.map_append];simp only [List.map_cons,List.map_nil,List.append_assoc,List.cons_append,List.nil_append];refine List.Perm.trans (List.Perm.append_left _ ?_) hL;exact (List.perm_append_comm (l₁:=[p]) (l₂:=pend.filter fun q=>q.i != p.i)).trans hft) hJ' hst hJC hpre
   rw [over_snoc] at this;exact this
  intro s1 listed l0 lA pend L a w J hn hok hbf hup hcl hL hJ hst hJC hpre;rw [show n+1+k=(n+k)+1 by omega];have hbf':=hbf;simp only [boxesFree,List.all_eq_true,Bool.and_eq_true,Bool.not_eq_true',decide_eq_true_eq] at hbf'
  have bready:∀ p ∈ pend,p.i ∈ Region.ready md ops listed:=fun p hp=>by
   have hpA:p ∈ A:=hL.subset (List.mem_append_right _ hp);obtain⟨o,ho,hod,hog,hor⟩:=hA.op p hpA;obtain⟨⟨h1,h2⟩,h3⟩:=hbf' p hpA;simp only [ho,List.all_eq_true,Bool.not_eq_true'] at h3;refine mem_ready.2 ⟨?_,_,ho,fun e he hb=>?_⟩
   ·cases hc:listed.getD p.i true with
    | false=>rfl
    | true =>
     have hnd:((L.map (·.1)++pend).map (·.i)).Nodup:=((hL.map _).nodup_iff).2 hA.i;rw [List.map_append] at hnd
     rcases (hup.up p.i).1 hc with h4|h4
     ·rw [hup.no0 p hpA] at h4;cases h4
     ·exact absurd rfl ((List.nodup_append.1 hnd).2.2 p.i (by simpa [List.map_map,Function.comp_def] using h4) p.i (List.mem_map.2 ⟨p,hp,rfl⟩))
   ·have:=h3 e (by simpa using he);rw [hb] at this;cases this
  have bpend:∀ p ∈ A,p.i ∈ Region.ready md ops listed→p ∈ pend:=fun p hpA hr=>by
   rcases List.mem_append.1 (hL.symm.subset hpA) with h1|h1
   ·exfalso
    obtain⟨q,hq,rfl⟩:=List.mem_map.1 h1;have h2:=(hup.up q.1.i).2 (.inr (List.mem_map.2 ⟨q,hq,rfl⟩));have h3:=(mem_ready.1 hr).1;rw [h2] at h3;cases h3
   ·exact h1
  have noBoxI:∀ {i:Nat} {o:Oper},ops[i]? = some o→looksOk ops A i=true→∀ p ∈ A,p.i≠i:=fun ho hlk p hp e=>by
   subst e;obtain⟨o2,ho',hod,hog,hor⟩:=hA.op p hp;obtain rfl:=Option.some.inj (ho.symm.trans ho');exact (looksOk_spec ho hlk p hp).2 hod
  cases s1 with
  | nil =>
   by_cases hp1:∃ p ∈ pend,p ∈ A1
   ·obtain⟨p0,hp0p,hp01⟩:=hp1
    have hok':=hok;simp only [boxOk1,Bool.and_eq_true,List.all_eq_true,beq_iff_eq] at hok';refine⟨fun h0=>?_,fun j hj=>?_⟩
    ·have:=bready p0 hp0p;rw [h0] at this;cases this
    ·by_cases hb:∃ p ∈ A,p.i=j
     ·obtain⟨p,hp,rfl⟩:=hb
      exact lay [] listed l0 lA pend L a w J p (bpend p hp hj) hj hok hbf hup hcl hL hJ hst hJC hpre hn
     ·exfalso
      have h1:=hup.readyB hj (fun p hp e=>hb ⟨p,hp,e⟩) (mem_ready.1 (bready p0 hp0p)).1;rw [hok'.1 p0 hp01,List.mem_singleton] at h1;exact hb ⟨p0,hL.subset (List.mem_append_right _ hp0p),h1.symm⟩
   ·have hok':=hok
    simp only [boxOk1,Bool.and_eq_true] at hok';have:=hfin listed l0 lA pend L a w J (fun p hp h=>hp1 ⟨p,hp,h⟩) hok'.2 hbf hup hcl hL hJ hst hJC hpre;rw [show n+k+1=pend.length+k by simp at hn;omega];exact this
  | cons m s1 =>
   have hLA:∀ p ∈ L,p.1 ∈ A:=fun p hp=>hL.subset (List.mem_append_left _ (List.mem_map.2 ⟨p,hp,rfl⟩))
   cases m with
   | m i=>exact hpre.elim
   | p i =>
    simp only [boxOk1,Bool.and_eq_true,Bool.not_eq_true'] at hok;obtain⟨⟨⟨⟨⟨h1,h6⟩,h2⟩,h3⟩,h4⟩,h5⟩:=hok;have hiM:i ∉ M:=by simpa using h3
    have hr:i ∈ Region.ready md ops listed:=hup.ready (by simpa using h1) h6;obtain⟨o,v,ho,hy,hpre⟩:=hpre;have hlk:=looksOk_spec ho h4;have hnext:=ih s1 (listed.setIfInBounds i true) (l0.setIfInBounds i true) (lA.setIfInBounds i true) pend L (a.put o.dst v) w J (by simp at hn;omega) h5 (by simpa [boxesFree] using hbf) (hup.move i (noBoxI ho h4)) (hcl.set hr) hL hJ hst hJC hpre;rw [← over_put a o.dst v L (fun p hp=>(hlk _ (hLA p hp)).2)] at hnext;exact wpG.first (S:=fun _=>True) ho (Region.noSelect_spec hsel) hQ hiM (fun _ _ _ _ _=>trivial) _ listed _ w hcl (fun _=>hJC _ _ hJ) (free_of ho h2 (fun j hj=>hup.false0 hj)) hr (yields_overs (fun cs b=>Region.noSelect_spec hsel i o cs b ho) L (fun p hp=>(hlk _ (hLA p hp)).1) hy) hnext
   | r i =>
    simp only [boxOk1,Bool.and_eq_true,Bool.not_eq_true'] at hok;obtain⟨⟨⟨⟨⟨⟨h1,h7⟩,h2⟩,h3⟩,h6⟩,h4⟩,h5⟩:=hok;have hiM:i ∉ M:=by simpa using h3
    have hr:i ∈ Region.ready md ops listed:=hup.ready (by simpa using h1) h7;obtain⟨o,v,ho,hy,hpre⟩:=hpre;have hlk:=looksOk_spec ho h4;have hnext:=ih s1 (listed.setIfInBounds i true) (l0.setIfInBounds i true) (lA.setIfInBounds i true) pend L (a.put o.dst v) w J (by simp at hn;omega) h5 (by simpa [boxesFree] using hbf) (hup.move i (noBoxI ho h4)) (hcl.set hr) hL hJ hst hJC hpre;rw [← over_put a o.dst v L (fun p hp=>(hlk _ (hLA p hp)).2)] at hnext
    have hSG:∀ (listed:Array Bool) (w:World),Closed md ops listed→listed.getD i true=false→Keeps M C listed w→C w:=by
     intro l' w' hc hu hkk;refine hkk fun m hmM=>?_
     cases hl:l'.getD m false with
     | false=>rfl
     | true =>
      have h7:=List.all_eq_true.1 h6 m hmM;have h8:i ∈ anc md ops ops.size m:=by simpa using h7
      have h9:=hc.anc _ m hl i h8;rw [unlisted_of hu] at h9;cases h9
    exact wpG.first (S:=C) ho (Region.noSelect_spec hsel) hQ hiM hSG _ listed _ w hcl (fun _=>hJC _ _ hJ) (free_of ho h2 (fun j hj=>hup.false0 hj)) hr (yields_overs (fun cs b=>Region.noSelect_spec hsel i o cs b ho) L (fun p hp=>(hlk _ (hLA p hp)).1) hy) hnext
   | e i =>
    have hok0:=hok;simp only [boxOk1,Bool.and_eq_true,Bool.not_eq_true',beq_iff_eq] at hok;obtain⟨⟨⟨⟨h1,h6⟩,h3⟩,h4⟩,h5⟩:=hok;have hr:i ∈ Region.ready md ops listed:=hup.ready (by rw [h1];simp) h6;refine⟨fun h0=>(by rw [h0] at hr;cases hr),fun j hj=>?_⟩
    by_cases hb:∃ p ∈ A,p.i=j
    ·obtain⟨p,hp,rfl⟩:=hb
     exact lay (.e i::s1) listed l0 lA pend L a w J p (bpend p hp hj) hj hok0 hbf hup hcl hL hJ hst hJC hpre hn
    ·have h2:=hup.readyA hj (fun p hp e=>hb ⟨p,hp,e⟩)
     rw [h1,List.mem_singleton] at h2;subst h2;obtain⟨_,o,ho,_⟩:=mem_ready.1 hj;have hlk:=looksOk_spec ho h4;refine wpOp_overs ho (fun cs b=>Region.noSelect_spec hsel j o cs b ho) hQ L (fun p hp=>hlk _ (hLA p hp)) (hpre _ w hJ) ?_;intro a' w' ⟨J',hJ',hst',hJC',hpre'⟩;exact⟨fun _=>hJC' _ _ hJ',ih s1 (listed.setIfInBounds j true) (l0.setIfInBounds j true) (lA.setIfInBounds j true) pend L a' w' J' (by simp at hn;omega) h5 (by simpa [boxesFree] using hbf) (hup.move j (noBoxI ho h4)) (hcl.set hj) hL hJ' hst' hJC' hpre'⟩
end
end Go.Hp.G
namespace Go.Hp.G
open Go Go.RowKit Go.Hp
section
variable {P:Program} {ops:Array Oper} {Q:Exit→Act→World→Prop} {md:Region.Mode} {C:World→Prop} {M:List Nat}
def inB (A1:List Box) (p:Box):Bool:=A1.any fun q=>q.i == p.i
theorem nodup_inj {A:List Box} (hn:(A.map (·.i)).Nodup) {p q:Box} (hp:p ∈ A) (hq:q ∈ A) (h:p.i=q.i):p=q:=by
 induction A with
 | nil=>cases hp
 | cons x A ih =>
  simp only [List.map_cons,List.nodup_cons] at hn
  rcases List.mem_cons.1 hp with e1|h1
  ·rcases List.mem_cons.1 hq with e2|h2
   ·rw [e1,e2]
   ·exact absurd (List.mem_map.2 ⟨q,h2,by rw [← h,e1]⟩) hn.1
  ·rcases List.mem_cons.1 hq with e2|h2
   ·exact absurd (List.mem_map.2 ⟨p,h1,by rw [h,e2]⟩) hn.1
   ·exact ih hn.2 h1 h2
theorem split_boxes {A1 A2 pend:List Box} {L:List (Box × Nat)} (hn:((A1++A2).map (·.i)).Nodup) (hp:∀ p ∈ pend,p ∉ A1) (hL:(L.map (·.1)++pend).Perm (A1++A2)) :
 ∃ L1 L2:List (Box × Nat),L1.map (·.1)=A1∧(L2.map (·.1)++pend).Perm A2∧(L1++L2).Perm L:=by
 have h1:∀ p ∈ A1,inB A1 p=true:=fun p h=>List.any_eq_true.2 ⟨p,h,by simp⟩
 have hm:∀ {p},p ∈ A1++A2→inB A1 p=true→p ∈ A1:=fun hpm h=>by
  obtain⟨q,hq,e⟩:=List.any_eq_true.1 h;have:=nodup_inj hn (List.mem_append_left _ hq) hpm (by simpa using e)
  rwa [← this]
 have h2:∀ p ∈ A2,inB A1 p=false:=fun p h=>by
  cases hc:inB A1 p with
  | false=>rfl
  | true =>
   have h3:=hm (List.mem_append_right _ h) hc;rw [List.map_append] at hn;exact absurd rfl ((List.nodup_append.1 hn).2.2 p.i (List.mem_map.2 ⟨p,h3,rfl⟩) p.i (List.mem_map.2 ⟨p,h,rfl⟩))
 have h4:∀ p ∈ pend,inB A1 p=false:=fun p h=>by
  cases hc:inB A1 p with
  | false=>rfl
  | true=>exact absurd (hm (hL.subset (List.mem_append_right _ h)) hc) (hp p h)
 have f1:=hL.filter (fun p=>inB A1 p);have f2:=hL.filter (fun p=>!inB A1 p);have g1:A1.filter (fun p=>inB A1 p)=A1:=List.filter_eq_self.2 h1;have g2:A2.filter (fun p=>inB A1 p)=[]:=List.filter_eq_nil_iff.2 (fun p h=>by simp [h2 p h]);have g3:pend.filter (fun p=>inB A1 p)=[]:=List.filter_eq_nil_iff.2 (fun p h=>by simp [h4 p h]);have g4:A1.filter (fun p=>!inB A1 p)=[]:=List.filter_eq_nil_iff.2 (fun p h=>by simp [h1 p h]);have g5:A2.filter (fun p=>!inB A1 p)=A2:=List.filter_eq_self.2 (fun p h=>by simp [h2 p h]);have g6:pend.filter (fun p=>!inB A1 p)=pend:=List.filter_eq_self.2 (fun p h=>by simp [h4 p h]);rw [List.filter_append,List.filter_append,g1,g2,g3,List.append_nil,List.append_nil] at f1;rw [List.filter_append,List.filter_append,g4,g5,g6,List.nil_append] at f2;rw [List.filter_map] at f1 f2;obtain⟨L1,e1,p1⟩:=zip_perm f1;refine⟨L1,L.filter (fun p=>!inB A1 p.1),e1,f2,?_⟩;exact (p1.append_right _).trans (List.filter_append_perm (fun p:Box × Nat=>inB A1 p.1) L)
theorem over_append (a:Act) (L L':List (Box × Nat)):over a (L++L')=over (over a L) L':=by simp [over,List.foldl_append]
theorem wpG_of_box2 {A1 A2:List Box} {sB s3:List Mv} (hA:BoxesOk P ops (A1++A2)) (hsel:Region.noSelect ops=true) (listed l0 lA:Array Bool) (pend:List Box) (L:List (Box × Nat)) (a:Act) (w:World) (J:List Chunk→World→Prop)
 (hp:∀ p ∈ pend,p ∉ A1) (hok:boxOk md ops M A2 s3 sB (laidAll A1 l0) lA=true) (hbf:boxesFree md ops M (A1++A2) lA=true) (hup:Up (A1++A2) listed l0 lA (L.map (·.1.i))) (hcl:Closed md ops listed) (hL:(L.map (·.1)++pend).Perm (A1++A2)) (hJ:J (L.map Box.blk) w) (hst:Stable J) (hJC:∀ B w,J B w→C w)
 (hE:∀ L1:List (Box × Nat),L1.map (·.1)=A1→wpPre P ops Q C A2 (wpSched P ops (NoPanic Q) C s3) sB (over a L1) (fun B w=>J (L1.map Box.blk++B) w)):wpG P md ops (NoPanic Q) M C (pend.length+(sB.length+s3.length)) listed (over a L) w:=by
 obtain⟨L1,L2,e1,p2,pL⟩:=split_boxes hA.i hp hL;have hni:=hA.i;have hnt:=hA.t;rw [List.map_append] at hni hnt;have hA2:BoxesOk P ops A2:=⟨fun p h=>hA.op p (List.mem_append_right _ h),(List.nodup_append.1 hni).2.1,(List.nodup_append.1 hnt).2.1⟩
 have hnL:(L.map (fun p=>p.1.t)).Nodup:=by
  have h1:((L.map (·.1)++pend).map (·.t)).Nodup:=((hL.map _).nodup_iff).2 hA.t;rw [List.map_append] at h1
  simpa [List.map_map,Function.comp_def] using (List.nodup_append.1 h1).1
 rw [over_perm pL.symm a hnL,over_append];have hls:=laidAll_spec A1 l0
 have hi1:∀ j,j ∈ L.map (·.1.i)↔(∃ p ∈ A1,p.i=j)∨j ∈ L2.map (·.1.i):=fun j=>by
  have h1:=(pL.map (·.1.i)).mem_iff (a:=j);rw [← h1,List.map_append,List.mem_append]
  have h2:j ∈ L1.map (·.1.i)↔∃ p ∈ A1,p.i=j:=by
   rw [← e1];simp only [List.mem_map]
   constructor
   ·rintro⟨q,hq,rfl⟩;exact⟨q.1,⟨q,hq,rfl⟩,rfl⟩
   ·rintro⟨p,⟨q,hq,rfl⟩,rfl⟩;exact⟨q,hq,rfl⟩
  rw [h2]
 have hup2:Up A2 listed (laidAll A1 l0) lA (L2.map (·.1.i)):=by
  refine⟨hls.1.trans hup.s0,hup.sA,fun j=>?_,fun j=>?_,fun j hj=>?_,fun p h=>?_⟩
  ·rw [hup.up,hls.2,hi1,or_assoc]
  ·rw [hup.all,hls.2,or_assoc]
   simp only [List.mem_append,or_and_right,exists_or]
  ·obtain⟨q,hq,rfl⟩:=List.mem_map.1 hj
   exact⟨q.1,p2.subset (List.mem_append_left _ (List.mem_map.2 ⟨q,hq,rfl⟩)),rfl⟩
  ·cases hc:(laidAll A1 l0).getD p.i true with
   | false=>rfl
   | true =>
    rcases (hls.2 p.i).1 hc with h1|⟨q,hq,e⟩
    ·rw [hup.no0 p (List.mem_append_right _ h)] at h1;cases h1
    ·exact absurd e ((List.nodup_append.1 hni).2.2 q.i (List.mem_map.2 ⟨q,hq,rfl⟩) p.i (List.mem_map.2 ⟨p,h,rfl⟩))
 have hbf2:boxesFree md ops M A2 lA=true:=by
  simp only [boxesFree,List.all_append,Bool.and_eq_true] at hbf ⊢;exact hbf.2
 have:=wpG_of_box (P:=P) (Q:=Q) (md:=md) (M:=M) (C:=C) (s2:=s3) hA2 hsel _ sB listed (laidAll A1 l0) lA pend L2 (over a L1) w (fun B w=>J (L1.map Box.blk++B) w) rfl hok hbf2 hup2 hcl p2
  (hst.perm _ _ _ (by rw [← List.map_append];exact pL.map _) hJ)
  ⟨fun B w o h=>by rw [← List.append_assoc];exact hst.alloc _ _ _ h,fun B B' w hpm h=>hst.perm _ _ _ (hpm.append_left _) h⟩ (fun B w h=>hJC _ _ h) (hE L1 e1)
 rw [show pend.length+(sB.length+s3.length)=sB.length+pend.length+s3.length by omega];exact this
end
section
variable {P:Program} {Q:Exit→Act→World→Prop} {a:Act} {w:World}
theorem wp_region_box2 {id:Nat} {l:List Oper} (s1 sB s3:List Mv) (M:List Nat) (A1 A2:List Box) (w0:World) (H:List Chunk) (hm:P.follows .mixedOrders=true)
 (hok:(Region.noSelect l.toArray && (s1.length+(A1++A2).length+(sB.length+s3.length) == l.length) && boxesFree .any l.toArray M (A1++A2) (laidAll (A1++A2) (Array.replicate l.length false)) && boxOk1 .any l.toArray M A1 (A1++A2) (fun l0 lA=>boxOk .any l.toArray M A2 s3 sB (laidAll A1 l0) lA) s1 (Array.replicate l.length false) (laidAll (A1++A2) (Array.replicate l.length false)))=true) (hA:BoxesOk P l.toArray (A1++A2)) (hS:Heap w0 w.drew H)
 (h:wpPre1 P l.toArray Q (fun w=>Heap w0 w H) (fun a J=>∀ L1:List (Box × Nat),L1.map (·.1)=A1→wpPre P l.toArray Q (fun w=>Heap w0 w H) A2 (wpSched P l.toArray (NoPanic Q) (fun w=>Heap w0 w H) s3) sB (over a L1) (fun B w=>J (L1.map Box.blk++B) w)) s1 a (fun B w=>Heap w0 w (H++B))):(Code.region id l.toArray true).wp P Q a w:=by
 simp only [Bool.and_eq_true,beq_iff_eq] at hok;obtain⟨⟨⟨h1,h2⟩,h4⟩,h3⟩:=hok;refine wp_mono (Q:=NoPanic Q) (wp_region_any hm ?_) (fun e a w hq=>by cases e <;> first|exact hq|exact hq.elim);have hsp:=laidAll_spec (A1++A2) (Array.replicate l.length false);have hbf:=h4;simp only [boxesFree,List.all_eq_true,Bool.and_eq_true,decide_eq_true_eq] at hbf
 have hup:Up (A1++A2) (Array.replicate l.length false) (Array.replicate l.length false) (laidAll (A1++A2) (Array.replicate l.length false)) [] :=
  ⟨rfl,hsp.1,fun j=>by simp,hsp.2,fun j hj=>absurd hj (by simp),fun p hp=>by
   have h5:=(hbf p hp).1.2;rw [hsp.1] at h5;have h6:p.i<l.length:=by simpa using h5
   simp [h6]⟩
 have:=wpG_of_box1 (P:=P) (Q:=Q) (md:=.any) (M:=M) (C:=fun w=>Heap w0 w H) (k:=sB.length+s3.length) hA h1
  (fun listed l0 lA pend L a w J b1 b2 b3 b4 b5 b6 b7 b8 b9 b10=>wpG_of_box2 hA h1 listed l0 lA pend L a w J b1 b2 b3 b4 b5 b6 b7 b8 b9 b10)
  _ s1 (Array.replicate l.length false) _ _ (A1++A2) [] a w.drew (fun B w=>Heap w0 w (H++B)) rfl h3 h4 hup (closed_start _) (by simp) (by simpa using hS) (stable_heap w0 H) (fun B w h=>h.sub (List.sublist_append_left _ _)) h
 rw [h2] at this
 simpa [over] using this.any
end
end Go.Hp.G
namespace Go.Hp.G
open Go Go.RowKit Go.Hp
section
variable {P:Program} {ops:Array Oper} {Q:Exit→Act→World→Prop} {C:World→Prop} {End:Act→(List Chunk→World→Prop)→Prop} {s:List Mv} {a:Act} {w w0:World} {H:List Chunk} {J:List Chunk→World→Prop} {i:Nat} {o:Oper}
theorem pre1_run {dst:Option Tmp} {op:Op} {ty:TypeId} {pos:String} {aft:Array Edge} {g:Option (Nat × Bool)} (ho:ops[i]? = some ⟨dst,op,ty,pos,aft,g⟩) (hw:Region.wanted ⟨dst,op,ty,pos,aft,g⟩ (yielded ops a.tmps)=true)
 (h:∀ K:Act→Prop,(∀ a,wpPre1 P ops Q C End s a J→K a)→∃ v,(∀ w',(execOp a.eval ⟨dst,op,ty,pos,aft,g⟩).run P w'=.ok (.value v) w')∧K (a.put dst v)):wpPre1 P ops Q C End (.p i::s) a J :=
 let ⟨v,hr,hk⟩:=h _ (fun _ h=>h)
 ⟨_,v,ho,.inl ⟨hw,fun w' _=>hr w'⟩,hk⟩
theorem pre1_of (ho:ops[i]? = some o) (hw:Region.wanted o (yielded ops a.tmps)=true) (h:Stp P w0 H o a (fun a'=>wpPre1 P ops Q (fun w=>Heap w0 w H) End s a' J)):wpPre1 P ops Q (fun w=>Heap w0 w H) End (.r i::s) a J :=
 let ⟨v,hr,hk⟩:=h.ex
 ⟨_,v,ho,.inl ⟨hw,fun w' hw'=>hr w' hw'⟩,hk⟩
theorem pre1_ext {dst:Option Tmp} {op:Op} {ty:TypeId} {pos:String} {aft:Array Edge} {g:Option (Nat × Bool)} (ho:ops[i]? = some ⟨dst,op,ty,pos,aft,g⟩)
 (h:∀ B w,J B w→wpList P ops (Exit.then (fun a' w'=>∃ J',J' B w'∧Stable J'∧(∀ B w,J' B w→C w)∧wpPre1 P ops Q C End s a' J') (NoPanic Q)) [⟨dst,op,ty,pos,aft,g⟩] a w):wpPre1 P ops Q C End (.e i::s) a J :=
 fun B w hJ=>wpOp_of_list ho (h B w hJ) (fun _ _ _ h=>h)
theorem end3 {p q r:Box} {A2:List Box} {E:Act→World→Prop} (h:∀ b c d,wpPre P ops Q C A2 E s (((a.put (some p.t) (p.v b)).put (some q.t) (q.v c)).put (some r.t) (r.v d)) (fun B w=>J ([.blk b p.o,.blk c q.o,.blk d r.o]++B) w)) :
 ∀ L1:List (Box × Nat),L1.map (·.1)=[p,q,r]→wpPre P ops Q C A2 E s (over a L1) (fun B w=>J (L1.map Box.blk++B) w):=by
 intro L hL
 match L,hL with
 | [(x,b),(y,c),(z,d)],hL =>
  simp only [List.map_cons,List.map_nil,List.cons.injEq,and_true] at hL;obtain⟨rfl,rfl,rfl⟩:=hL;exact h b c d
theorem swapB {X B:List Chunk} {r:Chunk} (h:Heap w0 w (X++(B++[r]))):Heap w0 w ((X++[r])++B):=by
 refine h.perm ?_;rw [List.append_assoc];exact (List.perm_append_comm (l₁:=[r]) (l₂:=B)).append_left X
theorem pre1_nil (h:End a J):wpPre1 P ops Q C End [] a J:=h
theorem pre1_end {K:Act→(List Chunk→World→Prop)→Prop} {Q':Exit→Act→World→Prop} {X B:List Chunk} (hS:Heap w0 w (X++B)) (hC:∀ B w,Heap w0 w (X++B)→C w) (h:K a (fun B w=>Heap w0 w (X++B))) :
 wpList P ops (Exit.then (fun a' w'=>∃ J',J' B w'∧Stable J'∧(∀ B w,J' B w→C w)∧K a' J') Q') [] a w:=⟨_,hS,stable_heap w0 X,hC,h⟩
theorem end3H {p q r:Box} {A2:List Box} {E:Act→World→Prop} {X:List Chunk} (h:∀ b c d,wpPre P ops Q C A2 E s (((a.put (some p.t) (p.v b)).put (some q.t) (q.v c)).put (some r.t) (r.v d)) (fun B w=>Heap w0 w (X++([.blk b p.o,.blk c q.o,.blk d r.o]++B)))) :
 ∀ L1:List (Box × Nat),L1.map (·.1)=[p,q,r]→wpPre P ops Q C A2 E s (over a L1) (fun B w=>Heap w0 w (X++(L1.map Box.blk++B))):=end3 (J:=fun B w=>Heap w0 w (X++B)) h
end
end Go.Hp.G
