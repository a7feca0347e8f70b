/- Texts for the walk of the law: FH FM. -/
import Derived.Test.YtihpoboahbpaiaaGreatQ35
import Derived.Test.YtihpoboahbpaiaaGreatQ34
set_option maxRecDepth 100000
set_option maxHeartbeats 16000000
set_option linter.unusedVariables false
set_option linter.unusedSimpArgs false
namespace Go.Hp
open Go Go.RowKit
section
variable {κ:Type} [DecidableEq κ] {ν:Type} {ek:κ→Value} {ev:ν→Value} {P:Program} {w w0:World} {b:Nat} {o:Obj} {l:List (κ × ν)} {H:List Chunk}
variable {ops:Array Oper} {Q:Exit→Act→World→Prop} {rest:List Oper} {a:Act} {K:Act→Prop} {dst:Option Tmp} {x ix:Operand} {ty T E Tm:TypeId} {pos:String} {aft:Array Edge} {g:Option (Nat × Bool)}
theorem run_lookup_ok {z:ν} (hu:P.underlying Tm=some (.map T E)) (hz:∀ w,(zeroValue E).run P w=.ok (ev z) w) (K:KeyOk P T ek) (hb:w.heap[b]? = some o) (hm:MapIs ek ev o l) (k:κ) :
 (Instr.lookup Tm (.map (some b)) (ek k) true).run P w=.ok (.tuple #[ev ((getL l k).getD z),.bool (getL l k).isSome]) w:=by
 obtain⟨⟨es,clock,rfl,hes,hp,hc⟩,hn⟩:=hm;have hg:=MapKept.run_getObj_map (P:=P) hb;have hf:=K.find k (l.map (·.1)) es.toList w (keys_of hes);unfold Instr.lookup;simp only [Sem.run_bind,run_underlying hu,Result.andThen_ok,hg,Sem.run_pure,K.chk,hf]
 rcases look_spec ev ek k l es.toList 0 hes with ⟨h1,h2⟩|⟨j,v,h1,h2,_⟩
 ·simp [h1,h2,hz]
 ·simp [h1,h2]
theorem stp_lookup_ok {z:ν} {k:κ} (j:Nat) (hu:P.underlying Tm=some (.map T E)) (hz:∀ w,(zeroValue E).run P w=.ok (ev z) w) (Kk:KeyOk P T ek) (hx:a.eval x=.map (some b)) (hi:a.eval ix=ek k) (hj:H[j]? = some (.blk b o)) (hm:MapIs ek ev o l)
 (hk:K (a.put dst (.tuple #[ev ((getL l k).getD z),.bool (getL l k).isSome]))):Stp P w0 H ⟨dst,.lookup Tm x ix true,ty,pos,aft,g⟩ a K:=by
 refine⟨⟨_,fun w' hS=>?_,hk⟩⟩;have hr:=run_lookup_ok (P:=P) (Tm:=Tm) hu hz Kk (hS.blk (List.mem_of_getElem? hj)) hm k;generalize a.eval=ρ at hx hi;simp only [execOp,hx,hi,Sem.run_bind,hr,Result.andThen_ok,Sem.run_pure]
theorem g_look2 (h:wpList P ops Q (⟨dst,.lookup T x ix true,ty,pos,aft,g⟩::rest) a w):wpList P ops Q (⟨dst,.lookup T x ix true,ty,pos,aft,g⟩::rest) a w:=h
end
section
variable {P:Program}
theorem wp_region_tr2 {Q:Exit→Act→World→Prop} {id:Nat} {a:Act} {w:World} {l:List Oper} (t:Tr) (M:List Nat) (C D:World→Prop) (hm:P.follows .mixedOrders=true)
 (hok:(Region.noSelect l.toArray && (t.len == l.length) && trOk .any l.toArray M t (Array.replicate l.length false))=true) (hD:D w.drew) (hDC:∀ w',D w'→C w')
 (h:∀ w',D w'→wpTr P l.toArray Q C t a w'):(Code.region id l.toArray true).wp P Q a w:=by
 simp only [Bool.and_eq_true,beq_iff_eq] at hok;obtain⟨⟨h1,h2⟩,h3⟩:=hok;refine wp_mono (Q:=NoPanic Q) (wp_region_any hm ?_) (fun e a w hq=>by cases e <;> first|exact hq|exact hq.elim);have:=wpG_of_tr (P:=P) (Q:=Q) (md:=.any) (M:=M) (C:=C) h1 t (Array.replicate l.length false) a w.drew h3 (closed_start _) (fun _=>hDC _ hD) (h _ hD);rw [h2] at this
 simpa using this.any
theorem wp_region_ap2 {Q:Exit→Act→World→Prop} {id:Nat} {a:Act} {w:World} {l:List Oper} (t:Tr) (M:List Nat) (C D:World→Prop) (hm:P.follows .mixedOrders=true)
 (hok:(Region.noSelect l.toArray && (t.len == l.length) && trOk .any l.toArray M t (Array.replicate l.length false))=true) (hD:D w.drew) (hDC:∀ w',D w'→C w')
 (F:Option Addr→Nat→Option Addr→Nat→World→Prop) (R:Nat→Nat→Option Addr→Nat→Option Addr→Nat→Act)
 (h:(∀ b1 b2 a1 c1 a2 c2 w',F a1 c1 a2 c2 w'→Q .normal (R b1 b2 a1 c1 a2 c2) w')→∀ w',D w'→wpTr P l.toArray Q C t a w')
 (hrest:∀ b1 b2 a1 c1 a2 c2 w',F a1 c1 a2 c2 w'→Q .normal (R b1 b2 a1 c1 a2 c2) w'):(Code.region id l.toArray true).wp P Q a w :=
 wp_region_tr2 t M C D hm hok hD hDC (h hrest)
end
theorem Heap.rowRest {w0 w:World} {A B:List Chunk} (hS:Heap w0 w (A++B)) {c:Chunk} (hc:c ∈ A) {k:Nat} (hk:c.has k):Rest w B k :=
 ⟨Chunk.lt (hS.ok c (by simp [hc])) hk,fun d hd=>(List.pairwise_append.1 hS.apart).2.2 c hc d hd k hk⟩
theorem comps_length (E:List (Nat × Nat)) (n:Nat):(comps E n).length=n:=by simp [comps]
theorem ArrIn.grow {w w':World} {S S':Nat→Prop} {a3 a4:Option Addr} {n3 c3 n4 c4:Nat} {rs:List ER} {es:List Ed} {prs:List PR} {V:List Pt} {k:Nat} (h:ArrIn w S a3 a4 n3 c3 n4 c4 rs es prs V k) (hp:Pure w S w' S'):ArrIn w' S' a3 a4 n3 c3 n4 c4 rs es prs V k :=
 ⟨hp.liv h.live,h.hE.grow hp,h.hEs.grow hp,h.hV.grow hp,h.ab,h.bq,h.n3,h.n4⟩
theorem AroundM.pair {w:World} {S:Nat→Prop} {RL:List (List Nat)} {l:List (Int × (Option Addr × Nat × Nat))} (h:AroundM w S RL l) {kk:Int} {vv:Option Addr × Nat × Nat} (hm:(kk,vv) ∈ l):∃ v:Nat,v<RL.length∧nth [] RL v≠[]∧kk=(v:Int)∧Nats w S (sv vv) (nth [] RL v):=by
 have hk:kk ∈ l.map (·.1):=List.mem_map.2 ⟨_,hm,rfl⟩;rw [h.keys,List.mem_map] at hk;obtain⟨v,hv,rfl⟩:=hk;rw [List.mem_filter,List.mem_range] at hv;exact⟨v,hv.1,by simpa using hv.2,rfl,by simpa using h.vals _ hm⟩
theorem AroundM.over {w:World} {S:Nat→Prop} {RL:List (List Nat)} {l d:List (Int × (Option Addr × Nat × Nat))} (h:AroundM w S RL l) (hp:d.Perm l) {x:FI} (hn:x.n=RL.length) (hh:∀ v,x.hasE v=decide (nth [] RL v≠[])) (v:Nat):v ∈ d.map (fun p=>p.1.toNat)↔v ∈ x.keys:=by
 have e1:d.map (fun p=>p.1.toNat)=(d.map (·.1)).map Int.toNat:=by rw [List.map_map];rfl
 have h1:∀ k,k ∈ d.map (·.1)↔k ∈ l.map (·.1):=fun k=>(hp.map _).mem_iff
 rw [e1,List.mem_map];unfold FI.keys;rw [List.mem_filter,List.mem_range,hn,hh]
 constructor
 ·rintro⟨k,hk,rfl⟩
  rw [h1,h.keys,List.mem_map] at hk;obtain⟨u,hu,rfl⟩:=hk;rw [List.mem_filter,List.mem_range] at hu;exact hu
 ·intro hv
  refine⟨(v:Int),?_,rfl⟩;rw [h1,h.keys,List.mem_map];exact⟨v,by rw [List.mem_filter,List.mem_range];exact hv,rfl⟩
theorem FI.named_mem (x:FI) {d d':List Nat} {l:List (Int × Int)} (h:∀ v,v ∈ d↔v ∈ d') (hn:x.named d l):x.named d' l:=fun v=>by
 rw [hn v];simp only [h]
theorem Heap.swap2 {w0 w:World} {H:List Chunk} {x y:Chunk} (h:Heap w0 w ((H++[x])++[y])):Heap w0 w ((H++[y])++[x]):=h.perm (by
 rw [List.append_assoc,List.append_assoc];exact List.Perm.append_left H (List.Perm.swap x y []))
def nilRow:ORow:=⟨(0,0),none,0,0,[]⟩
theorem Heap.addNils {w0 w:World} {H:List Chunk} (hS:Heap w0 w H) (T:TypeId):∀ k,Heap w0 w (H++(List.replicate k nilRow).map (ORow.ch T))
 | 0=>by simpa using hS
 | k+1=>by
  have:=(Heap.addNils hS T k).addNil T 1;rw [List.append_assoc] at this;rw [List.replicate_succ',List.map_append];exact this
def oc (R:List ORow):List Value:=R.map fun r=>Value.slice r.ad r.n r.c
def ois (R:List ORow):List (List Nat):=R.map (·.is)
theorem oc_length (R:List ORow):(oc R).length=R.length:=by simp [oc]
theorem oc_nil (k:Nat):oc (List.replicate k nilRow)=List.replicate k (.slice none 0 0):=by simp [oc,nilRow]
theorem ois_nil (k:Nat):ois (List.replicate k nilRow)=List.replicate k []:=by simp [ois,nilRow]
def or0:ORow:=nilRow
theorem oc_at {R:List ORow} {i:Nat} (hi:i<R.length):(oc R)[i]? = some (.slice (nth or0 R i).ad (nth or0 R i).n (nth or0 R i).c):=by
 rw [nth_eq _ _ _ hi];simp [oc,hi]
theorem split_at {R:List ORow} {i:Nat} (hi:i<R.length):R=R.take i++nth or0 R i::R.drop (i+1):=by rw [nth_eq _ _ _ hi];simp
theorem set_split {α:Type} {R:List α} {i:Nat} (hi:i<R.length) (r:α):R.set i r=R.take i++r::R.drop (i+1):=by
 rw [List.set_eq_take_append_cons_drop,if_pos hi]
theorem oc_set (R:List ORow) (i:Nat) (r:ORow):oc (R.set i r)=(oc R).set i (.slice r.ad r.n r.c):=by simp [oc,List.map_set]
theorem ois_set (R:List ORow) (i:Nat) (r:ORow):ois (R.set i r)=(ois R).set i r.is:=by simp [ois,List.map_set]
theorem nth_ois (R:List ORow) (i:Nat):nth [] (ois R) i=(nth or0 R i).is:=by
 simp only [nth,ois,List.getD_eq_getElem?_getD,List.getElem?_map];cases R[i]? <;> rfl
theorem ois_add {R:List ORow} {i y:Nat} {r:ORow} (hr:r.is=(nth or0 R i).is++[y]):ois (R.set i r)=addAt (ois R) i y:=by
 rw [ois_set,hr,← nth_ois];rfl
section
variable {P:Program} {ops:Array Oper} {Q:Exit→Act→World→Prop} {rest:List Oper} {a:Act} {w w0:World}
variable {dst:Option Tmp} {ty T E:TypeId} {pos:String} {aft:Array Edge} {x y:Operand}
theorem seq_append_at {L R3:List Chunk} {R:List ORow} {j i b:Nat} {Tb:TypeId} (hS:Heap w0 w (L++(R.map (ORow.ch E)++(R3++[.blk b (.cells #[.int .i64 (i:Int)] Tb (0,0))])))) (ht:P.underlying T=some (.slice E)) (hinfo:(P.info? E).map (fun i=>(i.zero,i.size,i.bytes))=some (some (.int .i64 0),1,8)) (hj:j<R.length)
 (hx:a.eval x=.slice (nth or0 R j).ad (nth or0 R j).n (nth or0 R j).c) (hy:a.eval y=.slice (some ⟨b,0,none⟩) 1 1) (hn:(nth or0 R j).n≤100000000)
 (hk:∀ ad c w',Heap w0 w' (L++((R.set j ⟨(nth or0 R j).k,ad,(nth or0 R j).n+1,c,(nth or0 R j).is++[i]⟩).map (ORow.ch E)++R3))→wpList P ops Q rest (a.put dst (.slice ad ((nth or0 R j).n+1) c)) w') :
 wpList P ops Q (⟨dst,.call ⟨.builtin .append,#[x,y],#[T,T]⟩,ty,pos,aft,none⟩::rest) a w:=by
 have hS1:Heap w0 w ((L++R3)++((R.take j++nth or0 R j::R.drop (j+1)).map (ORow.ch E)++[.blk b (.cells #[.int .i64 (i:Int)] Tb (0,0))])):=by
  rw [← split_at hj];refine hS.perm ?_;rw [List.append_assoc];refine List.Perm.append_left L ?_;rw [← List.append_assoc,← List.append_assoc];exact List.Perm.append_right _ List.perm_append_comm
 refine seq_append_orow hS1 ht hinfo rfl hx hy hn (fun ad c w' hS'=>hk ad c w' ?_);rw [set_split hj];rw [List.append_assoc] at hS';exact hS'.perm (List.Perm.append_left L List.perm_append_comm)
end
def RowsOf (w:World) (S:Nat→Prop) (v:Value) (I:List (List Nat)):Prop:=∃ R:List (Option Addr × Nat × Nat),R.length=I.length∧SlC w S 1 v I.length (R.map sv)∧∀ i,i<I.length→Nats w S (sv (nth (none,0,0) R i)) (nth [] I i)
structure IsFc (w:World) (S:Nat→Prop) (s1 s2 s3 s4 s5:Option Addr × Nat × Nat) (f:FRec):Prop where
 n:Nats w S (sv s1) f.N
 l:Ints w S (sv s2) f.L
 o:Ints w S (sv s3) f.O
 i:RowsOf w S (sv s4) f.I
 a:RowsOf w S (sv s5) f.A
theorem RowsOf.move {w wr:World} {S:Nat→Prop} {v:Value} {I:List (List Nat)} (h:RowsOf wr S v I) (hk:∀ k,S k→w.heap[k]? = wr.heap[k]?):RowsOf w S v I:=by
 obtain⟨R,h1,h2,h3⟩:=h;exact⟨R,h1,h2.move hk,fun i hi=>(h3 i hi).move hk⟩
theorem RowsOf.weaken {w:World} {S T:Nat→Prop} {v:Value} {I:List (List Nat)} (h:RowsOf w S v I) (hs:∀ k,S k→T k):RowsOf w T v I:=by
 obtain⟨R,h1,h2,h3⟩:=h;exact⟨R,h1,h2.weaken hs,fun i hi=>(h3 i hi).weaken hs⟩
theorem Ints.move {w wr:World} {S:Nat→Prop} {v:Value} {xs:List Int} (h:Ints wr S v xs) (hk:∀ k,S k→w.heap[k]? = wr.heap[k]?):Ints w S v xs:=⟨h.1.move hk,h.2⟩
theorem IsFc.move {w wr:World} {S:Nat→Prop} {s1 s2 s3 s4 s5:Option Addr × Nat × Nat} {f:FRec} (h:IsFc wr S s1 s2 s3 s4 s5 f) (hk:∀ k,S k→w.heap[k]? = wr.heap[k]?):IsFc w S s1 s2 s3 s4 s5 f:=⟨h.n.move hk,h.l.move hk,h.o.move hk,h.i.move hk,h.a.move hk⟩
theorem IsFc.at {w0 w wr:World} {H:List Chunk} {F S:Nat→Prop} {s1 s2 s3 s4 s5:Option Addr × Nat × Nat} {f:FRec} (h:IsFc wr S s1 s2 s3 s4 s5 f) (hS:Heap w0 w (.frz F wr::H)) (hF:∀ k,S k→F k):IsFc w S s1 s2 s3 s4 s5 f:=h.move (hS.keep hF)
end Go.Hp
namespace Go.Proofs
open Go.RowKit Go.Hp
theorem infoRI:(Tryz.prog.info? 22).map (fun i=>(i.zero,i.size,i.bytes))=some (some (.slice none 0 0),1,24):=by kernel_rfl
theorem srt_zs (l:List Nat):srt (zs l)=zs (srtN l):=by
 unfold srt srtN zs;rw [List.map_mergeSort];intro a _ b _;simp
def upB (d:Gp):Bool:=decide (0<d.y) || (decide (d.y=0) && decide (0<d.x))
theorem upB_iff (d:Gp):upB d=true↔UpD d:=by unfold upB UpD;simp
def outL (es:List Ed) (L:List Nat):Nat:=(L.reverse.find? fun h=>upB (crsZ es h)).getD (nth 0 L (L.length - 1))
theorem OutIs.eq {es:List Ed} {L:List Nat} {r:Nat} (h:OutIs es L r):r=outL es L:=by
 unfold outL
 rcases h with ⟨k,hk,rfl,hu,hn⟩|⟨rfl,hn⟩
 ·have:(L.reverse.find? fun h=>upB (crsZ es h))=some (nth 0 L k):=by
   rw [List.find?_eq_some_iff_getElem];refine⟨(upB_iff _).2 hu,L.length - 1 - k,by simp;omega,?_,fun j hj=>?_⟩
   ·rw [List.getElem_reverse,nth_eq 0 L k hk]
    congr 1;omega
   ·rw [List.getElem_reverse]
    have h1:=hn (L.length - 1 - j) (by omega) (by omega);rw [nth_eq 0 L _ (by omega)] at h1;rw [Bool.not_eq_true',← Bool.not_eq_true];exact fun h2=>h1 ((upB_iff _).1 h2)
  rw [this];rfl
 ·have:(L.reverse.find? fun h=>upB (crsZ es h))=none:=by
   rw [List.find?_eq_none];intro x hx h2;rw [List.mem_reverse] at hx;obtain⟨q,hq,rfl⟩:=List.getElem_of_mem hx;have h1:=hn q hq;rw [nth_eq 0 L q hq] at h1;exact h1 ((upB_iff _).1 h2)
  rw [this];rfl
theorem outL_mem {es:List Ed} {L:List Nat} (h:L≠[]):outL es L ∈ L:=by
 unfold outL;cases hf:L.reverse.find? fun h=>upB (crsZ es h) with
 | some x=>exact List.mem_reverse.1 (List.mem_of_find?_eq_some hf)
 | none =>
  have:0<L.length:=List.length_pos_iff.2 h;exact nth_mem 0 L _ (by omega)
theorem paint_at0 {N:List Nat} (hp:IsPerm N) {h:Nat} (hh:h<N.length) (hle:N.length≤1000000) (L:List Int) (face:Int) (f6 b4 g cl cn gn:Nat) (v3 v4 v5:Value) {w0 w wr:World} {F:Nat→Prop} {R:List Chunk} (hLl:L.length=N.length)
 (hS:Heap w0 w (.frz F wr::.row (.slice (some ⟨gn,0,none⟩) N.length cn) 3 1 N.length (iv (zs N))::.blk f6 (.cells #[.slice (some ⟨gn,0,none⟩) N.length cn,.slice (some ⟨g,0,none⟩) L.length cl,v3,v4,v5] 37 (0,0))::.blk b4 (.cells #[.slice (some ⟨gn,0,none⟩) N.length cn] 22 (0,0))::.row (.slice (some ⟨g,0,none⟩) L.length cl) 3 1 L.length (iv L)::R)) :
 Calls Tryz.prog 83 #[.int .i64 (h:Int),.int .i64 face,.pointer (some ⟨f6,0,none⟩),.pointer (some ⟨b4,0,none⟩)] w fun e w'=>e=.returned (.int .i64 (leastF N h:Int))∧Heap w0 w' (.frz F wr::.row (.slice (some ⟨gn,0,none⟩) N.length cn) 3 1 N.length (iv (zs N))::.blk f6 (.cells #[.slice (some ⟨gn,0,none⟩) N.length cn,.slice (some ⟨g,0,none⟩) L.length cl,v3,v4,v5] 37 (0,0))::.blk b4 (.cells #[.slice (some ⟨gn,0,none⟩) N.length cn] 22 (0,0))::.row (.slice (some ⟨g,0,none⟩) L.length cl) 3 1 L.length (iv (setAll L (orb N h) face))::R):=by
 have hP:∀ (x y a b c:Chunk),(x::y::a::b::c::R).Perm ((x::y::R)++[a,b,c]):=fun x y a b c =>
  List.Perm.cons _ (List.Perm.cons _ (List.perm_append_comm (l₁:=[a,b,c]) (l₂:=R)))
 have h1:=hS.perm (hP _ _ _ _ _).symm
 have hb:∀ x ∈ N,x≤9223372036854775807:=fun x hx=>by
  obtain⟨i,hi,rfl⟩:=List.getElem_of_mem hx;have:=hp.lt i hi;rw [nth_eq 0 N i hi] at this;omega
 have hr:=h1.rowSl 1 rfl
 have hN:Nats w (Go.Hp.Rest w [.blk f6 (.cells #[.slice (some ⟨gn,0,none⟩) N.length cn,.slice (some ⟨g,0,none⟩) L.length cl,v3,v4,v5] 37 (0,0)),.blk b4 (.cells #[.slice (some ⟨gn,0,none⟩) N.length cn] 22 (0,0)),.row (.slice (some ⟨g,0,none⟩) L.length cl) 3 1 L.length (iv L)]) (.slice (some ⟨gn,0,none⟩) N.length cn) N :=
  ⟨by rw [zs_length];exact hr.weaken (fun k hk=>h1.rowRest (c:=.row (.slice (some ⟨gn,0,none⟩) N.length cn) 3 1 N.length (iv (zs N))) (by simp) hk),inI_zs hb⟩
 refine (paint_any hp hh hle L face f6 b4 g cl cn _ v3 v4 v5 w _ hN hLl (Heap.split h1)).mono ?_;rintro e w' ⟨rfl,hS'⟩;exact⟨rfl,(Heap.unsplit h1 hS').perm (hP _ _ _ _ _)⟩
theorem paint_at {N:List Nat} (hp:IsPerm N) {M h:Nat} (hN:N.length=M) (hh:h<M) (hle:M≤1000000) (L:List Int) (hL:L.length=M) (face:Int) (f6 b4 g cl cn gn:Nat) (v3 v4 v5:Value) {w0 w wr:World} {F:Nat→Prop} {R:List Chunk}
 (hS:Heap w0 w (.frz F wr::.row (.slice (some ⟨gn,0,none⟩) M cn) 3 1 M (iv (zs N))::.blk f6 (.cells #[.slice (some ⟨gn,0,none⟩) M cn,.slice (some ⟨g,0,none⟩) M cl,v3,v4,v5] 37 (0,0))::.blk b4 (.cells #[.slice (some ⟨gn,0,none⟩) M cn] 22 (0,0))::.row (.slice (some ⟨g,0,none⟩) M cl) 3 1 M (iv L)::R)) :
 Calls Tryz.prog 83 #[.int .i64 (h:Int),.int .i64 face,.pointer (some ⟨f6,0,none⟩),.pointer (some ⟨b4,0,none⟩)] w fun e w'=>e=.returned (.int .i64 (leastF N h:Int))∧Heap w0 w' (.frz F wr::.row (.slice (some ⟨gn,0,none⟩) M cn) 3 1 M (iv (zs N))::.blk f6 (.cells #[.slice (some ⟨gn,0,none⟩) M cn,.slice (some ⟨g,0,none⟩) M cl,v3,v4,v5] 37 (0,0))::.blk b4 (.cells #[.slice (some ⟨gn,0,none⟩) M cn] 22 (0,0))::.row (.slice (some ⟨g,0,none⟩) M cl) 3 1 M (iv (setAll L (orb N h) face))::R):=by
 have h0:=paint_at0 hp (h:=h) (by omega) (by omega) L face f6 b4 g cl cn gn v3 v4 v5 (w0:=w0) (w:=w) (wr:=wr) (F:=F) (R:=R) (by omega);rw [hN,hL] at h0;exact h0 hS
def lft (M k:Nat):List Int:=List.replicate k (-1)++List.replicate (M - k) 0
theorem lft_zero (M:Nat):lft M 0=List.replicate M 0:=by simp [lft]
theorem lft_end (M:Nat):lft M M=List.replicate M (-1):=by simp [lft]
theorem lft_succ {M k:Nat} (hk:k<M):(lft M k).set k (-1)=lft M (k+1):=by
 obtain⟨d,rfl⟩:∃ d,M=k+1+d:=⟨M - k - 1,by omega⟩;unfold lft;rw [List.set_append_right _ _ (by simp)];have e1:k+1+d - k=d+1:=by omega
 have e2:k+1+d - (k+1)=d:=by omega
 rw [e1,e2,List.length_replicate,Nat.sub_self,List.replicate_succ,List.set_cons_zero,List.replicate_succ'];simp
end Go.Proofs
namespace Go.Hp
open Go Go.RowKit
theorem Heap.rowPtr {w0 w:World} {H:List Chunk} {ad:Option Addr} {T:TypeId} {k n c:Nat} {cs:List Value} (hS:Heap w0 w H) (j:Nat) (hj:H[j]? = some (.row (.slice ad n c) T k n cs)) (hn:0<n):∃ g,ad=some ⟨g,0,none⟩:=by
 obtain⟨g,cur,h,_⟩:=hS.openRow j hj hn;exact⟨g,h⟩
section
variable {P:Program} {ops:Array Oper} {Q:Exit→Act→World→Prop} {rest:List Oper} {a:Act} {w w0:World}
variable {dst:Option Tmp} {ty T E:TypeId} {pos:String} {aft:Array Edge} {x y:Operand}
theorem seq_append_in1 {H0:List Chunk} {RI RA:List ORow} {j i b:Nat} {Tb:TypeId} (hS:Heap w0 w ((H0++(RI.map (ORow.ch E)++RA.map (ORow.ch E)))++[.blk b (.cells #[.int .i64 (i:Int)] Tb (0,0))])) (ht:P.underlying T=some (.slice E)) (hinfo:(P.info? E).map (fun i=>(i.zero,i.size,i.bytes))=some (some (.int .i64 0),1,8)) (hj:j<RI.length)
 (hx:a.eval x=.slice (nth or0 RI j).ad (nth or0 RI j).n (nth or0 RI j).c) (hy:a.eval y=.slice (some ⟨b,0,none⟩) 1 1) (hn:(nth or0 RI j).n≤100000000)
 (hk:∀ ad c w',Heap w0 w' (H0++((RI.set j ⟨(nth or0 RI j).k,ad,(nth or0 RI j).n+1,c,(nth or0 RI j).is++[i]⟩).map (ORow.ch E)++RA.map (ORow.ch E)))→wpList P ops Q rest (a.put dst (.slice ad ((nth or0 RI j).n+1) c)) w') :
 wpList P ops Q (⟨dst,.call ⟨.builtin .append,#[x,y],#[T,T]⟩,ty,pos,aft,none⟩::rest) a w :=
 seq_append_at (R:=RI) (R3:=RA.map (ORow.ch E)) (L:=H0) (by simpa only [List.append_assoc] using hS) ht hinfo hj hx hy hn hk
theorem seq_append_in2 {H0:List Chunk} {RI RA:List ORow} {j i b:Nat} {Tb:TypeId} (hS:Heap w0 w ((H0++(RI.map (ORow.ch E)++RA.map (ORow.ch E)))++[.blk b (.cells #[.int .i64 (i:Int)] Tb (0,0))])) (ht:P.underlying T=some (.slice E)) (hinfo:(P.info? E).map (fun i=>(i.zero,i.size,i.bytes))=some (some (.int .i64 0),1,8)) (hj:j<RA.length)
 (hx:a.eval x=.slice (nth or0 RA j).ad (nth or0 RA j).n (nth or0 RA j).c) (hy:a.eval y=.slice (some ⟨b,0,none⟩) 1 1) (hn:(nth or0 RA j).n≤100000000)
 (hk:∀ ad c w',Heap w0 w' (H0++(RI.map (ORow.ch E)++(RA.set j ⟨(nth or0 RA j).k,ad,(nth or0 RA j).n+1,c,(nth or0 RA j).is++[i]⟩).map (ORow.ch E)))→wpList P ops Q rest (a.put dst (.slice ad ((nth or0 RA j).n+1) c)) w') :
 wpList P ops Q (⟨dst,.call ⟨.builtin .append,#[x,y],#[T,T]⟩,ty,pos,aft,none⟩::rest) a w :=
 seq_append_at (R:=RA) (R3:=[]) (L:=H0++RI.map (ORow.ch E)) (by simpa only [List.append_assoc,List.nil_append] using hS) ht hinfo hj hx hy hn (fun ad c w' hS'=>hk ad c w' (by simpa only [List.append_assoc,List.append_nil] using hS'))
end
theorem setAll_orb {N:List Nat} (hp:IsPerm N) {h:Nat} (hh:h<N.length) (L:List Int) (hL:L.length=N.length) (f:Int):setAll L (orb N (leastF N h)) f=setAll L (orb N h) f:=by
 refine nth_ext 0 (by rw [setAll_length,setAll_length]) (fun k hk=>?_);rw [setAll_length] at hk;rw [nth_setAll _ _ _ (fun q hq=>by rw [hL];exact orb_lt hp (leastF_lt hp hh) hq),nth_setAll _ _ _ (fun q hq=>by rw [hL];exact orb_lt hp hh hq)];simp only [orb_least hp hh]
def srow (r:ORow):ORow:=⟨r.k,r.ad,r.n,r.c,srtN r.is⟩
theorem oc_srow (R:List ORow) (i:Nat):oc (R.set i (srow (nth or0 R i)))=oc R:=by
 rw [oc_set]
 by_cases hi:i<R.length
 ·refine List.ext_getElem? (fun j=>?_)
  rw [List.getElem?_set]
  split
  ·rename_i e;subst e
   rw [if_pos (by rw [oc_length];exact hi),oc_at hi];rfl
  ·rfl
 ·rw [List.set_eq_of_length_le (by rw [oc_length];omega)]
def srtTo (R:List ORow) (i:Nat):List ORow:=(R.take i).map srow++R.drop i
theorem srtTo_zero (R:List ORow):srtTo R 0=R:=by simp [srtTo]
theorem srtTo_length (R:List ORow) (i:Nat):(srtTo R i).length=R.length:=by simp [srtTo];omega
theorem nth_srtTo {R:List ORow} {i:Nat} (hi:i<R.length):nth or0 (srtTo R i) i=nth or0 R i:=by
 unfold srtTo;rw [nth_eq _ _ _ (by simp;omega),nth_eq _ _ _ hi,List.getElem_append_right (by simp;omega)];simp [Nat.min_eq_left (Nat.le_of_lt hi)]
theorem srtTo_succ {R:List ORow} {i:Nat} (hi:i<R.length):(srtTo R i).set i (srow (nth or0 (srtTo R i) i))=srtTo R (i+1):=by
 rw [nth_srtTo hi];unfold srtTo;rw [List.set_append_right _ _ (by simp;omega)];have e1:i - ((R.take i).map srow).length=0:=by simp;omega
 rw [e1,List.drop_eq_getElem_cons hi,List.set_cons_zero,List.take_succ_eq_append_getElem hi,List.map_append,List.append_assoc,nth_eq _ _ _ hi]
 rfl
theorem oc_srtTo (R:List ORow):∀ i,i≤R.length→oc (srtTo R i)=oc R
 | 0,_=>by rw [srtTo_zero]
 | i+1,h=>by rw [← srtTo_succ (by omega),oc_srow,oc_srtTo R i (by omega)]
theorem srtTo_end (R:List ORow):ois (srtTo R R.length)=(ois R).map srtN:=by
 unfold srtTo ois;simp [srow,Function.comp_def]
end Go.Hp
namespace Go.Proofs
open Go.RowKit Go.Hp
theorem sort_at {w0 w:World} {L R3:List Chunk} {R:List ORow} {i:Nat} (hS:Heap w0 w (L++(R.map (ORow.ch 3)++R3))) (hi:i<R.length) (hn:(nth or0 R i).n≤1000000) :
 Calls Tryz.prog 86 #[.slice (nth or0 R i).ad (nth or0 R i).n (nth or0 R i).c] w fun e w'=>e=.returned (.tuple #[])∧Heap w0 w' (L++((R.set i (srow (nth or0 R i))).map (ORow.ch 3)++R3)):=by
 have hj:(L++(R.map (ORow.ch 3)++R3))[L.length+i]? = some (.row (.slice (nth or0 R i).ad (nth or0 R i).n (nth or0 R i).c) 3 1 (nth or0 R i).n (iv (zs (nth or0 R i).is))):=by
  rw [List.getElem?_append_right (by omega),Nat.add_sub_cancel_left,List.getElem?_append_left (by simpa using hi),List.getElem?_map,List.getElem?_eq_getElem hi,nth_eq _ _ _ hi]
  rfl
 refine (sort_row (L.length+i) hS hj hn).mono ?_;rintro e w' ⟨he,h⟩;refine⟨he,?_⟩;rw [List.set_append_right _ _ (by omega),Nat.add_sub_cancel_left,List.set_append_left _ _ (by simpa using hi)] at h
 have e1:(R.map (ORow.ch 3)).set i (.row (.slice (nth or0 R i).ad (nth or0 R i).n (nth or0 R i).c) 3 1 (nth or0 R i).n (iv (srt (zs (nth or0 R i).is))))=(R.set i (srow (nth or0 R i))).map (ORow.ch 3):=by
  rw [List.map_set,srt_zs];rfl
 rw [e1] at h;exact h
theorem rows_out {w0 w:World} {L R3:List Chunk} {R:List ORow} {v:Value} {k:Nat} {S':Nat→Prop} (hS:Heap w0 w (L++(R.map (ORow.ch 3)++R3))) (hk:R.length=k) (hv:SlC w S' 1 v k (oc R)) (hr:∀ c ∈ R.map (ORow.ch 3),∀ q,c.has q→S' q) (hb:∀ l ∈ ois R,∀ y ∈ l,y≤1000000):RowsOf w S' v (ois R):=by
 refine⟨R.map fun r=>(r.ad,r.n,r.c),by simp [ois],?_,fun i hi=>?_⟩
 ·have e1:(R.map fun r=>(r.ad,r.n,r.c)).map sv=oc R:=by rw [List.map_map];rfl
  have e2:(ois R).length=k:=by rw [← hk];simp [ois]
  rw [e1,e2];exact hv
 ·have hi2:i<R.length:=by simpa [ois] using hi
  have hj:(L++(R.map (ORow.ch 3)++R3))[L.length+i]? = some (.row (.slice (nth or0 R i).ad (nth or0 R i).n (nth or0 R i).c) 3 1 (nth or0 R i).n (iv (zs (nth or0 R i).is))):=by
   rw [List.getElem?_append_right (by omega),Nat.add_sub_cancel_left,List.getElem?_append_left (by simpa using hi2),List.getElem?_map,List.getElem?_eq_getElem hi2,nth_eq _ _ _ hi2]
   rfl
  have h1:=hS.rowSl _ hj;have hl:(nth or0 R i).n=(nth or0 R i).is.length:=by have:=h1.1;rw [iv_length,zs_length] at this;omega
  have e3:nth (none,0,0) (R.map fun r=>(r.ad,r.n,r.c)) i=((nth or0 R i).ad,(nth or0 R i).n,(nth or0 R i).c):=by
   rw [nth_eq _ _ _ (by simpa using hi2),nth_eq _ _ _ hi2];simp
  rw [e3,nth_ois];have hm:ORow.ch 3 (nth or0 R i) ∈ R.map (ORow.ch 3):=List.mem_map.2 ⟨_,nth_mem or0 R i hi2,rfl⟩;refine⟨?_,inI_zs (fun y hy=>?_)⟩
  ·rw [zs_length,← hl]
   exact h1.weaken (fun q hq=>hr _ hm q hq)
  ·have:=hb (nth or0 R i).is (List.mem_map.2 ⟨_,nth_mem or0 R i hi2,rfl⟩) y hy
   omega
theorem faces_out {w0 w wc:World} {F S0 S1:Nat→Prop} {L:List Chunk} {RI RA:List ORow} {g g2 go gi ga c co ci ca M k:Nat} {f:FRec} {m n:Nat} {org:Nat→Nat} {hasE:Nat→Bool}
 (hS:Heap w0 w (.frz F wc::(L++([.row (.slice (some ⟨g,0,none⟩) M c) 3 1 M (iv (zs f.N)),.row (.slice (some ⟨g2,0,none⟩) M M) 3 1 M (iv f.L),.row (.slice (some ⟨go,0,none⟩) k co) 3 1 k (iv f.O),.row (.slice (some ⟨gi,0,none⟩) k ci) 22 1 k (oc RI),.row (.slice (some ⟨ga,0,none⟩) k ca) 22 1 k (oc RA)]++(RI.map (ORow.ch 3)++RA.map (ORow.ch 3))))))
 (hO:∀ k,Old w0 k→F k) (hF:∀ k,S1 k→F k) (hp:Hp.Pure w0 S0 wc S1) (hg:FGood m n org hasE f) (hM:2*m=M) (hk:f.O.length=k) (hRI:RI.length=k) (hRA:RA.length=k) (hoI:ois RI=f.I) (hoA:ois RA=f.A) (hM6:M≤60000) (hn:n≤65536) :
 ∃ S',Hp.Pure w0 S0 w S'∧IsFc w S' (some ⟨g,0,none⟩,M,c) (some ⟨g2,0,none⟩,M,M) (some ⟨go,0,none⟩,k,co) (some ⟨gi,0,none⟩,k,ci) (some ⟨ga,0,none⟩,k,ca) f:=by
 obtain⟨R5,hR5⟩:∃ R5:List Chunk,R5=[.row (.slice (some ⟨g,0,none⟩) M c) 3 1 M (iv (zs f.N)),.row (.slice (some ⟨g2,0,none⟩) M M) 3 1 M (iv f.L),.row (.slice (some ⟨go,0,none⟩) k co) 3 1 k (iv f.O),.row (.slice (some ⟨gi,0,none⟩) k ci) 22 1 k (oc RI),.row (.slice (some ⟨ga,0,none⟩) k ca) 22 1 k (oc RA)]:=⟨_,rfl⟩;rw [← hR5] at hS;have hP:=hS.handAll hO hF hp;refine⟨_,hP,?_⟩;obtain⟨S',hS'⟩:∃ S':Nat→Prop,S'=fun q=>S1 q∨∃ c ∈ R5++(RI.map (ORow.ch 3)++RA.map (ORow.ch 3)),c.has q:=⟨_,rfl⟩
 rw [← hS'];have hin:∀ c ∈ R5++(RI.map (ORow.ch 3)++RA.map (ORow.ch 3)),∀ q,c.has q→S' q:=fun c hc q hq=>by rw [hS'];exact .inr ⟨c,hc,hq⟩
 have sl:∀ {v:Value} {T:TypeId} {n:Nat} {cs:List Value},Chunk.row v T 1 n cs ∈ R5→SlC w S' 1 v n cs:=fun {v T n cs} hm=>by
  have hm2:Chunk.row v T 1 n cs ∈ R5++(RI.map (ORow.ch 3)++RA.map (ORow.ch 3)):=List.mem_append_left _ hm;exact (SlC.ofRow (hS.ok _ (List.mem_cons_of_mem _ (List.mem_append_right _ hm2)))).weaken (fun q hq=>hin _ hm2 q hq)
 have g1:=sl (v:=.slice (some ⟨g,0,none⟩) M c) (T:=3) (n:=M) (cs:=iv (zs f.N)) (by rw [hR5];exact List.mem_of_getElem? (i:=0) rfl);have g2':=sl (v:=.slice (some ⟨g2,0,none⟩) M M) (T:=3) (n:=M) (cs:=iv f.L) (by rw [hR5];exact List.mem_of_getElem? (i:=1) rfl);have g3:=sl (v:=.slice (some ⟨go,0,none⟩) k co) (T:=3) (n:=k) (cs:=iv f.O) (by rw [hR5];exact List.mem_of_getElem? (i:=2) rfl);have g4:=sl (v:=.slice (some ⟨gi,0,none⟩) k ci) (T:=22) (n:=k) (cs:=oc RI) (by rw [hR5];exact List.mem_of_getElem? (i:=3) rfl);have g5:=sl (v:=.slice (some ⟨ga,0,none⟩) k ca) (T:=22) (n:=k) (cs:=oc RA) (by rw [hR5];exact List.mem_of_getElem? (i:=4) rfl);have hkb:k≤60001:=by have:=hg.olen;omega
 refine⟨⟨?_,inI_zs (fun y hy=>?_)⟩,⟨?_,fun y hy=>?_⟩,⟨?_,fun y hy=>?_⟩,?_,?_⟩
 ·rw [zs_length,hg.nlen,hM];exact g1
 ·obtain⟨i,hi,rfl⟩:=List.getElem_of_mem hy
  have:=hg.perm.lt i hi;rw [nth_eq 0 _ i hi,hg.nlen] at this;omega
 ·rw [hg.llen,hM];exact g2'
 ·obtain⟨i,hi,rfl⟩:=List.getElem_of_mem hy
  obtain⟨j,hj,e⟩:=hg.lr i (by rw [← hg.llen];exact hi);rw [nth_eq 0 _ i hi] at e;unfold InI;omega
 ·rw [hk];exact g3
 ·obtain⟨i,hi,rfl⟩:=List.getElem_of_mem hy
  by_cases h0:i=0
  ·subst h0
   have:=hg.o0;rw [nth_eq 0 _ 0 hi] at this;unfold InI;omega
  ·obtain⟨q,e,hq,_⟩:=hg.on i (by omega) hi
   rw [nth_eq 0 _ i hi] at e;unfold InI;omega
 ·rw [← hoI]
  have hS2:Heap w0 w ((.frz F wc::L++R5)++(RI.map (ORow.ch 3)++RA.map (ORow.ch 3))):=by simpa only [List.cons_append,List.append_assoc] using hS
  refine rows_out hS2 hRI g4 (fun c hc q hq=>hin c (List.mem_append_right _ (List.mem_append_left _ hc)) q hq) (fun l hl y hy=>?_);rw [hoI] at hl;obtain⟨i,hi,rfl⟩:=List.getElem_of_mem hl;rw [hg.ilen] at hi;have:=(hg.im i hi y (by rw [nth_eq [] _ i (by rw [hg.ilen];exact hi)];exact hy)).1;omega
 ·rw [← hoA]
  have hS2:Heap w0 w ((.frz F wc::L++R5++RI.map (ORow.ch 3))++(RA.map (ORow.ch 3)++[])):=by simpa only [List.cons_append,List.append_assoc,List.append_nil] using hS
  refine rows_out hS2 hRA g5 (fun c hc q hq=>hin c (List.mem_append_right _ (List.mem_append_right _ hc)) q hq) (fun l hl y hy=>?_);rw [hoA] at hl;obtain⟨i,hi,rfl⟩:=List.getElem_of_mem hl;rw [hg.alen] at hi;have:=hg.am i hi y (by rw [nth_eq [] _ i (by rw [hg.alen];exact hi)];exact hy);omega
theorem orderT {w0 w:World} {H T:List Chunk} (h:Heap w0 w (H++T)) (is:List Nat) (hp:is.isPerm (List.range H.length)=true):Heap w0 w (is.filterMap (fun i=>H[i]?)++T):=by
 refine h.perm (List.Perm.append_right T ?_);have h1:=List.isPerm_iff.1 hp;have h2:=h1.filterMap (fun i=>H[i]?);rw [filterMap_range] at h2;exact h2
end Go.Proofs
