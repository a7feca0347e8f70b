/- Texts for the walk of the law: FD DR2 FR E8 E9 ED. -/
import Derived.Test.YtihpoboahbpaiaaGreatQ23
set_option maxRecDepth 100000
set_option maxHeartbeats 16000000
set_option linter.unusedVariables false
set_option linter.unusedSimpArgs false
namespace Go.Hp
open Go Go.RowKit
structure Forest (L:List Nat):Prop where
 le:∀ v,v<L.length→nth 0 L v≤v
def repTo (L:List Nat):Nat→Nat→Nat
 | 0,v=>v
 | f+1,v=>if nth 0 L v=v then v else repTo L f (nth 0 L v)
def rep (L:List Nat) (v:Nat):Nat:=repTo L v v
theorem repTo_more {L:List Nat} (h:Forest L):∀ (v f:Nat),v<L.length→v≤f→repTo L f v=repTo L v v:=by
 intro v
 induction v using Nat.strongRecOn with
 | _ v ih =>
  intro f hv hf;have hle:=h.le v hv;cases f with
  | zero =>
   obtain rfl:v=0:=by omega
   rfl
  | succ f =>
   by_cases e:nth 0 L v=v
   ·cases v with
    | zero=>simp only [repTo,if_pos e]
    | succ v=>simp only [repTo,if_pos e]
   ·cases v with
    | zero=>omega
    | succ v =>
     simp only [repTo,if_neg e];rw [ih _ (by omega) f (by omega) (by omega),ih _ (by omega) v (by omega) (by omega)]
theorem rep_root {L:List Nat} (h:Forest L) {v:Nat} (hv:v<L.length) (e:nth 0 L v=v):rep L v=v:=by
 unfold rep;cases v with
 | zero=>rfl
 | succ v=>simp only [repTo,if_pos e]
theorem rep_step {L:List Nat} (h:Forest L) {v:Nat} (hv:v<L.length):rep L (nth 0 L v)=rep L v:=by
 by_cases e:nth 0 L v=v
 ·rw [e]
 ·have hle:=h.le v hv
  unfold rep;cases v with
  | zero=>omega
  | succ v =>
   conv=>rhs;simp only [repTo,if_neg e]
   rw [repTo_more h _ v (by omega) (by omega)]
theorem rep_spec {L:List Nat} (h:Forest L):∀ (v:Nat),v<L.length→rep L v≤v∧nth 0 L (rep L v)=rep L v:=by
 intro v
 induction v using Nat.strongRecOn with
 | _ v ih =>
  intro hv;have hle:=h.le v hv
  by_cases e:nth 0 L v=v
  ·rw [rep_root h hv e];exact⟨Nat.le_refl _,e⟩
  ·rw [← rep_step h hv]
   obtain⟨a,b⟩:=ih (nth 0 L v) (by omega) (by omega);exact⟨by omega,b⟩
theorem rep_lt {L:List Nat} (h:Forest L) {v:Nat} (hv:v<L.length):rep L v<L.length:=Nat.lt_of_le_of_lt (rep_spec h v hv).1 hv
theorem rep_rep {L:List Nat} (h:Forest L) {v:Nat} (hv:v<L.length):rep L (rep L v)=rep L v:=rep_root h (rep_lt h hv) (rep_spec h v hv).2
theorem rep_short {L:List Nat} (h:Forest L) {v:Nat} (hv:v<L.length):Forest (L.set v (rep L v))∧∀ u,u<L.length→rep (L.set v (rep L v)) u=rep L u:=by
 obtain⟨s1,s2⟩:=rep_spec h v hv
 have hF:Forest (L.set v (rep L v)):=⟨fun u hu=>by
  rw [List.length_set] at hu;rw [nth_setG _ _ _ _ _ hv]
  split
  ·omega
  ·exact h.le u hu⟩
 refine⟨hF,fun u=>?_⟩
 induction u using Nat.strongRecOn with
 | _ u ih =>
  intro hu;have hu':u<(L.set v (rep L v)).length:=by rw [List.length_set];exact hu
  have hn:=nth_setG 0 L v u (rep L v) hv
  by_cases e:u=v
  ·subst e
   rw [if_pos rfl] at hn
   by_cases e2:rep L u=u
   ·rw [rep_root hF hu' (by rw [hn,e2]),e2]
   ·rw [← rep_step hF hu',hn,ih _ (by omega) (by omega),rep_rep h hu]
  ·rw [if_neg e] at hn
   have hle:=h.le u hu
   by_cases e2:nth 0 L u=u
   ·rw [rep_root hF hu' (by rw [hn,e2]),rep_root h hu e2]
   ·rw [← rep_step hF hu',hn,ih _ (by omega) (by omega),rep_step h hu]
theorem rep_join {L:List Nat} (h:Forest L) {p q:Nat} (hp:p<L.length) (hq:q<L.length) (ep:nth 0 L p=p) (eq:nth 0 L q=q) (hpq:q≤p):Forest (L.set p q)∧∀ u,u<L.length→rep (L.set p q) u=if rep L u=p then q else rep L u:=by
 have hF:Forest (L.set p q):=⟨fun u hu=>by
  rw [List.length_set] at hu;rw [nth_setG _ _ _ _ _ hp]
  split
  ·omega
  ·exact h.le u hu⟩
 refine⟨hF,fun u=>?_⟩
 induction u using Nat.strongRecOn with
 | _ u ih =>
  intro hu;have hu':u<(L.set p q).length:=by rw [List.length_set];exact hu
  have hn:=nth_setG 0 L p u q hp
  by_cases e:u=p
  ·subst e
   rw [if_pos rfl] at hn;rw [rep_root h hu ep,if_pos rfl]
   by_cases e2:q=u
   ·rw [rep_root hF hu' (by rw [hn,e2]),e2]
   ·rw [← rep_step hF hu',hn,ih _ (by omega) (by omega),rep_root h hq eq,if_neg e2]
  ·rw [if_neg e] at hn
   have hle:=h.le u hu
   by_cases e2:nth 0 L u=u
   ·rw [rep_root hF hu' (by rw [hn,e2]),rep_root h hu e2,if_neg e]
   ·rw [← rep_step hF hu',hn,ih _ (by omega) (by omega),rep_step h hu]
def comp (E:List (Nat × Nat)):Nat→Nat→Nat
 | 0,u=>u
 | j+1,u=>if comp E j u=max (comp E j (nth (0,0) E j).1) (comp E j (nth (0,0) E j).2) then min (comp E j (nth (0,0) E j).1) (comp E j (nth (0,0) E j).2) else comp E j u
def isEnd (E:List (Nat × Nat)) (u:Nat):Prop:=∃ e ∈ E,e.1=u∨e.2=u
structure CompOk (E:List (Nat × Nat)) (j:Nat):Prop where
 le:∀ u,comp E j u≤u
 idem:∀ u,comp E j (comp E j u)=comp E j u
 edge:∀ i,i<j→comp E j (nth (0,0) E i).1=comp E j (nth (0,0) E i).2
 ends:∀ u,comp E j u=u∨(isEnd E u∧isEnd E (comp E j u))
theorem compOk (E:List (Nat × Nat)):∀ j,j≤E.length→CompOk E j
 | 0,_=>⟨fun u=>Nat.le_refl _,fun u=>rfl,fun i hi=>by omega,fun u=>.inl rfl⟩
 | j+1,hj=>by
  have ih:=compOk E j (by omega);obtain⟨a,ha⟩:∃ a,(nth (0,0) E j).1=a:=⟨_,rfl⟩;obtain⟨b,hb⟩:∃ b,(nth (0,0) E j).2=b:=⟨_,rfl⟩;have hmem:=nth_mem (0,0) E j (by omega);have hae:isEnd E a:=⟨_,hmem,.inl ha⟩;have hbe:isEnd E b:=⟨_,hmem,.inr hb⟩
  have hstep:∀ u,comp E (j+1) u=if comp E j u=max (comp E j a) (comp E j b) then min (comp E j a) (comp E j b) else comp E j u:=fun u=>by
   show (if comp E j u=max (comp E j (nth (0,0) E j).1) (comp E j (nth (0,0) E j).2) then _ else _)=_;rw [ha,hb]
  have hxe:isEnd E (comp E j a):=by
   rcases ih.ends a with h|h
   ·rw [h];exact hae
   ·exact h.2
  have hye:isEnd E (comp E j b):=by
   rcases ih.ends b with h|h
   ·rw [h];exact hbe
   ·exact h.2
  have hxi:=ih.idem a;have hyi:=ih.idem b;generalize hx:comp E j a=x at *;generalize hy:comp E j b=y at *;refine⟨fun u=>?_,fun u=>?_,fun i hi=>?_,fun u=>?_⟩
  ·have:=ih.le u
   rw [hstep];split <;> omega
  ·have h1:=ih.idem u
   have hm:comp E j (min x y)=min x y:=by
    rcases Nat.le_total x y with h|h
    ·rw [Nat.min_eq_left h];exact hxi
    ·rw [Nat.min_eq_right h];exact hyi
   rw [hstep u]
   split
   ·rw [hstep,hm];split
    ·rfl
    ·rfl
   ·rename_i hne
    rw [hstep,h1,if_neg hne]
  ·rcases Nat.lt_or_eq_of_le (Nat.lt_succ_iff.1 hi) with h|h
   ·have:=ih.edge i h
    rw [hstep,hstep,this]
   ·subst h
    rw [ha,hb,hstep a,hstep b,hx,hy]
    split <;> split <;> omega
  ·rw [hstep]
   split
   ·rename_i hcu
    by_cases hmu:min x y=u
    ·exact .inl hmu
    ·right
     have hmin:isEnd E (min x y):=by
      rcases Nat.le_total x y with h|h
      ·rw [Nat.min_eq_left h];exact hxe
      ·rw [Nat.min_eq_right h];exact hye
     refine⟨?_,hmin⟩
     rcases ih.ends u with h|h
     ·rw [hcu] at h
      rw [← h]
      rcases Nat.le_total x y with h|h
      ·rw [Nat.max_eq_right h];exact hye
      ·rw [Nat.max_eq_left h];exact hxe
     ·exact h.1
   ·exact ih.ends u
def comps (E:List (Nat × Nat)) (n:Nat):List Nat:=(List.range n).map (comp E E.length)
theorem nth_comps {E:List (Nat × Nat)} {n v:Nat} (hv:v<n):nth 0 (comps E n) v=comp E E.length v:=by
 rw [nth_eq _ _ _ (by simp [comps];exact hv)];simp [comps]
end Go.Hp
namespace Go.Hp
open Go Go.RowKit
section
variable {P:Program} {ops:Array Oper} {Q:Exit→Act→World→Prop} {rest:List Oper} {a:Act} {w w0 wr:World} {H:List Chunk} {S:Nat→Prop} {dst:Option Tmp} {x y ix:Operand} {ty T E Tb:TypeId} {pos:String} {aft:Array Edge} {gd:Option (Nat × Bool)} {K:Act→Prop} {n c g:Nat}
theorem stp_load_rowc {cs:List Value} {k q:Nat} {u:Value} (j:Nat) (hna:∀ w,(isAgg T).run P w=.ok false w) (hx:a.eval x=.pointer (some ⟨g,q,none⟩)) (hj:H[j]? = some (.row (.slice (some ⟨g,0,none⟩) n c) Tb k n cs)) (h0:cs[q]? = some u)
 (hk:K (a.put dst u)):Stp P w0 H ⟨dst,.load T x,ty,pos,aft,gd⟩ a K:=by
 refine⟨⟨_,fun w' hS=>?_,hk⟩⟩;have hr:=hS.rowSl j hj;obtain⟨hl,ad,cap,e,_,_,_,hc⟩:=hr;simp only [Value.slice.injEq] at e;have hc:=(hc ⟨g,0,none⟩ e.1.symm).cell q u h0
 have h1:w'.cell? ⟨g,q,none⟩=some u:=by
  have e2:(⟨g,0,none⟩:Addr).add q=⟨g,q,none⟩:=by rw [eval_addr,Nat.zero_add]
  first|(rw [Nat.zero_add] at hc;exact hc)
 generalize a.eval=ρ at hx;simp [execOp,hx,Instr.loadAt,Instr.sureAddr,loadVar,hna,go_sem,h1]
theorem stp_loadk_rowc {cs:List Value} {k kk q:Nat} (j:Nat) (hag:∀ w,(isAgg T).run P w=.ok true w) (hz:∀ w,(sizeOf T).run P w=.ok kk w) (hx:a.eval x=.pointer (some ⟨g,q,none⟩)) (hj:H[j]? = some (.row (.slice (some ⟨g,0,none⟩) n c) Tb k n cs)) {us:List Value} (h0:(cs.drop q).take kk=us) (hlen:us.length=kk)
 (hk:K (a.put dst (.agg us.toArray))):Stp P w0 H ⟨dst,.load T x,ty,pos,aft,gd⟩ a K:=by
 subst h0;refine⟨⟨_,fun w' hS=>?_,hk⟩⟩;have hr:=hS.rowSl j hj;obtain⟨hl,ad,cap,e,_,_,_,hc⟩:=hr;simp only [Value.slice.injEq] at e;have hc:=hc ⟨g,0,none⟩ e.1.symm
 have h1:=run_loadCells_list (P:=P) w' ⟨g,q,none⟩ ((cs.drop q).take kk) (fun j u hu=>by
  rw [eval_addr];rw [List.getElem?_take] at hu
  split at hu
  ·rw [List.getElem?_drop] at hu
   have:=hc.cell _ _ hu
   rwa [Nat.zero_add] at this
  ·cases hu)
 rw [hlen] at h1;generalize a.eval=ρ at hx;simp only [execOp,hx,Instr.loadAt,Instr.sureAddr,Sem.run_bind,Sem.run_pure,Result.andThen_ok,run_loadVar_agg hag hz h1]
theorem seq_store_rowc {cs:List Value} {k i:Nat} {v:Value} (j:Nat) (hS:Heap w0 w H) (hx:a.eval x=.pointer (some ⟨g,i,none⟩)) (hy:a.eval y=v) (hj:H[j]? = some (.row (.slice (some ⟨g,0,none⟩) n c) Tb k n cs)) (hi:i<cs.length)
 (hT:∀ w,(sizeOf T).run P w=.ok 1 w) (hv1:v.cells=#[v]) (hv:v.oneCell'=true)
 (hk:∀ w',Heap w0 w' (H.set j (.row (.slice (some ⟨g,0,none⟩) n c) Tb k n (cs.set i v)))→wpList P ops Q rest (a.put dst undef) w') :
 wpList P ops Q (⟨dst,.store T x y,ty,pos,aft,none⟩::rest) a w:=by
 obtain⟨hl,ho⟩:=hS.ok _ (List.mem_of_getElem? hj)
 rcases ho with ⟨h1,h2⟩|⟨g',cap,cur,h1,hb0,hg,hnc,hcm,hcs,htk⟩
 ·subst h2;rw [hl] at hi;omega
 ·simp only [Value.slice.injEq,Option.some.injEq,Addr.mk.injEq] at h1
  obtain⟨⟨rfl,-⟩,-,rfl⟩:=h1
  have hlt:i<cur.size:=by
   have:n*k≤c*k:=Nat.mul_le_mul_right k hnc;omega
  have hr:=run_store_blk (P:=P) (T:=T) (u:=v) (off:=i) (by rw [hv1];exact hT) hg (by rw [hv1];simp [hv]) (by rw [hv1];simp;omega);refine seq_skip (w':=w.setRow g (cur.toList.take i++v.cells.toList++cur.toList.drop (i+v.cells.size)).toArray) rfl ?_ (hk _ ?_)
  ·generalize a.eval=ρ at hx hy
   simp only [execOp,hx,hy,Instr.storeAt,Instr.sureAddr,Sem.run_bind,Sem.run_pure,Result.andThen_ok,hr]
  ·have hset:(cur.toList.take i++v.cells.toList++cur.toList.drop (i+v.cells.size))=cur.toList.set i v:=by
    rw [List.set_eq_take_append_cons_drop,if_pos (by rw [Array.length_toList];omega),hv1];simp
   rw [hset];refine hS.turn j hj rfl rfl rfl (Nat.le_refl _) (by simp [World.setRow]) ?_ (fun k hk=>.inl hk) (fun k _ hne=>setRow_other w g k _ (fun e=>hne (by simp [Chunk.has,Value.ownBlock,e])));refine⟨by rw [List.length_set];exact hl,.inr ⟨g,c,_,rfl,hb0,setRow_heap w g cur _ Tb (0,0) hg,hnc,hcm,by simp [hcs],?_⟩⟩;rw [List.take_set,htk]
end
section
variable {P:Program} {ops:Array Oper} {Q:Exit→Act→World→Prop} {rest:List Oper} {a:Act} {w w0:World} {H:List Chunk} {dst:Option Tmp} {x y:Operand} {ty T E:TypeId} {pos:String} {aft:Array Edge}
theorem seq_make_ints {n:Nat} {xv:Int} (hS:Heap w0 w H) (hu:P.underlying T=some (.slice E)) (hinfo:(P.info? E).map (fun i=>(i.zero,i.size,i.bytes))=some (some (.int .i64 0),1,8))
 (hx:a.eval x=.int .i64 xv) (hy:a.eval y=.int .i64 xv) (hxn:xv=(n:Int)) (hn:n≤65536)
 (hk:∀ b w',Heap w0 w' (H++[.row (.slice (some ⟨b,0,none⟩) n n) E 1 n (iv (List.replicate n 0))])→wpList P ops Q rest (a.put dst (.slice (some ⟨b,0,none⟩) n n)) w') :
 wpList P ops Q (⟨dst,.makeSlice T x y,ty,pos,aft,none⟩::rest) a w:=by
 subst hxn;obtain⟨i,hi,hz,hsz,hby⟩:=info_parts hinfo;have hr:=run_make (P:=P) w T E i _ hu hi hz .i64 .i64 n n (by omega) (by omega) (by rw [hby];omega) (by omega)
 have hc:madeCells (Value.int .i64 0).cells ((n:Int).toNat*i.size)=(iv (List.replicate n 0)).toArray:=by
  rw [hsz,Int.toNat_natCast,Nat.mul_one];apply Array.ext
  ·simp [madeCells,iv]
  ·intro j h1 h2
   simp [madeCells,iv,Value.cells,Nat.mod_one]
 rw [hc,Int.toNat_natCast] at hr;have hA:=hS.alloc (.cells (iv (List.replicate n 0)).toArray E (0,0));have hR:=hA.toRow (k:=1) (m:=n) (g:=w.heap.size) (arr:=(iv (List.replicate n 0)).toArray) (Tb:=E) H.length (by simp) (by simp [iv]) (by unfold maxLen;omega)
 have hR2:Heap w0 (w.alloc (.cells (iv (List.replicate n 0)).toArray E (0,0))) (H++[.row (.slice (some ⟨w.heap.size,0,none⟩) n n) E 1 n (iv (List.replicate n 0))]):=by
  simpa using hR
 refine seq_heap (w':=w.alloc (.cells (iv (List.replicate n 0)).toArray E (0,0))) (v:=.slice (some ⟨w.heap.size,0,none⟩) n n) rfl ?_ (hk _ _ hR2);simp only [execOp,hx,hy];simp [hr,go_sem]
end
section
variable {P:Program} {Q:Exit→Act→World→Prop}
theorem wp_region_sched2 {id:Nat} {a:Act} {w:World} {l:List Oper} (s:List Mv) (M:List Nat) (C D:World→Prop) (hm:P.follows .mixedOrders=true)
 (hok:(Region.noSelect l.toArray && (s.length == l.length) && schedOk .any l.toArray M s (Array.replicate l.length false))=true) (hD:D w.drew) (hDC:∀ w',D w'→C w')
 (h:∀ w',D w'→wpSched P l.toArray (NoPanic Q) C s a w'):(Code.region id l.toArray true).wp P Q a w :=
 wp_region_sched0 s M C hm hok (hDC _ hD) (h _ hD)
end
end Go.Hp
namespace Go.Proofs
open Go.Proofs.Tryz
open Go.RowKit Go.Hp
theorem infoI:(Tryz.prog.info? 3).map (fun i=>(i.zero,i.size,i.bytes))=some (some (.int .i64 0),1,8):=by kernel_rfl
def RootRes (w:World) (S:Nat→Prop) (g n c bo br:Nat) (L:List Nat) (v:Nat) (e:Ending) (w':World):Prop :=
 ∃ L':List Nat,e=.returned (.int .i64 (rep L v:Int))∧Heap w w' [.frz S w,.blk bo (.cells #[.slice (some ⟨g,0,none⟩) n c] 22 (0,0)),.blk br (.cells #[.func (.func 127) #[] #[.pointer (some ⟨bo,0,none⟩),.pointer (some ⟨br,0,none⟩)]] 118 (0,0)),.row (.slice (some ⟨g,0,none⟩) n c) 3 1 n (iv (zs L'))] ∧
  Forest L'∧L'.length=L.length∧(∀ u,u<L.length→rep L' u=rep L u)∧(∀ u,u<L.length→nth 0 L' u=nth 0 L u∨nth 0 L' u=rep L u)∧nth 0 L' v=rep L v
theorem root_any (g n c bo br:Nat):∀ (v:Nat) (L:List Nat) (w:World) (S:Nat→Prop),Forest L→L.length=n→v<n →
 Heap w w [.frz S w,.blk bo (.cells #[.slice (some ⟨g,0,none⟩) n c] 22 (0,0)),.blk br (.cells #[.func (.func 127) #[] #[.pointer (some ⟨bo,0,none⟩),.pointer (some ⟨br,0,none⟩)]] 118 (0,0)),.row (.slice (some ⟨g,0,none⟩) n c) 3 1 n (iv (zs L))] →
 Calls Tryz.prog 127 #[.int .i64 (v:Int),.pointer (some ⟨bo,0,none⟩),.pointer (some ⟨br,0,none⟩)] w (RootRes w S g n c bo br L v):=by
 intro v
 induction v using Nat.strongRecOn with
 | _ v ih =>
  intro L w S hF hLl hv hS;have hle:=hF.le v (by omega);have hnz:=nth_zs L v
  by_cases he:nth 0 L v=v
  ·have hrep:=Hd (rep_root hF (by omega) he)
   rw [he] at hnz;have q1:((v:Int) != (v:Int))=false:=by simp
   clear ih hle;replace he:=Hd he;replace hF:=Hd hF
   go_enter func127,ntmps127
   go_wp2_with (with_reducible first|refine ldB 1 hS isAgg22 ?_|refine ixS underlying22 sizeOf3 ?_|refine ldR 3 hS isAgg3 ?_)
   go_ret;refine⟨L,?_,hS,hF.out,rfl,fun u _=>rfl,fun u _=>.inl rfl,by rw [he.out,hrep.out]⟩;rw [hrep.out];show Ending.returned (.int .i64 (nth 0 (zs L) v))=_;rw [hnz]
  ·obtain⟨p,hp⟩:∃ p,nth 0 L v=p:=⟨_,rfl⟩
   have hrep:=rep_step hF (show v<L.length by omega);rw [hp] at hnz hle he hrep;have q1:((p:Int) != (v:Int))=true:=by simp;omega
   have ihp:=fun w S h=>ih p (by omega) L w S hF hLl (by omega) h
   replace hrep:=Hd hrep;replace hp:=Hd hp;replace hF:=Hd hF;clear ih
   go_enter func127,ntmps127
   go_wp2_with (with_reducible first|refine ldB 1 hS isAgg22 ?_|refine ixS underlying22 sizeOf3 ?_|refine ldR 3 hS isAgg3 ?_)
   refine wp_region_sched2 [.r 0,.p 1,.r 2,.r 3,.p 4,.p 5,.e 6,.e 7,.p 8,.m 9] [9] (fun w'=>Heap w w' [.frz S w,.blk bo (.cells #[.slice (some ⟨g,0,none⟩) n c] 22 (0,0)),.blk br (.cells #[.func (.func 127) #[] #[.pointer (some ⟨bo,0,none⟩),.pointer (some ⟨br,0,none⟩)]] 118 (0,0))]) (fun w'=>Heap w w' _) (by kernel_rfl) (by kernel_rfl) hS.drew (fun _ hZ=>Heap.sub hZ (by repeat (first|exact List.Sublist.refl _|apply List.Sublist.cons_cons|apply List.Sublist.cons))) (fun w1 hS=>?_)
   repeat (with_reducible first|refine sldB 1 isAgg22 ?_|refine sldB 2 isAgg118 ?_|refine sixS underlying22 sizeOf3 ?_|refine spL ?_)
   refine exL ?_
   (with_reducible refine ldR 3 hS isAgg3 ?_)
   refine ext_end hS.sb ?_;refine mvs ?_;refine exL ?_;simp only [hnz]
   go_wp2_with (fail)
   refine (ihp _ _ (Heap.split (A:=[.frz S w]) hS)).mono ?_;rintro e w' ⟨L1,rfl,hS1,hF1,hl1,hr1,hn1,hv1⟩;simp only [];go_step;have hS:=Heap.unsplit (A:=[.frz S w]) hS hS1;simp only [NRH] at hS;replace hF1:=Hd hF1;replace hr1:=Hd hr1;replace hn1:=Hd hn1;replace hv1:=Hd hv1;replace hl1:=Hd hl1;clear hS1;refine ext_end hS.sb ?_
   repeat (with_reducible refine sixS underlying22 sizeOf3 ?_)
   refine muL ?_
   (with_reducible refine stR 3 hS sizeOf3 fun _ hS=>?_)
   refine mut_end ?_;refine snL ?_
   go_wp2_with (with_reducible first|refine ldB 1 hS isAgg22 ?_|refine ixS underlying22 sizeOf3 ?_|refine ldR 3 hS isAgg3 ?_)
   go_ret;have hvl:v<L.length:=by omega
   have hvl1:v<L1.length:=by rw [hl1.out];exact hvl
   obtain⟨hF2,hr2⟩:=rep_short hF1.out hvl1;have e1:rep L1 v=rep L v:=hr1.out v hvl;rw [e1] at hF2 hr2;have e2:(zs L1).set v ((rep L p:Nat):Int)=zs (L1.set v (rep L v)):=by rw [hrep.out];simp [zs]
   have e3:nth 0 (L1.set v (rep L v)) v=rep L v:=by rw [nth_setG _ _ _ _ _ hvl1,if_pos rfl]
   refine⟨L1.set v (rep L v),?_,by rw [← e2];exact hS,hF2,by rw [List.length_set,hl1.out],fun u hu=>?_,fun u hu=>?_,e3⟩
   ·show Ending.returned (.int .i64 (nth 0 ((zs L1).set v ((rep L p:Nat):Int)) v))=_
    rw [e2,nth_zs,e3]
   ·rw [hr2 u (by rw [hl1.out];exact hu),hr1.out u hu]
   ·rw [nth_setG _ _ _ _ _ hvl1]
    split
    ·rename_i e;subst e;exact .inr rfl
    ·exact hn1.out u hu
end Go.Proofs
namespace Go.Hp
open Go.Proofs.Tryz
open Go Go.RowKit
def subV (ad:Option Addr) (c j m k:Nat):Value:=.slice (if c=j then ad else ad.map (·.add (j*k))) (m - j) (c - j)
theorem SlC.sub {w:World} {S:Nat→Prop} {k n c j m:Nat} {ad:Option Addr} {cs:List Value} (h:SlC w S k (.slice ad n c) n cs) (hj:j≤m) (hm:m≤n):SlC w S k (subV ad c j m k) (m - j) ((cs.take (m*k)).drop (j*k)):=by
 obtain⟨h1,a,cap,h2,h3,h4,h5,h6⟩:=h;simp only [Value.slice.injEq] at h2;obtain⟨rfl,-,rfl⟩:=h2;have hmk:m*k≤n*k:=Nat.mul_le_mul_right k hm
 have hlen:((cs.take (m*k)).drop (j*k)).length=(m - j)*k:=by
  rw [List.length_drop,List.length_take,Nat.min_eq_left (by omega),Nat.sub_mul]
 refine⟨hlen,_,_,rfl,by omega,by omega,?_,?_⟩
 ·intro e
  split at e
  ·subst e;have:=h5 rfl;omega
  ·cases ad with
   | none=>have:=h5 rfl;omega
   | some x=>simp at e
 ·intro x hx
  have hget:∀ i u,((cs.take (m*k)).drop (j*k))[i]? = some u→cs[j*k+i]? = some u:=by
   intro i u hu;rw [List.getElem?_drop,List.getElem?_take] at hu
   split at hu
   ·exact hu
   ·cases hu
  have hne:((cs.take (m*k)).drop (j*k))≠[]→cs≠[]:=fun h e=>h (by rw [e];simp)
  by_cases hcj:c=j
  ·have he:((cs.take (m*k)).drop (j*k))=[]:=List.eq_nil_of_length_eq_zero (by rw [hlen,show m - j=0 by omega,Nat.zero_mul])
   rw [he];exact⟨fun h=>absurd rfl h,fun h=>absurd rfl h,fun i u hu=>by simp at hu⟩
  ·rw [if_neg hcj] at hx
   cases ad with
   | none=>simp at hx
   | some y =>
    simp only [Option.map_some,Option.some.injEq] at hx;subst hx;have hy:=h6 y rfl;have hb:(y.add (j*k)).block=y.block:=by unfold Addr.add;split <;> rfl
    have ho:(y.add (j*k)).off=y.off+j*k:=by unfold Addr.add;split <;> simp_all
    refine⟨fun h=>?_,fun h=>by rw [hb];exact hy.inS (hne h),fun i u hu=>?_⟩
    ·have:=hy.spot (hne h)
     unfold Addr.add;split
     ·exact this
     ·rfl
    ·rw [hb,ho,Nat.add_assoc]
     exact hy.cell _ u (hget i u hu)
section
variable {P:Program} {ops:Array Oper} {Q:Exit→Act→World→Prop} {rest:List Oper} {a:Act} {w w0:World} {H:List Chunk} {K:Act→Prop}
variable {dst:Option Tmp} {ty T E:TypeId} {pos:String} {aft:Array Edge} {gd:Option (Nat × Bool)} {x lo hi y:Operand}
theorem any_slice_hiG {ad:Option Addr} {n c m k:Nat} {mv:Int} (hu:P.underlying T=some (.slice E)) (hz:∀ w,(sizeOf E).run P w=.ok k w) (hx:a.eval x=.slice ad n c) (hh:a.eval hi=.int .i64 mv) (hmv:mv=(m:Int)) (hmc:m≤c) {v:Value} (hvv:subV ad c 0 m k=v)
 (hk:K (a.put dst v)):StpAny P ⟨dst,.slice T x none (some hi) none,ty,pos,aft,gd⟩ a K:=by
 subst hmv;subst hvv;refine⟨⟨_,fun w'=>?_,hk⟩⟩;generalize a.eval=ρ at hx hh
 have hb2:(Instr.sliceBound (.int .i64 (m:Int)) c .sliceAcap).run P w'=.ok m w':=by
  simp [Instr.sliceBound,asIntOf,go_sem,hmc]
 simp [execOp,hx,hh,Instr.sliceAt,Instr.slice,Instr.sliceBounds,go_sem,run_underlying hu,hb2,hz,subV]
theorem any_slice_loG {ad:Option Addr} {n c j k:Nat} {jv:Int} (hu:P.underlying T=some (.slice E)) (hz:∀ w,(sizeOf E).run P w=.ok k w) (hx:a.eval x=.slice ad n c) (hl:a.eval lo=.int .i64 jv) (hjv:jv=(j:Int)) (hjn:j≤n) {v:Value} (hvv:subV ad c j n k=v)
 (hk:K (a.put dst v)):StpAny P ⟨dst,.slice T x (some lo) none none,ty,pos,aft,gd⟩ a K:=by
 subst hjv;subst hvv;refine⟨⟨_,fun w'=>?_,hk⟩⟩;generalize a.eval=ρ at hx hl
 have hb2:(Instr.sliceBound (.int .i64 (j:Int)) n .sliceB).run P w'=.ok j w':=by
  simp [Instr.sliceBound,asIntOf,go_sem,hjn]
 simp [execOp,hx,hl,Instr.sliceAt,Instr.slice,Instr.sliceBounds,go_sem,run_underlying hu,hb2,hz,subV]
theorem seq_append_zeros0 {k m:Nat} {mv:Int} {z:Value} {bytes:Nat} {tn:TypeId} {kn:IntKind} (hS:Heap w0 w H) (hu:P.underlying T=some (.slice E)) (htn:P.underlying tn=some (.int kn)) (hinfo:(P.info? E).map (fun i=>(i.zero,i.size,i.bytes))=some (some z,k,bytes)) (hk0:0<k) (hzk:z.cells.size=k)
 (hx:a.eval x=.slice none 0 0) (hy:a.eval y=.int .i64 mv) (hmv:mv=(m:Int)) (hm0:0<m) (hbytes:m*bytes≤140737488355328) (h63:m≤9223372036854775807)
 (hk:∀ b G arr w',Heap w0 w' (H++[.blk b (.cells arr E (0,0))])→arr.size=G*k→m≤G→G≤maxLen→wpList P ops Q rest (a.put dst (.slice (some ⟨b,0,none⟩) m G)) w') :
 wpList P ops Q (⟨dst,.call ⟨.builtin .append,#[x,y],#[T,tn]⟩,ty,pos,aft,none⟩::rest) a w:=by
 subst hmv;obtain⟨inf,hi,hz,hsz,hby⟩:=info_parts hinfo;have hold:(Builtin.firstCells inf.size 0 (.slice none 0 0)).run P w.drew=.ok ([]:List Value).toArray w.drew:=rfl;have hr:=Lib.run_append_grow_zeros (P:=P) w T tn ty E inf z .i64 kn hu htn hi hz none 0 0 [] hold m hm0 (by omega) (by omega) (by omega) (by rw [hby];omega) (by rw [hby];exact growslice_fits (by omega) (by simpa using hbytes));have hG1:m≤grownCap w m 0 E:=grownCap_ge w _ _ _;have hG2:grownCap w m 0 E≤maxLen:=grownCap_le_maxLen w m 0 E (by unfold maxLen;omega);simp only [Nat.zero_add] at hr;refine Lib.wpList_append_run w rfl x y T tn rfl _ _ hx hy _ _ hr (hk w.heap.size (grownCap w m 0 E) _ _ (hS.drew.alloc _) ?_ hG1 hG2);simp only [Builtin.zeroCells,hzk,Array.size_append,List.size_toArray,List.length_nil,Array.size_map,Array.size_range];rw [Nat.zero_add,← Nat.add_mul]
 congr 1;omega
end
end Go.Hp
namespace Go.Proofs
open Go.Proofs.Tryz
open Go.RowKit Go.Hp
theorem growS_any (n:Nat) (w:World) (hn:n≤1000000) :
 Calls Tryz.prog 114 #[.slice none 0 0,.int .i64 (n:Int)] w fun e w'=>∃ ad c,e=.returned (.slice ad 0 c)∧Heap w w' [.frz (Old w) w,.row (.slice ad 0 c) 95 4 0 []]:=by
 have hS:=Heap.start w
 by_cases h0:n=0
 ·subst h0
  go_enter func114,ntmps114
  go_wp2;go_ret;exact⟨none,0,rfl,hS.addNil 95 4⟩
 ·have hd:decide (0<n)=true:=by simp;omega
  have w1:IntKind.i64.wrap (n:Int)=(n:Int):=w6
  go_enter func114,ntmps114
  go_wp2_with (first|((with_reducible refine g_app ?_);refine seq_append_zeros0 (m:=n) (T:=23) (E:=95) (tn:=3) (k:=4) hS underlying23 underlying3 infoS (by decide) rfl rfl rfl (by omega) (by omega) (by omega) (by omega) (fun b G arr _ hS harr hG1 hG2=>?_);simp only [NRM];simp only [NRH] at hS))
  go_ret;have hS:=hS.closeRow (c:=G) (n:=0) (k:=4) 1 rfl (by simpa using harr) (by omega) hG2;simp only [List.set_cons_succ,List.set_cons_zero,Nat.zero_mul,List.take_zero] at hS;exact⟨_,_,rfl,hS⟩
end Go.Proofs
namespace Go.Proofs
open Go.Proofs.Tryz
open Go.RowKit Go.Hp
theorem concatS_any (b:Nat) (ad1 ad2:Option Addr) (n1 c1 n2 c2:Nat) (l1 l2:List Sz) (w:World) (S:Nat→Prop) (hL:Liv w S) (hb:SlC w (fun k=>k=b) 1 (.slice (some ⟨b,0,none⟩) 2 2) 2 [.slice ad1 n1 c1,.slice ad2 n2 c2]) (hb2:b<w.heap.size)
 (hv1:SlC w S 4 (.slice ad1 n1 c1) l1.length (l1.flatMap sc)) (hv2:SlC w S 4 (.slice ad2 n2 c2) l2.length (l2.flatMap sc)) (hl1:l1.length≤100000) (hl2:l2.length≤100000) :
 Calls Tryz.prog 68 #[.slice (some ⟨b,0,none⟩) 2 2] w fun e w'=>∃ ad c S',e=.returned (.slice ad (l1++l2).length c)∧Pure w S w' S'∧SlC w' S' 4 (.slice ad (l1++l2).length c) (l1++l2).length ((l1++l2).flatMap sc):=by
 obtain rfl:n1=l1.length:=by obtain⟨h1,a,cap,h2,_⟩:=hv1;cases h2;rfl
 obtain rfl:n2=l2.length:=by obtain⟨h1,a,cap,h2,_⟩:=hv2;cases h2;rfl
 rw [List.length_append,List.flatMap_append];have hvF1:SlC w (Old w) 4 _ _ _:=hv1.weaken hL;have hvF2:SlC w (Old w) 4 _ _ _:=hv2.weaken hL;have hbF:SlC w (Old w) 1 _ _ _:=hb.weaken (fun k h=>by rw [h];exact hb2);have hS:=Heap.start w;have hF0:=hL;obtain⟨M,hM⟩:∃ M,M=l1.length+l2.length:=⟨_,rfl⟩;have w1:IntKind.i64.wrap (l1.length:Int)=(l1.length:Int):=w6;have w2:IntKind.i64.wrap ((l1.length:Int)+(l2.length:Int))=(M:Int):=w7;have w3:decide ((M:Int)<0)=false:=by simp
 have gr:=fun w=>growS_any M w (by omega)
 replace hM:=Hd hM;clear hv1 hv2 hb hb2
 go_enter func68,ntmps68
 go_wp2;refine wp_loop_rounds 3 ?_;rw [rounds_succ]
 go_wp2_with (first|((with_reducible refine g_idx (T:=192) ?_);refine seq_any rfl (any_index (T:=192) underlying192 sizeOf23 rfl rfl hbF (by omega) (by omega) (by omega) (fun bq oq hcellq=>?_));replace hcellq:CellsAt _ _ ⟨bq,oq,none⟩ [.slice ad1 l1.length c1]:=hcellq;simp only [NRM])|(with_reducible refine ld0 hS isAgg23 ?_))
 first|rw [rounds_succ]
 go_wp2_with (first|((with_reducible refine g_idx (T:=192) ?_);refine seq_any rfl (any_index (T:=192) underlying192 sizeOf23 rfl rfl hbF (by omega) (by omega) (by omega) (fun bq oq hcellq=>?_));replace hcellq:CellsAt _ _ ⟨bq,oq,none⟩ [.slice ad2 l2.length c2]:=hcellq;simp only [NRM])|(with_reducible refine ld0 hS isAgg23 ?_))
 first|rw [rounds_succ]
 go_wp2_with (fail)
 refine (gr _).mono ?_;rintro e w' ⟨ad,c,rfl,hG⟩;have hS2:=hS.import hG;clear hS hG gr;have hS:=hS2;clear hS2;simp only [NRH] at hS;simp only [];go_wp2;refine wp_loop_rounds 3 ?_;rw [rounds_succ]
 go_wp2_with (first|((with_reducible refine g_idx (T:=192) ?_);refine seq_any rfl (any_index (T:=192) underlying192 sizeOf23 rfl rfl hbF (by omega) (by omega) (by omega) (fun bq oq hcellq=>?_));replace hcellq:CellsAt _ _ ⟨bq,oq,none⟩ [.slice ad1 l1.length c1]:=hcellq;simp only [NRM])|(with_reducible refine ld0 hS isAgg23 ?_)|((with_reducible refine g_app ?_);refine seq_append (t:=23) 1 hS underlying23 infoS rfl (by decide) rfl rfl rfl hvF1 (by simp) (sc_one l1) (by omega) (by unfold maxLen;omega) (fun _ _ _ hS=>?_);simp only [NRM];simp only [NRH] at hS;try simp only [Nat.zero_add,List.nil_append] at hS ⊢))
 first|rw [rounds_succ]
 go_wp2_with (first|((with_reducible refine g_idx (T:=192) ?_);refine seq_any rfl (any_index (T:=192) underlying192 sizeOf23 rfl rfl hbF (by omega) (by omega) (by omega) (fun bq oq hcellq=>?_));replace hcellq:CellsAt _ _ ⟨bq,oq,none⟩ [.slice ad2 l2.length c2]:=hcellq;simp only [NRM])|(with_reducible refine ld0 hS isAgg23 ?_)|((with_reducible refine g_app ?_);refine seq_append (t:=23) 1 hS underlying23 infoS rfl (by decide) rfl rfl rfl hvF2 (by simp) (sc_one l2) (by omega) (by unfold maxLen;omega) (fun _ _ _ hS=>?_);simp only [NRM];simp only [NRH] at hS;try simp only [Nat.zero_add,List.nil_append] at hS ⊢))
 first|rw [rounds_succ]
 go_wp2;go_ret;exact⟨_,_,_,rfl,hS.handOut (fun _ h=>h) hF0 (Pure.refl w S) (List.mem_of_getElem? (i:=0) rfl),(hS.rowSl 1 rfl).weaken fun k h=>.inr h⟩
end Go.Proofs
namespace Go.Hp
open Go Go.RowKit
structure Ed where
 a:Nat
 b:Nat
 of:List Nat
 dir:Gp
def ed0:Ed:=⟨0,0,[],g0⟩
structure ER where
 a:Nat
 b:Nat
 ad:Option Addr
 n:Nat
 c:Nat
 dir:Gp
def er0:ER:=⟨0,0,none,0,0,g0⟩
def ec (e:ER):List Value:=[.int .i64 e.a,.int .i64 e.b,.slice e.ad e.n e.c,.int .i64 e.dir.x,.int .i64 e.dir.y]
theorem ec_len (e:ER):(ec e).length=5:=rfl
theorem ec_one (l:List ER):∀ v ∈ l.flatMap ec,v.oneCell'=true:=by
 intro v hv;obtain⟨p,_,h⟩:=List.mem_flatMap.1 hv;simp only [ec,List.mem_cons,List.not_mem_nil,or_false] at h
 rcases h with rfl|rfl|rfl|rfl|rfl <;> rfl
structure IsE (w:World) (S:Nat→Prop) (r:ER) (e:Ed):Prop where
 a:r.a=e.a
 b:r.b=e.b
 dir:r.dir=e.dir
 of:Nats w S (.slice r.ad r.n r.c) e.of
structure IsEs (w:World) (S:Nat→Prop) (rs:List ER) (es:List Ed):Prop where
 len:rs.length=es.length
 el:∀ i,i<es.length→IsE w S (nth er0 rs i) (nth ed0 es i)
theorem Nats.move {w wr:World} {S:Nat→Prop} {v:Value} {xs:List Nat} (h:Nats wr S v xs) (hk:∀ k,S k→w.heap[k]? = wr.heap[k]?):Nats w S v xs:=⟨h.1.move hk,h.2⟩
theorem Nats.grow {w w':World} {S S':Nat→Prop} {v:Value} {xs:List Nat} (h:Nats w S v xs) (hp:Pure w S w' S'):Nats w' S' v xs:=⟨h.1.grow hp,h.2⟩
theorem IsE.move {w wr:World} {S:Nat→Prop} {r:ER} {e:Ed} (h:IsE wr S r e) (hk:∀ k,S k→w.heap[k]? = wr.heap[k]?):IsE w S r e:=⟨h.a,h.b,h.dir,h.of.move hk⟩
theorem IsE.grow {w w':World} {S S':Nat→Prop} {r:ER} {e:Ed} (h:IsE w S r e) (hp:Pure w S w' S'):IsE w' S' r e:=⟨h.a,h.b,h.dir,h.of.grow hp⟩
theorem IsE.weaken {w:World} {S T:Nat→Prop} {r:ER} {e:Ed} (h:IsE w S r e) (hST:∀ k,S k→T k):IsE w T r e:=⟨h.a,h.b,h.dir,h.of.weaken hST⟩
theorem IsEs.move {w wr:World} {S:Nat→Prop} {rs:List ER} {es:List Ed} (h:IsEs wr S rs es) (hk:∀ k,S k→w.heap[k]? = wr.heap[k]?):IsEs w S rs es:=⟨h.len,fun i hi=>(h.el i hi).move hk⟩
theorem IsEs.at {w0 w wr:World} {H:List Chunk} {F S:Nat→Prop} {rs:List ER} {es:List Ed} (h:IsEs wr S rs es) (hS:Heap w0 w (.frz F wr::H)) (hF:∀ k,S k→F k):IsEs w S rs es:=h.move (hS.keep hF)
theorem IsEs.grow {w w':World} {S S':Nat→Prop} {rs:List ER} {es:List Ed} (h:IsEs w S rs es) (hp:Pure w S w' S'):IsEs w' S' rs es:=⟨h.len,fun i hi=>(h.el i hi).grow hp⟩
theorem IsEs.weaken {w:World} {S T:Nat→Prop} {rs:List ER} {es:List Ed} (h:IsEs w S rs es) (hST:∀ k,S k→T k):IsEs w T rs es:=⟨h.len,fun i hi=>(h.el i hi).weaken hST⟩
theorem IsPs.snoc {w:World} {S:Nat→Prop} {rs:List PR} {es:List Pt} (h:IsPs w S rs es) {r:PR} {e:Pt} (hr:IsP w S r e):IsPs w S (rs++[r]) (es++[e]):=by
 have hl:=h.len;refine⟨by simp [hl],fun i hi=>?_⟩;simp only [List.length_append,List.length_singleton] at hi
 rcases Nat.lt_or_ge i es.length with h1|h1
 ·rw [nth_append_left _ _ _ _ h1,nth_append_left _ _ _ _ (by omega)];exact h.el i h1
 ·obtain rfl:i=es.length:=by omega
  rw [nth_snoc,← hl,nth_snoc];exact hr
theorem IsPs.append {w:World} {S:Nat→Prop} {rs rs2:List PR} {es es2:List Pt} (h:IsPs w S rs es) (h2:IsPs w S rs2 es2):IsPs w S (rs++rs2) (es++es2):=by
 have hl:=h.len;have hl2:=h2.len;refine⟨by simp [hl,hl2],fun i hi=>?_⟩;rw [List.length_append] at hi
 rcases Nat.lt_or_ge i es.length with h1|h1
 ·rw [nth_append_left _ _ _ _ h1,nth_append_left _ _ _ _ (by omega)];exact h.el i h1
 ·rw [nth_append_right _ _ _ _ h1,nth_append_right _ _ _ _ (by omega),hl];exact h2.el _ (by omega)
theorem CellsAt.part {w:World} {S:Nat→Prop} {b o:Nat} {cs:List Value} (h:CellsAt w S ⟨b,o,none⟩ cs) (i k:Nat):CellsAt w S ⟨b,o+i,none⟩ ((cs.drop i).take k):=by
 refine⟨fun _=>rfl,fun hne=>h.inS (fun e=>hne (by rw [e];simp)),fun j u hu=>?_⟩;rw [List.getElem?_take] at hu
 split at hu
 ·rw [List.getElem?_drop] at hu
  have:=h.cell (i+j) u hu
  simpa [Nat.add_assoc] using this
 ·cases hu
end Go.Hp
