/- Of DR DR2 FR E1. -/
import Derived.Lib.AppendZerosOnto
import Derived.Lib.AppendZeros
import Derived.Lib.Overlaps
import Derived.Laws.Externs
import Derived.Test.YtjeofihncbegfaaGreatQ21
set_option maxRecDepth 100000
set_option maxHeartbeats 16000000
set_option linter.unusedVariables false
set_option linter.unusedSimpArgs false
namespace Go.Hp
open Go
section
variable {P:Program} {ops:Array Oper} {Q:Exit→Act→World→Prop} {rest:List Oper} {a:Act} {w w0:World} {H:List Chunk} {K:Act→Prop} {C:World→Prop} {s:List Mv} {i:Nat}
variable {dst:Option Tmp} {ty T E Tb:TypeId} {pos:String} {aft:Array Edge} {gd:Option (Nat × Bool)} {x y ix:Operand} {g n c:Nat}
theorem Heap.rowSl {v:Value} {k:Nat} {cs:List Value} (hS:Heap w0 w H) (j:Nat) (hj:H[j]? = some (.row v Tb k n cs)):SlC w (Chunk.row v Tb k n cs).has k v n cs:=SlC.ofRow (hS.ok _ (List.mem_of_getElem? hj))
theorem Heap.rowCap {ad:Option Addr} {k:Nat} {cs:List Value} (hS:Heap w0 w H) (j:Nat) (hj:H[j]? = some (.row (.slice ad n c) Tb k n cs)):n≤c:=by
 obtain⟨_,a,cap,e,h,_⟩:=hS.rowSl j hj;simp only [Value.slice.injEq] at e;omega
theorem Heap.toRow {arr:Array Value} {k m:Nat} (hS:Heap w0 w H) (j:Nat) (hj:H[j]? = some (.blk g (.cells arr Tb (0,0)))) (hl:arr.size=m*k) (hm:m≤maxLen):Heap w0 w (H.set j (.row (.slice (some ⟨g,0,none⟩) m m) Tb k m arr.toList)):=by
 have hok:w.heap[g]? = some (.cells arr Tb (0,0)):=hS.ok _ (List.mem_of_getElem? hj);refine hS.turn j hj rfl rfl rfl (Nat.le_refl _) (Nat.le_refl _) ⟨by simpa using hl,.inr ⟨g,m,arr,rfl,Nat.zero_le _,hok,Nat.le_refl _,hm,hl,?_⟩⟩ (fun k hk=>.inl (by simp only [Chunk.has,Value.ownBlock] at hk ⊢;simpa using hk.symm)) (fun _ _ _=>rfl);rw [← hl,← Array.length_toList,List.take_length]
theorem any_index_atk {off k:Nat} (hu:P.underlying T=some (.slice E)) (hz:∀ w,(sizeOf E).run P w=.ok k w) {i:Int} (hx:a.eval x=.slice (some ⟨g,off,none⟩) n c) (hi:a.eval ix=.int .i64 i) (hlo:0≤i) (hhi:i<n)
 (hk:K (a.put dst (.pointer (some ⟨g,off+i.toNat*k,none⟩)))):StpAny P ⟨dst,.indexAddr T x ix,ty,pos,aft,gd⟩ a K:=by
 have hadd:(⟨g,off,none⟩:Addr).add (i.toNat*k)=⟨g,off+i.toNat*k,none⟩:=by unfold Addr.add;split <;> simp_all
 refine⟨⟨.pointer (some ⟨g,off+i.toNat*k,none⟩),fun w'=>?_,hk⟩⟩;generalize a.eval=ρ at hx hi;simp [execOp,hx,hi,Instr.indexAt,asIntOf,go_sem,run_underlying hu,hlo,hhi,hz,hadd]
theorem seq_bsL {k:Nat} {z:Value} {els:Array (Nat × Operand)} {L:List (Nat × Value)} {arr:Array Value} (hS:Heap w0 w H) (hu:P.underlying T=some (.slice E)) (hsz:∀ w,(sizeOf E).run P w=.ok k w) (hz:∀ w,(zeroValue E).run P w=.ok z w)
 (h0:0<n*k) (hl:n*k≤16777216) (hf:Instr.fill (fun i=>some (i*k,k)) ((Array.range (n*k)).map (z.cells[· % z.cells.size]!)) L=some arr) (hx:els.toList.map (fun y=>(y.1,a.eval y.2))=L) (hg:Region.wanted ⟨dst,.buildSlice T n els,ty,pos,aft,gd⟩ (yielded ops a.tmps)=true)
 (hk:∀ b w',Heap w0 w' (H++[.blk b (.cells arr E (0,0))])→wpList P ops Q rest (a.put dst (.slice (some ⟨b,0,none⟩) n n)) w'):wpList P ops Q (⟨dst,.buildSlice T n els,ty,pos,aft,gd⟩::rest) a w:=by
 refine seq_heap (w':=w.alloc (.cells arr E (0,0))) (v:=.slice (some ⟨w.heap.size,0,none⟩) n n) hg ?_ (hk _ _ (hS.alloc _));generalize a.eval=ρ at hx;have h1:¬ (16777216<n*k):=by omega
 have h2:¬ (n*k=0):=by omega
 simp only [execOp,Instr.buildSlice,Sem.run_bind,run_underlying hu,hsz,Result.andThen_ok,gt_iff_lt,Nat.reducePow,h1,if_false,h2,hz,Sem.run_pure,Array.toList_map,hx,hf]
 rfl
end
end Go.Hp
namespace Go.Hp
open Go Go.RowKit
section
variable {P:Program} {ops:Array Oper} {Q:Exit→Act→World→Prop} {rest:List Oper} {a:Act} {w w0:World} {H:List Chunk} {K:Act→Prop}
variable {dst:Option Tmp} {ty T E Tb sT:TypeId} {pos:String} {aft:Array Edge} {gd:Option (Nat × Bool)} {x y ix:Operand} {g n c k:Nat}
theorem Heap.openRow {ad:Option Addr} {cs:List Value} (hS:Heap w0 w H) (j:Nat) (hj:H[j]? = some (.row (.slice ad n c) Tb k n cs)) (hn:0<n) :
 ∃ g cur,ad=some ⟨g,0,none⟩∧n≤c∧c≤maxLen∧cur.size=c*k∧cs.length=n*k∧cur.toList.take (n*k)=cs∧Heap w0 w (H.set j (.blk g (.cells cur Tb (0,0)))):=by
 obtain⟨hl,ho⟩:=hS.ok _ (List.mem_of_getElem? hj)
 rcases ho with ⟨h1,h2⟩|⟨g,cap,cur,h1,hb0,hg,hnc,hcm,hcs,htk⟩
 ·omega
 ·simp only [Value.slice.injEq] at h1
  obtain⟨rfl,-,rfl⟩:=h1;refine⟨g,cur,rfl,hnc,hcm,hcs,hl,htk,?_⟩;exact hS.turn j hj rfl rfl rfl (Nat.le_refl _) (Nat.le_refl _) hg (fun k hk=>.inl (by simp only [Chunk.has,Value.ownBlock] at hk ⊢;rw [hk])) (fun _ _ _=>rfl)
theorem Heap.closeRow {arr:Array Value} (hS:Heap w0 w H) (j:Nat) (hj:H[j]? = some (.blk g (.cells arr Tb (0,0)))) (hl:arr.size=c*k) (hn:n≤c) (hm:c≤maxLen):Heap w0 w (H.set j (.row (.slice (some ⟨g,0,none⟩) n c) Tb k n (arr.toList.take (n*k)))):=by
 have hok:w.heap[g]? = some (.cells arr Tb (0,0)):=hS.ok _ (List.mem_of_getElem? hj);have h1:n*k≤c*k:=Nat.mul_le_mul_right k hn;exact hS.turn j hj rfl rfl rfl (Nat.le_refl _) (Nat.le_refl _) ⟨by simp;omega,.inr ⟨g,c,arr,rfl,Nat.zero_le _,hok,hn,hm,hl,rfl⟩⟩ (fun k hk=>.inl (by simp only [Chunk.has,Value.ownBlock] at hk ⊢;simpa using hk.symm)) (fun _ _ _=>rfl)
theorem run_copy_k {w:World} {elem:TypeId} {cur:Array Value} {t:TypeId} {o dLen dCap sLen sCap m:Nat} {ad:Addr} {cs:List Value} (hu:P.underlying T=some (.slice elem)) (hs:(P.info? elem).map (·.size)=some k) (hm:m=Nat.min sLen dLen) (hl:cs.length=m*k)
 (hsrc:∀ i v,cs[i]? = some v→w.cell? (ad.add i)=some v) (hg:w.heap[g]? = some (.cells cur t (0,0))) (hfit:o+cs.length≤cur.size) (h1:∀ v ∈ cs,v.oneCell'=true) :
 (Builtin.copy_ #[T,sT] ty #[.slice (some ⟨g,o,none⟩) dLen dCap,.slice (some ad) sLen sCap]).run P w=.ok (goInt m) (w.setRow g (cur.toList.take o++cs++cur.toList.drop (o+cs.length)).toArray):=by
 have hld:=run_loadCells_list (P:=P) w ad cs hsrc;have hst:=run_storeCells_at (P:=P) g o t cs 0 cur w hg (by simpa using hfit) h1;simp only [Nat.add_zero] at hst;cases hq:P.info? elem with
 | none=>simp [hq] at hs
 | some i =>
  have hi:i.size=k:=by simpa [hq] using hs
  rw [hl] at hld;simp [Builtin.copy_,run_underlying hu,Builtin.lenOf,Builtin.firstCells,sizeOf,typeInfo,hq,hi,← hm,hld,hst,Sem.run_bind]
theorem g_cpy {args:Array Operand} {ts:Array TypeId} (h:wpList P ops Q (⟨dst,.call ⟨.builtin .copy,args,ts⟩,ty,pos,aft,gd⟩::rest) a w):wpList P ops Q (⟨dst,.call ⟨.builtin .copy,args,ts⟩,ty,pos,aft,gd⟩::rest) a w:=h
theorem seq_copy_k {elem:TypeId} {cur:Array Value} {o dLen dCap sLen sCap m:Nat} {ad:Addr} {cs:List Value} (j:Nat) (hS:Heap w0 w H) (hu:P.underlying T=some (.slice elem)) (hs:(P.info? elem).map (·.size)=some k) (hx:a.eval x=.slice (some ⟨g,o,none⟩) dLen dCap) (hy:a.eval y=.slice (some ad) sLen sCap)
 (hj:H[j]? = some (.blk g (.cells cur Tb (0,0)))) (hm:m=Nat.min sLen dLen) (hl:cs.length=m*k) (hsrc:∀ i v,cs[i]? = some v→w.cell? (ad.add i)=some v) (hfit:o+cs.length≤cur.size) (h1:∀ v ∈ cs,v.oneCell'=true)
 (hk:∀ w',Heap w0 w' (H.set j (.blk g (.cells (cur.toList.take o++cs++cur.toList.drop (o+cs.length)).toArray Tb (0,0))))→wpList P ops Q rest (a.put dst (.int .i64 m)) w'):wpList P ops Q (⟨dst,.call ⟨.builtin .copy,#[x,y],#[T,sT]⟩,ty,pos,aft,none⟩::rest) a w:=by
 have hg:=hS.blk (List.mem_of_getElem? hj);have hr:=run_copy_k (P:=P) (sT:=sT) (ty:=ty) (dCap:=dCap) (sCap:=sCap) hu hs hm hl hsrc hg hfit h1;have hlt:g<w.heap.size:=(Array.getElem?_eq_some_iff.1 hg).1;refine seq_heap (w':=w.setRow g (cur.toList.take o++cs++cur.toList.drop (o+cs.length)).toArray) (v:=.int .i64 (m:Nat)) rfl ?_ (hk _ (hS.write (o':=.cells (cur.toList.take o++cs++cur.toList.drop (o+cs.length)).toArray Tb (0,0)) j hj rfl rfl rfl (Nat.le_refl _) (by simp [World.setRow]) (setRow_heap w g cur _ _ _ hg) (fun k _ hkb=>by simp [World.setRow,Array.getElem?_modify,Ne.symm hkb])));generalize a.eval=ρ at hx hy;simp [execOp,resolve,invoke,builtin,hx,hy,hr,go_sem,goInt]
theorem cells_of_blk {arr:Array Value} {o:Nat} {cs:List Value} (hS:Heap w0 w H) (hm:Chunk.blk g (.cells arr Tb (0,0)) ∈ H) (h:cs=(arr.toList.drop o).take cs.length):∀ i v,cs[i]? = some v→w.cell? ((⟨g,o,none⟩:Addr).add i)=some v:=by
 intro i v hv;rw [eval_addr,cell_of_row w g (o+i) arr Tb (0,0) (hS.blk hm)];rw [h,List.getElem?_take] at hv
 split at hv
 ·rw [List.getElem?_drop] at hv
  simpa using hv
 ·cases hv
theorem seq_append_zeros {i m:Nat} {mv:Int} {z:Value} {bytes:Nat} {cur:Array Value} {tn:TypeId} {kn:IntKind} (j:Nat) (hS:Heap w0 w H) (hu:P.underlying T=some (.slice E)) (htn:P.underlying tn=some (.int kn)) (hinfo:(P.info? E).map (fun i=>(i.zero,i.size,i.bytes))=some (some z,k,bytes)) (hk0:0<k) (hzk:z.cells.size=k)
 (hx:a.eval x=.slice (some ⟨g,0,none⟩) i c) (hy:a.eval y=.int .i64 mv) (hmv:mv=(m:Int)) (hm0:0<m) (hroom:c<i+m) (hj:H[j]? = some (.blk g (.cells cur Tb (0,0)))) (hcur:i*k≤cur.size) (hbytes:(i+m)*bytes≤140737488355328) (h63:i+m≤9223372036854775807)
 (hk:∀ b G arr w',Heap w0 w' (H++[.blk b (.cells arr E (0,0))])→arr.size=G*k→i+m≤G→G≤maxLen→arr.toList.take (i*k)=cur.toList.take (i*k)→wpList P ops Q rest (a.put dst (.slice (some ⟨b,0,none⟩) (i+m) G)) w') :
 wpList P ops Q (⟨dst,.call ⟨.builtin .append,#[x,y],#[T,tn]⟩,ty,pos,aft,none⟩::rest) a w:=by
 subst hmv;obtain⟨inf,hi,hz,hsz,hby⟩:=info_parts hinfo;have hg:=hS.blk (List.mem_of_getElem? hj)
 have hold:(Builtin.firstCells inf.size i (.slice (some ⟨g,0,none⟩) i c)).run P w.drew=.ok (cur.toList.take (i*k)).toArray w.drew:=by
  rw [hsz]
  exact run_firstCells_some w.drew k i ⟨g,0,none⟩ i c (cur.toList.take (i*k)) (by rw [List.length_take];simp;omega) (fun q v hq=>by
   rw [eval_addr,Nat.zero_add];rw [List.getElem?_take] at hq
   split at hq
   ·rw [cell_of_row w.drew g q cur Tb (0,0) hg];simpa using hq
   ·cases hq)
 have hr:=Lib.run_append_grow_zeros (P:=P) w T tn ty E inf z .i64 kn hu htn hi hz (some ⟨g,0,none⟩) i c (cur.toList.take (i*k)) hold m hm0 (by omega) hroom (by omega) (by rw [hby];have:m*bytes≤(i+m)*bytes:=Nat.mul_le_mul_right _ (by omega);omega) (by rw [hby];exact growslice_fits hroom hbytes);have hG1:i+m≤grownCap w (i+m) c E:=grownCap_ge w _ _ _;have hG2:grownCap w (i+m) c E≤maxLen:=grownCap_le_maxLen w (i+m) c E (by unfold maxLen;omega);refine Lib.wpList_append_run w rfl x y T tn rfl _ _ hx hy _ _ hr (hk w.heap.size (grownCap w (i+m) c E) _ _ (hS.drew.alloc _) ?_ hG1 hG2 ?_)
 ·simp only [Builtin.zeroCells,hzk,Array.size_append,List.size_toArray,List.length_take,Array.length_toList,Array.size_map,Array.size_range,Nat.min_eq_left hcur]
  rw [← Nat.add_mul,← Nat.add_mul]
  congr 1;omega
 ·simp only [Array.toList_append,List.append_assoc]
  rw [List.take_append_of_le_length (by simp;omega),List.take_of_length_le (by simp;omega)]
theorem any_slice_lo {lo:Operand} {off j b:Nat} {jv:Int} (hu:P.underlying T=some (.slice E)) (hz:∀ w,(sizeOf E).run P w=.ok k w) (hx:a.eval x=.slice (some ⟨b,off,none⟩) n c) (hl:a.eval lo=.int .i64 jv) (hjv:jv=(j:Int)) (hjn:j≤n) (hjc:j<c)
 (hk:K (a.put dst (.slice (some ⟨b,off+j*k,none⟩) (n - j) (c - j)))):StpAny P ⟨dst,.slice T x (some lo) none none,ty,pos,aft,gd⟩ a K:=by
 subst hjv;refine⟨⟨_,fun w'=>?_,hk⟩⟩;generalize a.eval=ρ at hx hl
 have hb2:(Instr.sliceBound (.int .i64 (j:Int)) n .sliceB).run P w'=.ok j w':=by
  simp [Instr.sliceBound,asIntOf,go_sem,hjn]
 have hadd:(⟨b,off,none⟩:Addr).add (j*k)=⟨b,off+j*k,none⟩:=by unfold Addr.add;split <;> simp_all
 simp [execOp,hx,hl,Instr.sliceAt,Instr.slice,Instr.sliceBounds,go_sem,run_underlying hu,hb2,hz,show ¬ c=j by omega,hadd]
end
end Go.Hp
namespace Go.Hp
open Go Go.RowKit
section
variable {P:Program} {ops:Array Oper} {Q:Exit→Act→World→Prop} {rest:List Oper} {a:Act} {w w0 wr:World} {H:List Chunk} {S:Nat→Prop} {dst:Option Tmp} {x y ix:Operand} {ty T E Tb:TypeId} {pos:String} {aft:Array Edge} {gd:Option (Nat × Bool)} {K:Act→Prop} {n c g:Nat}
theorem stp_load_rowc {cs:List Value} {k q:Nat} {u:Value} (j:Nat) (hna:∀ w,(isAgg T).run P w=.ok false w) (hx:a.eval x=.pointer (some ⟨g,q,none⟩)) (hj:H[j]? = some (.row (.slice (some ⟨g,0,none⟩) n c) Tb k n cs)) (h0:cs[q]? = some u)
 (hk:K (a.put dst u)):Stp P w0 H ⟨dst,.load T x,ty,pos,aft,gd⟩ a K:=by
 refine⟨⟨_,fun w' hS=>?_,hk⟩⟩;have hr:=hS.rowSl j hj;obtain⟨hl,ad,cap,e,_,_,_,hc⟩:=hr;simp only [Value.slice.injEq] at e;have hc:=(hc ⟨g,0,none⟩ e.1.symm).cell q u h0
 have h1:w'.cell? ⟨g,q,none⟩=some u:=by
  have e2:(⟨g,0,none⟩:Addr).add q=⟨g,q,none⟩:=by rw [eval_addr,Nat.zero_add]
  first|(rw [Nat.zero_add] at hc;exact hc)
 generalize a.eval=ρ at hx;simp [execOp,hx,Instr.loadAt,Instr.sureAddr,loadVar,hna,go_sem,h1]
theorem stp_loadk_rowc {cs:List Value} {k kk q:Nat} (j:Nat) (hag:∀ w,(isAgg T).run P w=.ok true w) (hz:∀ w,(sizeOf T).run P w=.ok kk w) (hx:a.eval x=.pointer (some ⟨g,q,none⟩)) (hj:H[j]? = some (.row (.slice (some ⟨g,0,none⟩) n c) Tb k n cs)) {us:List Value} (h0:(cs.drop q).take kk=us) (hlen:us.length=kk)
 (hk:K (a.put dst (.agg us.toArray))):Stp P w0 H ⟨dst,.load T x,ty,pos,aft,gd⟩ a K:=by
 subst h0;refine⟨⟨_,fun w' hS=>?_,hk⟩⟩;have hr:=hS.rowSl j hj;obtain⟨hl,ad,cap,e,_,_,_,hc⟩:=hr;simp only [Value.slice.injEq] at e;have hc:=hc ⟨g,0,none⟩ e.1.symm
 have h1:=run_loadCells_list (P:=P) w' ⟨g,q,none⟩ ((cs.drop q).take kk) (fun j u hu=>by
  rw [eval_addr];rw [List.getElem?_take] at hu
  split at hu
  ·rw [List.getElem?_drop] at hu
   have:=hc.cell _ _ hu
   rwa [Nat.zero_add] at this
  ·cases hu)
 rw [hlen] at h1;generalize a.eval=ρ at hx;simp only [execOp,hx,Instr.loadAt,Instr.sureAddr,Sem.run_bind,Sem.run_pure,Result.andThen_ok,run_loadVar_agg hag hz h1]
theorem seq_store_rowc {cs:List Value} {k i:Nat} {v:Value} (j:Nat) (hS:Heap w0 w H) (hx:a.eval x=.pointer (some ⟨g,i,none⟩)) (hy:a.eval y=v) (hj:H[j]? = some (.row (.slice (some ⟨g,0,none⟩) n c) Tb k n cs)) (hi:i<cs.length)
 (hT:∀ w,(sizeOf T).run P w=.ok 1 w) (hv1:v.cells=#[v]) (hv:v.oneCell'=true)
 (hk:∀ w',Heap w0 w' (H.set j (.row (.slice (some ⟨g,0,none⟩) n c) Tb k n (cs.set i v)))→wpList P ops Q rest (a.put dst undef) w') :
 wpList P ops Q (⟨dst,.store T x y,ty,pos,aft,none⟩::rest) a w:=by
 obtain⟨hl,ho⟩:=hS.ok _ (List.mem_of_getElem? hj)
 rcases ho with ⟨h1,h2⟩|⟨g',cap,cur,h1,hb0,hg,hnc,hcm,hcs,htk⟩
 ·subst h2;rw [hl] at hi;omega
 ·simp only [Value.slice.injEq,Option.some.injEq,Addr.mk.injEq] at h1
  obtain⟨⟨rfl,-⟩,-,rfl⟩:=h1
  have hlt:i<cur.size:=by
   have:n*k≤c*k:=Nat.mul_le_mul_right k hnc;omega
  have hr:=run_store_blk (P:=P) (T:=T) (u:=v) (off:=i) (by rw [hv1];exact hT) hg (by rw [hv1];simp [hv]) (by rw [hv1];simp;omega);refine seq_skip (w':=w.setRow g (cur.toList.take i++v.cells.toList++cur.toList.drop (i+v.cells.size)).toArray) rfl ?_ (hk _ ?_)
  ·generalize a.eval=ρ at hx hy
   simp only [execOp,hx,hy,Instr.storeAt,Instr.sureAddr,Sem.run_bind,Sem.run_pure,Result.andThen_ok,hr]
  ·have hset:(cur.toList.take i++v.cells.toList++cur.toList.drop (i+v.cells.size))=cur.toList.set i v:=by
    rw [List.set_eq_take_append_cons_drop,if_pos (by rw [Array.length_toList];omega),hv1];simp
   rw [hset];refine hS.turn j hj rfl rfl rfl (Nat.le_refl _) (by simp [World.setRow]) ?_ (fun k hk=>.inl hk) (fun k _ hne=>setRow_other w g k _ (fun e=>hne (by simp [Chunk.has,Value.ownBlock,e])));refine⟨by rw [List.length_set];exact hl,.inr ⟨g,c,_,rfl,hb0,setRow_heap w g cur _ Tb (0,0) hg,hnc,hcm,by simp [hcs],?_⟩⟩;rw [List.take_set,htk]
end
section
variable {P:Program} {ops:Array Oper} {Q:Exit→Act→World→Prop} {rest:List Oper} {a:Act} {w w0:World} {H:List Chunk} {dst:Option Tmp} {x y:Operand} {ty T E:TypeId} {pos:String} {aft:Array Edge}
theorem seq_make_ints {n:Nat} {xv:Int} (hS:Heap w0 w H) (hu:P.underlying T=some (.slice E)) (hinfo:(P.info? E).map (fun i=>(i.zero,i.size,i.bytes))=some (some (.int .i64 0),1,8))
 (hx:a.eval x=.int .i64 xv) (hy:a.eval y=.int .i64 xv) (hxn:xv=(n:Int)) (hn:n≤65536)
 (hk:∀ b w',Heap w0 w' (H++[.row (.slice (some ⟨b,0,none⟩) n n) E 1 n (iv (List.replicate n 0))])→wpList P ops Q rest (a.put dst (.slice (some ⟨b,0,none⟩) n n)) w') :
 wpList P ops Q (⟨dst,.makeSlice T x y,ty,pos,aft,none⟩::rest) a w:=by
 subst hxn;obtain⟨i,hi,hz,hsz,hby⟩:=info_parts hinfo;have hr:=run_make (P:=P) w T E i _ hu hi hz .i64 .i64 n n (by omega) (by omega) (by rw [hby];omega) (by omega)
 have hc:madeCells (Value.int .i64 0).cells ((n:Int).toNat*i.size)=(iv (List.replicate n 0)).toArray:=by
  rw [hsz,Int.toNat_natCast,Nat.mul_one];apply Array.ext
  ·simp [madeCells,iv]
  ·intro j h1 h2
   simp [madeCells,iv,Value.cells,Nat.mod_one]
 rw [hc,Int.toNat_natCast] at hr;have hA:=hS.alloc (.cells (iv (List.replicate n 0)).toArray E (0,0));have hR:=hA.toRow (k:=1) (m:=n) (g:=w.heap.size) (arr:=(iv (List.replicate n 0)).toArray) (Tb:=E) H.length (by simp) (by simp [iv]) (by unfold maxLen;omega)
 have hR2:Heap w0 (w.alloc (.cells (iv (List.replicate n 0)).toArray E (0,0))) (H++[.row (.slice (some ⟨w.heap.size,0,none⟩) n n) E 1 n (iv (List.replicate n 0))]):=by
  simpa using hR
 refine seq_heap (w':=w.alloc (.cells (iv (List.replicate n 0)).toArray E (0,0))) (v:=.slice (some ⟨w.heap.size,0,none⟩) n n) rfl ?_ (hk _ _ hR2);simp only [execOp,hx,hy];simp [hr,go_sem]
end
section
variable {P:Program} {Q:Exit→Act→World→Prop}
theorem wp_region_sched2 {id:Nat} {a:Act} {w:World} {l:List Oper} (s:List Mv) (M:List Nat) (C D:World→Prop) (hm:P.follows .mixedOrders=true)
 (hok:(Region.noSelect l.toArray && (s.length == l.length) && schedOk .any l.toArray M s (Array.replicate l.length false))=true) (hD:D w.drew) (hDC:∀ w',D w'→C w')
 (h:∀ w',D w'→wpSched P l.toArray (NoPanic Q) C s a w'):(Code.region id l.toArray true).wp P Q a w :=
 wp_region_sched0 s M C hm hok (hDC _ hD) (h _ hD)
end
end Go.Hp
namespace Go.Proofs
open Go.Proofs.Tryz
open Go.RowKit Go.Hp
theorem infoI:(Tryz.prog.info? 3).map (fun i=>(i.zero,i.size,i.bytes))=some (some (.int .i64 0),1,8):=by kernel_rfl
def RootRes (w:World) (S:Nat→Prop) (g n c bo br:Nat) (L:List Nat) (v:Nat) (e:Ending) (w':World):Prop :=
 ∃ L':List Nat,e=.returned (.int .i64 (rep L v:Int))∧Heap w w' [.frz S w,.blk bo (.cells #[.slice (some ⟨g,0,none⟩) n c] 22 (0,0)),.blk br (.cells #[.func (.func 54) #[] #[.pointer (some ⟨bo,0,none⟩),.pointer (some ⟨br,0,none⟩)]] 104 (0,0)),.row (.slice (some ⟨g,0,none⟩) n c) 3 1 n (iv (zs L'))] ∧
  Forest L'∧L'.length=L.length∧(∀ u,u<L.length→rep L' u=rep L u)∧(∀ u,u<L.length→nth 0 L' u=nth 0 L u∨nth 0 L' u=rep L u)∧nth 0 L' v=rep L v
theorem root_any (g n c bo br:Nat):∀ (v:Nat) (L:List Nat) (w:World) (S:Nat→Prop),Forest L→L.length=n→v<n →
 Heap w w [.frz S w,.blk bo (.cells #[.slice (some ⟨g,0,none⟩) n c] 22 (0,0)),.blk br (.cells #[.func (.func 54) #[] #[.pointer (some ⟨bo,0,none⟩),.pointer (some ⟨br,0,none⟩)]] 104 (0,0)),.row (.slice (some ⟨g,0,none⟩) n c) 3 1 n (iv (zs L))] →
 Calls Tryz.prog 54 #[.int .i64 (v:Int),.pointer (some ⟨bo,0,none⟩),.pointer (some ⟨br,0,none⟩)] w (RootRes w S g n c bo br L v):=by
 intro v
 induction v using Nat.strongRecOn with
 | _ v ih =>
  intro L w S hF hLl hv hS;have hle:=hF.le v (by omega);have hnz:=nth_zs L v
  by_cases he:nth 0 L v=v
  ·have hrep:=Hd (rep_root hF (by omega) he)
   rw [he] at hnz;have q1:((v:Int) != (v:Int))=false:=by simp
   clear ih hle;replace he:=Hd he;replace hF:=Hd hF
   go_enter func54,ntmps54
   go_wp2_with (with_reducible first|refine ldB 1 hS isAgg22 ?_|refine ixS underlying22 sizeOf3 ?_|refine ldR 3 hS isAgg3 ?_)
   go_ret;refine⟨L,?_,hS,hF.out,rfl,fun u _=>rfl,fun u _=>.inl rfl,by rw [he.out,hrep.out]⟩;rw [hrep.out];show Ending.returned (.int .i64 (nth 0 (zs L) v))=_;rw [hnz]
  ·obtain⟨p,hp⟩:∃ p,nth 0 L v=p:=⟨_,rfl⟩
   have hrep:=rep_step hF (show v<L.length by omega);rw [hp] at hnz hle he hrep;have q1:((p:Int) != (v:Int))=true:=by simp;omega
   have ihp:=fun w S h=>ih p (by omega) L w S hF hLl (by omega) h
   replace hrep:=Hd hrep;replace hp:=Hd hp;replace hF:=Hd hF;clear ih
   go_enter func54,ntmps54
   go_wp2_with (with_reducible first|refine ldB 1 hS isAgg22 ?_|refine ixS underlying22 sizeOf3 ?_|refine ldR 3 hS isAgg3 ?_)
   refine wp_region_sched2 [.r 0,.p 1,.r 2,.r 3,.p 4,.p 5,.e 6,.e 7,.p 8,.m 9] [9] (fun w'=>Heap w w' [.frz S w,.blk bo (.cells #[.slice (some ⟨g,0,none⟩) n c] 22 (0,0)),.blk br (.cells #[.func (.func 54) #[] #[.pointer (some ⟨bo,0,none⟩),.pointer (some ⟨br,0,none⟩)]] 104 (0,0))]) (fun w'=>Heap w w' _) (by kernel_rfl) (by kernel_rfl) hS.drew (fun _ hZ=>Heap.sub hZ (by repeat (first|exact List.Sublist.refl _|apply List.Sublist.cons_cons|apply List.Sublist.cons))) (fun w1 hS=>?_)
   repeat (with_reducible first|refine sldB 1 isAgg22 ?_|refine sldB 2 isAgg104 ?_|refine sixS underlying22 sizeOf3 ?_|refine spL ?_)
   refine exL ?_
   (with_reducible refine ldR 3 hS isAgg3 ?_)
   refine ext_end hS.sb ?_;refine mvs ?_;refine exL ?_;simp only [hnz]
   go_wp2_with (fail)
   refine (ihp _ _ (Heap.split (A:=[.frz S w]) hS)).mono ?_;rintro e w' ⟨L1,rfl,hS1,hF1,hl1,hr1,hn1,hv1⟩;simp only [];go_step;have hS:=Heap.unsplit (A:=[.frz S w]) hS hS1;simp only [NRH] at hS;replace hF1:=Hd hF1;replace hr1:=Hd hr1;replace hn1:=Hd hn1;replace hv1:=Hd hv1;replace hl1:=Hd hl1;clear hS1;refine ext_end hS.sb ?_
   repeat (with_reducible refine sixS underlying22 sizeOf3 ?_)
   refine muL ?_
   (with_reducible refine stR 3 hS sizeOf3 fun _ hS=>?_)
   refine mut_end ?_;refine snL ?_
   go_wp2_with (with_reducible first|refine ldB 1 hS isAgg22 ?_|refine ixS underlying22 sizeOf3 ?_|refine ldR 3 hS isAgg3 ?_)
   go_ret;have hvl:v<L.length:=by omega
   have hvl1:v<L1.length:=by rw [hl1.out];exact hvl
   obtain⟨hF2,hr2⟩:=rep_short hF1.out hvl1;have e1:rep L1 v=rep L v:=hr1.out v hvl;rw [e1] at hF2 hr2;have e2:(zs L1).set v ((rep L p:Nat):Int)=zs (L1.set v (rep L v)):=by rw [hrep.out];simp [zs]
   have e3:nth 0 (L1.set v (rep L v)) v=rep L v:=by rw [nth_setG _ _ _ _ _ hvl1,if_pos rfl]
   refine⟨L1.set v (rep L v),?_,by rw [← e2];exact hS,hF2,by rw [List.length_set,hl1.out],fun u hu=>?_,fun u hu=>?_,e3⟩
   ·show Ending.returned (.int .i64 (nth 0 ((zs L1).set v ((rep L p:Nat):Int)) v))=_
    rw [e2,nth_zs,e3]
   ·rw [hr2 u (by rw [hl1.out];exact hu),hr1.out u hu]
   ·rw [nth_setG _ _ _ _ _ hvl1]
    split
    ·rename_i e;subst e;exact .inr rfl
    ·exact hn1.out u hu
end Go.Proofs
namespace Go.Hp
open Go.Proofs.Tryz
open Go
def pc (p:PR):List Value:=[.bool p.x.num.neg,.slice p.x.num.ad p.x.num.n p.x.num.cap,.bool p.x.less.neg,.slice p.x.less.ad p.x.less.n p.x.less.cap,.bool p.y.num.neg,.slice p.y.num.ad p.y.num.n p.y.num.cap,.bool p.y.less.neg,.slice p.y.less.ad p.y.less.n p.y.less.cap]
theorem pc_len (p:PR):(pc p).length=8:=rfl
def pt0:Pt:=⟨0,0⟩
theorem pc_one (prs:List PR):∀ v ∈ prs.flatMap pc,v.oneCell'=true:=by
 intro v hv;obtain⟨p,_,h⟩:=List.mem_flatMap.1 hv;simp only [pc,List.mem_cons,List.not_mem_nil,or_false] at h
 rcases h with rfl|rfl|rfl|rfl|rfl|rfl|rfl|rfl <;> rfl
structure IsPs (w:World) (S:Nat→Prop) (prs:List PR) (l:List Pt):Prop where
 len:prs.length=l.length
 el:∀ i,i<l.length→IsP w S (nth p0 prs i) (nth pt0 l i)
theorem IsPs.grow {w w':World} {S S':Nat→Prop} {prs:List PR} {l:List Pt} (h:IsPs w S prs l) (hp:Pure w S w' S'):IsPs w' S' prs l:=⟨h.len,fun i hi=>(h.el i hi).grow hp⟩
theorem IsPs.at {w0 w wr:World} {H:List Chunk} {F S:Nat→Prop} {prs:List PR} {l:List Pt} (h:IsPs wr S prs l) (hS:Heap w0 w (.frz F wr::H)) (hF:∀ k,S k→F k):IsPs w S prs l:=⟨h.len,fun i hi=>(h.el i hi).at hS hF⟩
theorem IsPs.weaken {w:World} {S T:Nat→Prop} {prs:List PR} {l:List Pt} (h:IsPs w S prs l) (hST:∀ k,S k→T k):IsPs w T prs l:=⟨h.len,fun i hi=>(h.el i hi).weaken hST⟩
theorem IsPs.move {w wr:World} {S:Nat→Prop} {prs:List PR} {l:List Pt} (h:IsPs wr S prs l) (hk:∀ k,S k→w.heap[k]? = wr.heap[k]?):IsPs w S prs l:=⟨h.len,fun i hi=>(h.el i hi).move hk⟩
theorem IsPs.nil (w:World) (S:Nat→Prop):IsPs w S [] []:=⟨rfl,fun i hi=>by simp at hi⟩
structure PL (w:World) (S:Nat→Prop) (v:Value) (prs:List PR) (l:List Pt):Prop where
 sl:SlC w S 8 v l.length (prs.flatMap pc)
 ps:IsPs w S prs l
theorem PL.grow {w w':World} {S S':Nat→Prop} {v:Value} {prs:List PR} {l:List Pt} (h:PL w S v prs l) (hp:Pure w S w' S'):PL w' S' v prs l:=⟨h.sl.grow hp,h.ps.grow hp⟩
theorem PL.at {w0 w wr:World} {H:List Chunk} {F S:Nat→Prop} {v:Value} {prs:List PR} {l:List Pt} (h:PL wr S v prs l) (hS:Heap w0 w (.frz F wr::H)) (hF:∀ k,S k→F k):PL w S v prs l:=⟨h.sl.move (hS.keep hF),h.ps.at hS hF⟩
theorem PL.weaken {w:World} {S T:Nat→Prop} {v:Value} {prs:List PR} {l:List Pt} (h:PL w S v prs l) (hST:∀ k,S k→T k):PL w T v prs l:=⟨h.sl.weaken hST,h.ps.weaken hST⟩
def Stands (l:List Pt) (q:Pt) (i:Nat):Prop:=i≤l.length∧(∀ j,j<i→(nth pt0 l j).lt q)∧∀ j,i≤j→j<l.length→¬ (nth pt0 l j).lt q
end Go.Hp
namespace Go.Proofs
open Go.Proofs.Tryz
open Go.RowKit Go.Hp
theorem bsearchP_any (ad:Option Addr) (n c:Nat) (prs:List PR) (l:List Pt) (p:PR) (q:Pt) (w:World) (S:Nat→Prop) (hv:PL w S (.slice ad n c) prs l) (hp:IsP w S p q) (hL:Liv w S) (hsort:l.Pairwise Pt.lt) (hle:l.length≤1000000) :
 Calls Tryz.prog 139 #[.slice ad n c,.agg #[.bool p.x.num.neg,.slice p.x.num.ad p.x.num.n p.x.num.cap,.bool p.x.less.neg,.slice p.x.less.ad p.x.less.n p.x.less.cap,.bool p.y.num.neg,.slice p.y.num.ad p.y.num.n p.y.num.cap,.bool p.y.less.neg,.slice p.y.less.ad p.y.less.n p.y.less.cap],.func (.func 77) #[] #[]] w fun e w'=>(∃ i,Stands l q i∧e=.returned (.tuple #[.int .i64 (i:Int),.bool (decide (i<l.length∧nth pt0 l i=q))]))∧Pure w S w' S:=by
 have hn:n=l.length:=by obtain⟨h1,a,cap,h2,_⟩:=hv.sl;cases h2;rfl
 subst hn;have hlp:=hv.ps.len
 have hmono:∀ i j,i<j→j<l.length→(nth pt0 l i).lt (nth pt0 l j):=fun i j hij hj=>by
  have:=List.pairwise_iff_getElem.1 hsort i j (by omega) hj hij;rw [nth_eq pt0 l i (by omega),nth_eq pt0 l j hj];exact this
 obtain⟨hS,hF0,hO0,hp0⟩:=st0 hL
 go_enter func139,ntmps139
 go_wp2_with (with_reducible refine bxA hS fun bx wbx hS=>?_)
 go_loopw [9,10] (fun va vb wr=>∃ (a b:Nat) (F:Nat→Prop) (wq:World),a≤b∧b≤l.length∧va=.int .i64 (a:Int)∧vb=.int .i64 (b:Int)∧Heap w wr [.frz F wq,.blk bx (.cells (pc p).toArray 65 (0,0))]∧(∀ k,S k→F k)∧(∀ k,Old w k→F k)∧Pure w S wq S∧PL wq S (.slice ad l.length c) prs l∧IsP wq S p q∧(∀ j,j<a→(nth pt0 l j).lt q)∧∀ j,b≤j→j<l.length→¬ (nth pt0 l j).lt q) (fun va vb _=>(intOf vb - intOf va).toNat)
 case atStart=>exact⟨0,l.length,_,w,by omega,by omega,rfl,rfl,hS,hF0,hO0,hp0,hv,hp,fun j hj=>by omega,fun j h1 h2=>by omega⟩
 case round =>
  clear hS hF0 hO0 hp0 hv hp;obtain⟨a,b,F0,wq,hab,hbn,rfl,rfl,hS,hF0,hO0,hp0,hv,hp,hlo,hhi⟩:=hrel;replace hlo:=Hd hlo;replace hhi:=Hd hhi
  by_cases hlt:a<b
  ·obtain⟨h,hh⟩:∃ h,h=(a+b) / 2:=⟨_,rfl⟩
   have hha:a≤h:=by omega
   have hhb:h<b:=by omega
   have w1:IntKind.i64.wrap ((a:Int)+(b:Int))=(a:Int)+(b:Int):=w6;have w2:IntKind.u64.wrap ((a:Int)+(b:Int))=(a:Int)+(b:Int):=by rw [IntKind.wrap_u64];omega
   have w3:((a:Int)+(b:Int)) / 2=(h:Int):=by omega
   have w4:IntKind.i64.wrap (h:Int)=(h:Int):=w6;have w5:IntKind.u64.wrap (h:Int)=(h:Int):=by rw [IntKind.wrap_u64];omega
   have hc:=flat_cell pc_len p0 (show h<prs.length by omega);have hvo:=hv.sl.weaken hF0;have hel:=hv.ps.el h (by omega);obtain⟨m,hm⟩:∃ m,nth p0 prs h=m:=⟨_,rfl⟩;obtain⟨y,hy⟩:∃ y,nth pt0 l h=y:=⟨_,rfl⟩;rw [hm] at hc hel;rw [hy] at hel;clear hh;go_wp2;refine rg0 [.p 0,.p 1,.p 2,.p 3,.r 4,.r 5,.e 6,.p 7] [] hS fun w1 hS=>?_
   have hC:=hS
   repeat (with_reducible first|refine sixE underlying25 sizeOf65 hvo hc fun bq oq hcellq=>?_|refine sldG isAgg65 sizeOf65 ?_|refine sldA 1 isAgg65 sizeOf65 ?_|refine spL ?_)
   clear hvo;refine exL ?_
   go_wp2_with (fail)
   refine (pcompare_any m p y q _ S (hel.at hS hF0) (hp.at hS hF0) (Liv.at hS hF0)).mono ?_;rintro e w' ⟨rfl,hq1⟩;simp only [];go_step;have hv:=(hv.at hS hF0).grow hq1;have hp:=(hp.at hS hF0).grow hq1;have hC:=hC.below hq1.below hq1.drawn;replace hS:=hS.pcl hF0 hO0 hp0 hq1;obtain⟨F1,hF1,-,hp1,hO1,hS⟩:=hS;have hyq:=@cmpP_lt y q
   by_cases hd:y.lt q
   ·have hdt:decide (cmpP y q<0)=true:=by simpa [hyq] using hd
    clear hyq hc;replace hd:=Hd hd;refine ext_end hC ?_;refine mvs ?_;refine snL ?_;clear hC;go_wp2;go_roundw
    case rel =>
     refine⟨h+1,b,F1,_,by omega,by omega,by simp,rfl,hS,hF1,hO1,hp1,hv,hp,fun j hj=>?_,hhi.out⟩
     rcases Nat.lt_or_ge j h with h1|h1
     ·exact Pt.lt_trans (hmono j h h1 (by omega)) (by rw [hy];exact hd.out)
     ·obtain rfl:j=h:=by omega
      rw [hy];exact hd.out
    case measure=>simp [intOf];omega
   ·have hdt:decide (cmpP y q<0)=false:=by simpa [hyq] using hd
    clear hyq hc;replace hd:=Hd hd;refine ext_end hC ?_;refine mvs ?_;refine snL ?_;clear hC;go_wp2;go_roundw
    case rel =>
     refine⟨a,h,F1,_,by omega,by omega,rfl,rfl,hS,hF1,hO1,hp1,hv,hp,hlo.out,fun j h1 h2 hlt2=>?_⟩
     rcases Nat.lt_or_ge h j with h3|h3
     ·exact hd.out (Pt.lt_trans (by rw [← hy];exact hmono h j h3 h2) hlt2)
     ·obtain rfl:j=h:=by omega
      rw [hy] at hlt2;exact hd.out hlt2
    case measure=>simp [intOf];omega
  ·obtain rfl:a=b:=by omega
   by_cases hn:a<l.length
   ·have hnt:decide ((a:Int)<(l.length:Int))=true:=by simpa using hn
    have hc:=flat_cell pc_len p0 (show a<prs.length by omega);have hvo:=hv.sl.weaken hF0;have hel:=hv.ps.el a (by omega);obtain⟨m,hm⟩:∃ m,nth p0 prs a=m:=⟨_,rfl⟩;obtain⟨y,hy⟩:∃ y,nth pt0 l a=y:=⟨_,rfl⟩;rw [hm] at hc hel;rw [hy] at hel;go_wp2;refine rg0 [.p 0,.p 1,.p 2,.p 3,.p 4,.p 5,.p 6,.p 7,.p 8,.r 9,.r 10,.e 11,.p 12,.p 13,.p 14,.p 15] [] hS fun w1 hS=>?_
    have hC:=hS
    repeat (with_reducible first|refine sixE underlying25 sizeOf65 hvo hc fun bq oq hcellq=>?_|refine sldG isAgg65 sizeOf65 ?_|refine sldA 1 isAgg65 sizeOf65 ?_|refine spL ?_)
    clear hvo;refine exL ?_
    go_wp2_with (fail)
    refine (pcompare_any m p y q _ S (hel.at hS hF0) (hp.at hS hF0) (Liv.at hS hF0)).mono ?_;rintro e w' ⟨rfl,hq1⟩;simp only [];go_step;have hC:=hC.below hq1.below hq1.drawn;replace hS:=hS.pcl hF0 hO0 hp0 hq1;obtain⟨F1,hF1,-,hp1,hO1,hS⟩:=hS;refine ext_end hC ?_;have heq:=@cmpP_eq y q
    have hres:decide (a<l.length∧nth pt0 l a=q)=(cmpP y q == 0):=by
     rw [hy]
     by_cases h2:y=q
     ·subst h2;simp [hn,(cmpP_eq (p:=y) (q:=y)).2 rfl]
     ·simp [h2,mt heq.1 h2]
    replace hres:=Hd hres;clear heq hc;refine mvs ?_;refine snL ?_;go_wp2;refine bodyPost_ret (results_tmp2 rfl _ _ _) rfl ?_;exact⟨⟨a,⟨hbn,hlo.out,hhi.out⟩,by rw [hres.out];rfl⟩,hp1.step hS hO1 hF1⟩
   ·obtain rfl:a=l.length:=by omega
    go_wp2;refine rg0 [.p 0,.p 1,.p 2,.p 3,.p 4,.p 5,.p 6,.p 7,.p 8,.r 9,.r 10,.e 11,.p 12,.p 13,.p 14,.p 15] [] hS fun w1 hS=>?_
    have hC:=hS;refine mvs ?_;refine exL ?_;refine wpList_unwanted rfl ?_;refine ext_end hC ?_;refine mvs ?_;refine snL ?_;go_wp2;refine bodyPost_ret (results_tmp2 rfl _ _ _) rfl ?_;exact⟨⟨l.length,⟨hbn,hlo.out,hhi.out⟩,by simp⟩,hp0.step hS hO0 hF0⟩
end Go.Proofs
