/- Texts for the walk of the law: DR E1 E2. -/
import Derived.Lib.AppendZerosOnto
import Derived.Lib.AppendZeros
import Derived.Lib.Overlaps
import Derived.Laws.Externs
import Derived.Test.YtihpoboahbpaiaaGreatQ20
set_option maxRecDepth 100000
set_option maxHeartbeats 16000000
set_option linter.unusedVariables false
set_option linter.unusedSimpArgs false
namespace Go.Hp
open Go
section
variable {P:Program} {ops:Array Oper} {Q:Exit→Act→World→Prop} {rest:List Oper} {a:Act} {w w0:World} {H:List Chunk} {K:Act→Prop} {C:World→Prop} {s:List Mv} {i:Nat}
variable {dst:Option Tmp} {ty T E Tb:TypeId} {pos:String} {aft:Array Edge} {gd:Option (Nat × Bool)} {x y ix:Operand} {g n c:Nat}
theorem Heap.rowSl {v:Value} {k:Nat} {cs:List Value} (hS:Heap w0 w H) (j:Nat) (hj:H[j]? = some (.row v Tb k n cs)):SlC w (Chunk.row v Tb k n cs).has k v n cs:=SlC.ofRow (hS.ok _ (List.mem_of_getElem? hj))
theorem Heap.rowCap {ad:Option Addr} {k:Nat} {cs:List Value} (hS:Heap w0 w H) (j:Nat) (hj:H[j]? = some (.row (.slice ad n c) Tb k n cs)):n≤c:=by
 obtain⟨_,a,cap,e,h,_⟩:=hS.rowSl j hj;simp only [Value.slice.injEq] at e;omega
theorem Heap.toRow {arr:Array Value} {k m:Nat} (hS:Heap w0 w H) (j:Nat) (hj:H[j]? = some (.blk g (.cells arr Tb (0,0)))) (hl:arr.size=m*k) (hm:m≤maxLen):Heap w0 w (H.set j (.row (.slice (some ⟨g,0,none⟩) m m) Tb k m arr.toList)):=by
 have hok:w.heap[g]? = some (.cells arr Tb (0,0)):=hS.ok _ (List.mem_of_getElem? hj);refine hS.turn j hj rfl rfl rfl (Nat.le_refl _) (Nat.le_refl _) ⟨by simpa using hl,.inr ⟨g,m,arr,rfl,Nat.zero_le _,hok,Nat.le_refl _,hm,hl,?_⟩⟩ (fun k hk=>.inl (by simp only [Chunk.has,Value.ownBlock] at hk ⊢;simpa using hk.symm)) (fun _ _ _=>rfl);rw [← hl,← Array.length_toList,List.take_length]
theorem any_index_atk {off k:Nat} (hu:P.underlying T=some (.slice E)) (hz:∀ w,(sizeOf E).run P w=.ok k w) {i:Int} (hx:a.eval x=.slice (some ⟨g,off,none⟩) n c) (hi:a.eval ix=.int .i64 i) (hlo:0≤i) (hhi:i<n)
 (hk:K (a.put dst (.pointer (some ⟨g,off+i.toNat*k,none⟩)))):StpAny P ⟨dst,.indexAddr T x ix,ty,pos,aft,gd⟩ a K:=by
 have hadd:(⟨g,off,none⟩:Addr).add (i.toNat*k)=⟨g,off+i.toNat*k,none⟩:=by unfold Addr.add;split <;> simp_all
 refine⟨⟨.pointer (some ⟨g,off+i.toNat*k,none⟩),fun w'=>?_,hk⟩⟩;generalize a.eval=ρ at hx hi;simp [execOp,hx,hi,Instr.indexAt,asIntOf,go_sem,run_underlying hu,hlo,hhi,hz,hadd]
theorem seq_bsL {k:Nat} {z:Value} {els:Array (Nat × Operand)} {L:List (Nat × Value)} {arr:Array Value} (hS:Heap w0 w H) (hu:P.underlying T=some (.slice E)) (hsz:∀ w,(sizeOf E).run P w=.ok k w) (hz:∀ w,(zeroValue E).run P w=.ok z w)
 (h0:0<n*k) (hl:n*k≤16777216) (hf:Instr.fill (fun i=>some (i*k,k)) ((Array.range (n*k)).map (z.cells[· % z.cells.size]!)) L=some arr) (hx:els.toList.map (fun y=>(y.1,a.eval y.2))=L) (hg:Region.wanted ⟨dst,.buildSlice T n els,ty,pos,aft,gd⟩ (yielded ops a.tmps)=true)
 (hk:∀ b w',Heap w0 w' (H++[.blk b (.cells arr E (0,0))])→wpList P ops Q rest (a.put dst (.slice (some ⟨b,0,none⟩) n n)) w'):wpList P ops Q (⟨dst,.buildSlice T n els,ty,pos,aft,gd⟩::rest) a w:=by
 refine seq_heap (w':=w.alloc (.cells arr E (0,0))) (v:=.slice (some ⟨w.heap.size,0,none⟩) n n) hg ?_ (hk _ _ (hS.alloc _));generalize a.eval=ρ at hx;have h1:¬ (16777216<n*k):=by omega
 have h2:¬ (n*k=0):=by omega
 simp only [execOp,Instr.buildSlice,Sem.run_bind,run_underlying hu,hsz,Result.andThen_ok,gt_iff_lt,Nat.reducePow,h1,if_false,h2,hz,Sem.run_pure,Array.toList_map,hx,hf]
 rfl
end
end Go.Hp
namespace Go.Hp
open Go Go.RowKit
section
variable {P:Program} {ops:Array Oper} {Q:Exit→Act→World→Prop} {rest:List Oper} {a:Act} {w w0:World} {H:List Chunk} {K:Act→Prop}
variable {dst:Option Tmp} {ty T E Tb sT:TypeId} {pos:String} {aft:Array Edge} {gd:Option (Nat × Bool)} {x y ix:Operand} {g n c k:Nat}
theorem Heap.openRow {ad:Option Addr} {cs:List Value} (hS:Heap w0 w H) (j:Nat) (hj:H[j]? = some (.row (.slice ad n c) Tb k n cs)) (hn:0<n) :
 ∃ g cur,ad=some ⟨g,0,none⟩∧n≤c∧c≤maxLen∧cur.size=c*k∧cs.length=n*k∧cur.toList.take (n*k)=cs∧Heap w0 w (H.set j (.blk g (.cells cur Tb (0,0)))):=by
 obtain⟨hl,ho⟩:=hS.ok _ (List.mem_of_getElem? hj)
 rcases ho with ⟨h1,h2⟩|⟨g,cap,cur,h1,hb0,hg,hnc,hcm,hcs,htk⟩
 ·omega
 ·simp only [Value.slice.injEq] at h1
  obtain⟨rfl,-,rfl⟩:=h1;refine⟨g,cur,rfl,hnc,hcm,hcs,hl,htk,?_⟩;exact hS.turn j hj rfl rfl rfl (Nat.le_refl _) (Nat.le_refl _) hg (fun k hk=>.inl (by simp only [Chunk.has,Value.ownBlock] at hk ⊢;rw [hk])) (fun _ _ _=>rfl)
theorem Heap.closeRow {arr:Array Value} (hS:Heap w0 w H) (j:Nat) (hj:H[j]? = some (.blk g (.cells arr Tb (0,0)))) (hl:arr.size=c*k) (hn:n≤c) (hm:c≤maxLen):Heap w0 w (H.set j (.row (.slice (some ⟨g,0,none⟩) n c) Tb k n (arr.toList.take (n*k)))):=by
 have hok:w.heap[g]? = some (.cells arr Tb (0,0)):=hS.ok _ (List.mem_of_getElem? hj);have h1:n*k≤c*k:=Nat.mul_le_mul_right k hn;exact hS.turn j hj rfl rfl rfl (Nat.le_refl _) (Nat.le_refl _) ⟨by simp;omega,.inr ⟨g,c,arr,rfl,Nat.zero_le _,hok,hn,hm,hl,rfl⟩⟩ (fun k hk=>.inl (by simp only [Chunk.has,Value.ownBlock] at hk ⊢;simpa using hk.symm)) (fun _ _ _=>rfl)
theorem run_copy_k {w:World} {elem:TypeId} {cur:Array Value} {t:TypeId} {o dLen dCap sLen sCap m:Nat} {ad:Addr} {cs:List Value} (hu:P.underlying T=some (.slice elem)) (hs:(P.info? elem).map (·.size)=some k) (hm:m=Nat.min sLen dLen) (hl:cs.length=m*k)
 (hsrc:∀ i v,cs[i]? = some v→w.cell? (ad.add i)=some v) (hg:w.heap[g]? = some (.cells cur t (0,0))) (hfit:o+cs.length≤cur.size) (h1:∀ v ∈ cs,v.oneCell'=true) :
 (Builtin.copy_ #[T,sT] ty #[.slice (some ⟨g,o,none⟩) dLen dCap,.slice (some ad) sLen sCap]).run P w=.ok (goInt m) (w.setRow g (cur.toList.take o++cs++cur.toList.drop (o+cs.length)).toArray):=by
 have hld:=run_loadCells_list (P:=P) w ad cs hsrc;have hst:=run_storeCells_at (P:=P) g o t cs 0 cur w hg (by simpa using hfit) h1;simp only [Nat.add_zero] at hst;cases hq:P.info? elem with
 | none=>simp [hq] at hs
 | some i =>
  have hi:i.size=k:=by simpa [hq] using hs
  rw [hl] at hld;simp [Builtin.copy_,run_underlying hu,Builtin.lenOf,Builtin.firstCells,sizeOf,typeInfo,hq,hi,← hm,hld,hst,Sem.run_bind]
theorem g_cpy {args:Array Operand} {ts:Array TypeId} (h:wpList P ops Q (⟨dst,.call ⟨.builtin .copy,args,ts⟩,ty,pos,aft,gd⟩::rest) a w):wpList P ops Q (⟨dst,.call ⟨.builtin .copy,args,ts⟩,ty,pos,aft,gd⟩::rest) a w:=h
theorem seq_copy_k {elem:TypeId} {cur:Array Value} {o dLen dCap sLen sCap m:Nat} {ad:Addr} {cs:List Value} (j:Nat) (hS:Heap w0 w H) (hu:P.underlying T=some (.slice elem)) (hs:(P.info? elem).map (·.size)=some k) (hx:a.eval x=.slice (some ⟨g,o,none⟩) dLen dCap) (hy:a.eval y=.slice (some ad) sLen sCap)
 (hj:H[j]? = some (.blk g (.cells cur Tb (0,0)))) (hm:m=Nat.min sLen dLen) (hl:cs.length=m*k) (hsrc:∀ i v,cs[i]? = some v→w.cell? (ad.add i)=some v) (hfit:o+cs.length≤cur.size) (h1:∀ v ∈ cs,v.oneCell'=true)
 (hk:∀ w',Heap w0 w' (H.set j (.blk g (.cells (cur.toList.take o++cs++cur.toList.drop (o+cs.length)).toArray Tb (0,0))))→wpList P ops Q rest (a.put dst (.int .i64 m)) w'):wpList P ops Q (⟨dst,.call ⟨.builtin .copy,#[x,y],#[T,sT]⟩,ty,pos,aft,none⟩::rest) a w:=by
 have hg:=hS.blk (List.mem_of_getElem? hj);have hr:=run_copy_k (P:=P) (sT:=sT) (ty:=ty) (dCap:=dCap) (sCap:=sCap) hu hs hm hl hsrc hg hfit h1;have hlt:g<w.heap.size:=(Array.getElem?_eq_some_iff.1 hg).1;refine seq_heap (w':=w.setRow g (cur.toList.take o++cs++cur.toList.drop (o+cs.length)).toArray) (v:=.int .i64 (m:Nat)) rfl ?_ (hk _ (hS.write (o':=.cells (cur.toList.take o++cs++cur.toList.drop (o+cs.length)).toArray Tb (0,0)) j hj rfl rfl rfl (Nat.le_refl _) (by simp [World.setRow]) (setRow_heap w g cur _ _ _ hg) (fun k _ hkb=>by simp [World.setRow,Array.getElem?_modify,Ne.symm hkb])));generalize a.eval=ρ at hx hy;simp [execOp,resolve,invoke,builtin,hx,hy,hr,go_sem,goInt]
theorem cells_of_blk {arr:Array Value} {o:Nat} {cs:List Value} (hS:Heap w0 w H) (hm:Chunk.blk g (.cells arr Tb (0,0)) ∈ H) (h:cs=(arr.toList.drop o).take cs.length):∀ i v,cs[i]? = some v→w.cell? ((⟨g,o,none⟩:Addr).add i)=some v:=by
 intro i v hv;rw [eval_addr,cell_of_row w g (o+i) arr Tb (0,0) (hS.blk hm)];rw [h,List.getElem?_take] at hv
 split at hv
 ·rw [List.getElem?_drop] at hv
  simpa using hv
 ·cases hv
theorem seq_append_zeros {i m:Nat} {mv:Int} {z:Value} {bytes:Nat} {cur:Array Value} {tn:TypeId} {kn:IntKind} (j:Nat) (hS:Heap w0 w H) (hu:P.underlying T=some (.slice E)) (htn:P.underlying tn=some (.int kn)) (hinfo:(P.info? E).map (fun i=>(i.zero,i.size,i.bytes))=some (some z,k,bytes)) (hk0:0<k) (hzk:z.cells.size=k)
 (hx:a.eval x=.slice (some ⟨g,0,none⟩) i c) (hy:a.eval y=.int .i64 mv) (hmv:mv=(m:Int)) (hm0:0<m) (hroom:c<i+m) (hj:H[j]? = some (.blk g (.cells cur Tb (0,0)))) (hcur:i*k≤cur.size) (hbytes:(i+m)*bytes≤140737488355328) (h63:i+m≤9223372036854775807)
 (hk:∀ b G arr w',Heap w0 w' (H++[.blk b (.cells arr E (0,0))])→arr.size=G*k→i+m≤G→G≤maxLen→arr.toList.take (i*k)=cur.toList.take (i*k)→wpList P ops Q rest (a.put dst (.slice (some ⟨b,0,none⟩) (i+m) G)) w') :
 wpList P ops Q (⟨dst,.call ⟨.builtin .append,#[x,y],#[T,tn]⟩,ty,pos,aft,none⟩::rest) a w:=by
 subst hmv;obtain⟨inf,hi,hz,hsz,hby⟩:=info_parts hinfo;have hg:=hS.blk (List.mem_of_getElem? hj)
 have hold:(Builtin.firstCells inf.size i (.slice (some ⟨g,0,none⟩) i c)).run P w.drew=.ok (cur.toList.take (i*k)).toArray w.drew:=by
  rw [hsz]
  exact run_firstCells_some w.drew k i ⟨g,0,none⟩ i c (cur.toList.take (i*k)) (by rw [List.length_take];simp;omega) (fun q v hq=>by
   rw [eval_addr,Nat.zero_add];rw [List.getElem?_take] at hq
   split at hq
   ·rw [cell_of_row w.drew g q cur Tb (0,0) hg];simpa using hq
   ·cases hq)
 have hr:=Lib.run_append_grow_zeros (P:=P) w T tn ty E inf z .i64 kn hu htn hi hz (some ⟨g,0,none⟩) i c (cur.toList.take (i*k)) hold m hm0 (by omega) hroom (by omega) (by rw [hby];have:m*bytes≤(i+m)*bytes:=Nat.mul_le_mul_right _ (by omega);omega) (by rw [hby];exact growslice_fits hroom hbytes);have hG1:i+m≤grownCap w (i+m) c E:=grownCap_ge w _ _ _;have hG2:grownCap w (i+m) c E≤maxLen:=grownCap_le_maxLen w (i+m) c E (by unfold maxLen;omega);refine Lib.wpList_append_run w rfl x y T tn rfl _ _ hx hy _ _ hr (hk w.heap.size (grownCap w (i+m) c E) _ _ (hS.drew.alloc _) ?_ hG1 hG2 ?_)
 ·simp only [Builtin.zeroCells,hzk,Array.size_append,List.size_toArray,List.length_take,Array.length_toList,Array.size_map,Array.size_range,Nat.min_eq_left hcur]
  rw [← Nat.add_mul,← Nat.add_mul]
  congr 1;omega
 ·simp only [Array.toList_append,List.append_assoc]
  rw [List.take_append_of_le_length (by simp;omega),List.take_of_length_le (by simp;omega)]
theorem any_slice_lo {lo:Operand} {off j b:Nat} {jv:Int} (hu:P.underlying T=some (.slice E)) (hz:∀ w,(sizeOf E).run P w=.ok k w) (hx:a.eval x=.slice (some ⟨b,off,none⟩) n c) (hl:a.eval lo=.int .i64 jv) (hjv:jv=(j:Int)) (hjn:j≤n) (hjc:j<c)
 (hk:K (a.put dst (.slice (some ⟨b,off+j*k,none⟩) (n - j) (c - j)))):StpAny P ⟨dst,.slice T x (some lo) none none,ty,pos,aft,gd⟩ a K:=by
 subst hjv;refine⟨⟨_,fun w'=>?_,hk⟩⟩;generalize a.eval=ρ at hx hl
 have hb2:(Instr.sliceBound (.int .i64 (j:Int)) n .sliceB).run P w'=.ok j w':=by
  simp [Instr.sliceBound,asIntOf,go_sem,hjn]
 have hadd:(⟨b,off,none⟩:Addr).add (j*k)=⟨b,off+j*k,none⟩:=by unfold Addr.add;split <;> simp_all
 simp [execOp,hx,hl,Instr.sliceAt,Instr.slice,Instr.sliceBounds,go_sem,run_underlying hu,hb2,hz,show ¬ c=j by omega,hadd]
end
end Go.Hp
namespace Go.Hp
open Go.Proofs.Tryz
open Go
def pc (p:PR):List Value:=[.bool p.x.num.neg,.slice p.x.num.ad p.x.num.n p.x.num.cap,.bool p.x.less.neg,.slice p.x.less.ad p.x.less.n p.x.less.cap,.bool p.y.num.neg,.slice p.y.num.ad p.y.num.n p.y.num.cap,.bool p.y.less.neg,.slice p.y.less.ad p.y.less.n p.y.less.cap]
theorem pc_len (p:PR):(pc p).length=8:=rfl
def pt0:Pt:=⟨0,0⟩
theorem pc_one (prs:List PR):∀ v ∈ prs.flatMap pc,v.oneCell'=true:=by
 intro v hv;obtain⟨p,_,h⟩:=List.mem_flatMap.1 hv;simp only [pc,List.mem_cons,List.not_mem_nil,or_false] at h
 rcases h with rfl|rfl|rfl|rfl|rfl|rfl|rfl|rfl <;> rfl
structure IsPs (w:World) (S:Nat→Prop) (prs:List PR) (l:List Pt):Prop where
 len:prs.length=l.length
 el:∀ i,i<l.length→IsP w S (nth p0 prs i) (nth pt0 l i)
theorem IsPs.grow {w w':World} {S S':Nat→Prop} {prs:List PR} {l:List Pt} (h:IsPs w S prs l) (hp:Pure w S w' S'):IsPs w' S' prs l:=⟨h.len,fun i hi=>(h.el i hi).grow hp⟩
theorem IsPs.at {w0 w wr:World} {H:List Chunk} {F S:Nat→Prop} {prs:List PR} {l:List Pt} (h:IsPs wr S prs l) (hS:Heap w0 w (.frz F wr::H)) (hF:∀ k,S k→F k):IsPs w S prs l:=⟨h.len,fun i hi=>(h.el i hi).at hS hF⟩
theorem IsPs.weaken {w:World} {S T:Nat→Prop} {prs:List PR} {l:List Pt} (h:IsPs w S prs l) (hST:∀ k,S k→T k):IsPs w T prs l:=⟨h.len,fun i hi=>(h.el i hi).weaken hST⟩
theorem IsPs.move {w wr:World} {S:Nat→Prop} {prs:List PR} {l:List Pt} (h:IsPs wr S prs l) (hk:∀ k,S k→w.heap[k]? = wr.heap[k]?):IsPs w S prs l:=⟨h.len,fun i hi=>(h.el i hi).move hk⟩
theorem IsPs.nil (w:World) (S:Nat→Prop):IsPs w S [] []:=⟨rfl,fun i hi=>by simp at hi⟩
structure PL (w:World) (S:Nat→Prop) (v:Value) (prs:List PR) (l:List Pt):Prop where
 sl:SlC w S 8 v l.length (prs.flatMap pc)
 ps:IsPs w S prs l
theorem PL.grow {w w':World} {S S':Nat→Prop} {v:Value} {prs:List PR} {l:List Pt} (h:PL w S v prs l) (hp:Pure w S w' S'):PL w' S' v prs l:=⟨h.sl.grow hp,h.ps.grow hp⟩
theorem PL.at {w0 w wr:World} {H:List Chunk} {F S:Nat→Prop} {v:Value} {prs:List PR} {l:List Pt} (h:PL wr S v prs l) (hS:Heap w0 w (.frz F wr::H)) (hF:∀ k,S k→F k):PL w S v prs l:=⟨h.sl.move (hS.keep hF),h.ps.at hS hF⟩
theorem PL.weaken {w:World} {S T:Nat→Prop} {v:Value} {prs:List PR} {l:List Pt} (h:PL w S v prs l) (hST:∀ k,S k→T k):PL w T v prs l:=⟨h.sl.weaken hST,h.ps.weaken hST⟩
def Stands (l:List Pt) (q:Pt) (i:Nat):Prop:=i≤l.length∧(∀ j,j<i→(nth pt0 l j).lt q)∧∀ j,i≤j→j<l.length→¬ (nth pt0 l j).lt q
end Go.Hp
namespace Go.Proofs
open Go.Proofs.Tryz
open Go.RowKit Go.Hp
theorem bsearchP_any (ad:Option Addr) (n c:Nat) (prs:List PR) (l:List Pt) (p:PR) (q:Pt) (w:World) (S:Nat→Prop) (hv:PL w S (.slice ad n c) prs l) (hp:IsP w S p q) (hL:Liv w S) (hsort:l.Pairwise Pt.lt) (hle:l.length≤1000000) :
 Calls Tryz.prog 117 #[.slice ad n c,.agg #[.bool p.x.num.neg,.slice p.x.num.ad p.x.num.n p.x.num.cap,.bool p.x.less.neg,.slice p.x.less.ad p.x.less.n p.x.less.cap,.bool p.y.num.neg,.slice p.y.num.ad p.y.num.n p.y.num.cap,.bool p.y.less.neg,.slice p.y.less.ad p.y.less.n p.y.less.cap],.func (.func 70) #[] #[]] w fun e w'=>(∃ i,Stands l q i∧e=.returned (.tuple #[.int .i64 (i:Int),.bool (decide (i<l.length∧nth pt0 l i=q))]))∧Pure w S w' S:=by
 have hn:n=l.length:=by obtain⟨h1,a,cap,h2,_⟩:=hv.sl;cases h2;rfl
 subst hn;have hlp:=hv.ps.len
 have hmono:∀ i j,i<j→j<l.length→(nth pt0 l i).lt (nth pt0 l j):=fun i j hij hj=>by
  have:=List.pairwise_iff_getElem.1 hsort i j (by omega) hj hij;rw [nth_eq pt0 l i (by omega),nth_eq pt0 l j hj];exact this
 obtain⟨hS,hF0,hO0,hp0⟩:=st0 hL
 go_enter func117,ntmps117
 go_wp2_with (with_reducible refine bxA hS fun bx wbx hS=>?_)
 go_loopw [9,10] (fun va vb wr=>∃ (a b:Nat) (F:Nat→Prop) (wq:World),a≤b∧b≤l.length∧va=.int .i64 (a:Int)∧vb=.int .i64 (b:Int)∧Heap w wr [.frz F wq,.blk bx (.cells (pc p).toArray 56 (0,0))]∧(∀ k,S k→F k)∧(∀ k,Old w k→F k)∧Pure w S wq S∧PL wq S (.slice ad l.length c) prs l∧IsP wq S p q∧(∀ j,j<a→(nth pt0 l j).lt q)∧∀ j,b≤j→j<l.length→¬ (nth pt0 l j).lt q) (fun va vb _=>(intOf vb - intOf va).toNat)
 case atStart=>exact⟨0,l.length,_,w,by omega,by omega,rfl,rfl,hS,hF0,hO0,hp0,hv,hp,fun j hj=>by omega,fun j h1 h2=>by omega⟩
 case round =>
  clear hS hF0 hO0 hp0 hv hp;obtain⟨a,b,F0,wq,hab,hbn,rfl,rfl,hS,hF0,hO0,hp0,hv,hp,hlo,hhi⟩:=hrel;replace hlo:=Hd hlo;replace hhi:=Hd hhi
  by_cases hlt:a<b
  ·obtain⟨h,hh⟩:∃ h,h=(a+b) / 2:=⟨_,rfl⟩
   have hha:a≤h:=by omega
   have hhb:h<b:=by omega
   have w1:IntKind.i64.wrap ((a:Int)+(b:Int))=(a:Int)+(b:Int):=w6;have w2:IntKind.u64.wrap ((a:Int)+(b:Int))=(a:Int)+(b:Int):=by rw [IntKind.wrap_u64];omega
   have w3:((a:Int)+(b:Int)) / 2=(h:Int):=by omega
   have w4:IntKind.i64.wrap (h:Int)=(h:Int):=w6;have w5:IntKind.u64.wrap (h:Int)=(h:Int):=by rw [IntKind.wrap_u64];omega
   have hc:=flat_cell pc_len p0 (show h<prs.length by omega);have hvo:=hv.sl.weaken hF0;have hel:=hv.ps.el h (by omega);obtain⟨m,hm⟩:∃ m,nth p0 prs h=m:=⟨_,rfl⟩;obtain⟨y,hy⟩:∃ y,nth pt0 l h=y:=⟨_,rfl⟩;rw [hm] at hc hel;rw [hy] at hel;clear hh;go_wp2;refine rg0 [.p 0,.p 1,.p 2,.p 3,.r 4,.r 5,.e 6,.p 7] [] hS fun w1 hS=>?_
   have hC:=hS
   repeat (with_reducible first|refine sixE underlying31 sizeOf56 hvo hc fun bq oq hcellq=>?_|refine sldG isAgg56 sizeOf56 ?_|refine sldA 1 isAgg56 sizeOf56 ?_|refine spL ?_)
   clear hvo;refine exL ?_
   go_wp2_with (fail)
   refine (pcompare_any m p y q _ S (hel.at hS hF0) (hp.at hS hF0) (Liv.at hS hF0)).mono ?_;rintro e w' ⟨rfl,hq1⟩;simp only [];go_step;have hv:=(hv.at hS hF0).grow hq1;have hp:=(hp.at hS hF0).grow hq1;have hC:=hC.below hq1.below hq1.drawn;replace hS:=hS.pcl hF0 hO0 hp0 hq1;obtain⟨F1,hF1,-,hp1,hO1,hS⟩:=hS;have hyq:=@cmpP_lt y q
   by_cases hd:y.lt q
   ·have hdt:decide (cmpP y q<0)=true:=by simpa [hyq] using hd
    clear hyq hc;replace hd:=Hd hd;refine ext_end hC ?_;refine mvs ?_;refine snL ?_;clear hC;go_wp2;go_roundw
    case rel =>
     refine⟨h+1,b,F1,_,by omega,by omega,by simp,rfl,hS,hF1,hO1,hp1,hv,hp,fun j hj=>?_,hhi.out⟩
     rcases Nat.lt_or_ge j h with h1|h1
     ·exact Pt.lt_trans (hmono j h h1 (by omega)) (by rw [hy];exact hd.out)
     ·obtain rfl:j=h:=by omega
      rw [hy];exact hd.out
    case measure=>simp [intOf];omega
   ·have hdt:decide (cmpP y q<0)=false:=by simpa [hyq] using hd
    clear hyq hc;replace hd:=Hd hd;refine ext_end hC ?_;refine mvs ?_;refine snL ?_;clear hC;go_wp2;go_roundw
    case rel =>
     refine⟨a,h,F1,_,by omega,by omega,rfl,rfl,hS,hF1,hO1,hp1,hv,hp,hlo.out,fun j h1 h2 hlt2=>?_⟩
     rcases Nat.lt_or_ge h j with h3|h3
     ·exact hd.out (Pt.lt_trans (by rw [← hy];exact hmono h j h3 h2) hlt2)
     ·obtain rfl:j=h:=by omega
      rw [hy] at hlt2;exact hd.out hlt2
    case measure=>simp [intOf];omega
  ·obtain rfl:a=b:=by omega
   by_cases hn:a<l.length
   ·have hnt:decide ((a:Int)<(l.length:Int))=true:=by simpa using hn
    have hc:=flat_cell pc_len p0 (show a<prs.length by omega);have hvo:=hv.sl.weaken hF0;have hel:=hv.ps.el a (by omega);obtain⟨m,hm⟩:∃ m,nth p0 prs a=m:=⟨_,rfl⟩;obtain⟨y,hy⟩:∃ y,nth pt0 l a=y:=⟨_,rfl⟩;rw [hm] at hc hel;rw [hy] at hel;go_wp2;refine rg0 [.p 0,.p 1,.p 2,.p 3,.p 4,.p 5,.p 6,.p 7,.p 8,.r 9,.r 10,.e 11,.p 12,.p 13,.p 14,.p 15] [] hS fun w1 hS=>?_
    have hC:=hS
    repeat (with_reducible first|refine sixE underlying31 sizeOf56 hvo hc fun bq oq hcellq=>?_|refine sldG isAgg56 sizeOf56 ?_|refine sldA 1 isAgg56 sizeOf56 ?_|refine spL ?_)
    clear hvo;refine exL ?_
    go_wp2_with (fail)
    refine (pcompare_any m p y q _ S (hel.at hS hF0) (hp.at hS hF0) (Liv.at hS hF0)).mono ?_;rintro e w' ⟨rfl,hq1⟩;simp only [];go_step;have hC:=hC.below hq1.below hq1.drawn;replace hS:=hS.pcl hF0 hO0 hp0 hq1;obtain⟨F1,hF1,-,hp1,hO1,hS⟩:=hS;refine ext_end hC ?_;have heq:=@cmpP_eq y q
    have hres:decide (a<l.length∧nth pt0 l a=q)=(cmpP y q == 0):=by
     rw [hy]
     by_cases h2:y=q
     ·subst h2;simp [hn,(cmpP_eq (p:=y) (q:=y)).2 rfl]
     ·simp [h2,mt heq.1 h2]
    replace hres:=Hd hres;clear heq hc;refine mvs ?_;refine snL ?_;go_wp2;refine bodyPost_ret (results_tmp2 rfl _ _ _) rfl ?_;exact⟨⟨a,⟨hbn,hlo.out,hhi.out⟩,by rw [hres.out];rfl⟩,hp1.step hS hO1 hF1⟩
   ·obtain rfl:a=l.length:=by omega
    go_wp2;refine rg0 [.p 0,.p 1,.p 2,.p 3,.p 4,.p 5,.p 6,.p 7,.p 8,.r 9,.r 10,.e 11,.p 12,.p 13,.p 14,.p 15] [] hS fun w1 hS=>?_
    have hC:=hS;refine mvs ?_;refine exL ?_;refine wpList_unwanted rfl ?_;refine ext_end hC ?_;refine mvs ?_;refine snL ?_;go_wp2;refine bodyPost_ret (results_tmp2 rfl _ _ _) rfl ?_;exact⟨⟨l.length,⟨hbn,hlo.out,hhi.out⟩,by simp⟩,hp0.step hS hO0 hF0⟩
end Go.Proofs
namespace Go.Hp
open Go.Proofs.Tryz
open Go
theorem pc1 (p:PR):∀ v ∈ (pc p).toArray.toList,v.oneCell'=true:=by
 intro v hv;have:=pc_one [p] v (by simpa using hv);exact this
theorem flat_take {α:Type} {f:α→List Value} {k:Nat} (hk:∀ x,(f x).length=k):∀ (l:List α) (i:Nat),(l.flatMap f).take (i*k)=(l.take i).flatMap f
 | [],i=>by simp
 | x::l,0=>by simp
 | x::l,i+1=>by
  have h:=flat_take hk l i;rw [List.flatMap_cons,List.take_succ_cons,List.flatMap_cons,Nat.add_mul,Nat.one_mul,Nat.add_comm,← h,← hk x,List.take_length_add_append]
theorem flat_drop {α:Type} {f:α→List Value} {k:Nat} (hk:∀ x,(f x).length=k):∀ (l:List α) (i:Nat),(l.flatMap f).drop (i*k)=(l.drop i).flatMap f
 | [],i=>by simp
 | x::l,0=>by simp
 | x::l,i+1=>by
  have h:=flat_drop hk l i;rw [List.flatMap_cons,List.drop_succ_cons,Nat.add_mul,Nat.one_mul,Nat.add_comm,← h,← List.drop_drop,← hk x,List.drop_left]
theorem ins_shift {cur D X:List Value} {i n:Nat} (hX:X.length=8) (hD:D.length=(n - i)*8) (hin:i<n) (hc:(n+1)*8≤cur.length) :
 ((((cur.take ((i+1)*8)++D++cur.drop ((i+1)*8+D.length)).take (i*8))++X++(cur.take ((i+1)*8)++D++cur.drop ((i+1)*8+D.length)).drop (i*8+X.length))).take ((n+1)*8)=cur.take (i*8)++X++D:=by
 have h1:(cur.take ((i+1)*8)++D++cur.drop ((i+1)*8+D.length)).take (i*8)=cur.take (i*8):=by
  rw [List.append_assoc,List.take_append_of_le_length (by simp;omega),List.take_take,Nat.min_eq_left (by omega)]
 have h2:(cur.take ((i+1)*8)++D++cur.drop ((i+1)*8+D.length)).drop (i*8+X.length)=D++cur.drop ((i+1)*8+D.length):=by
  rw [List.append_assoc,List.drop_append_of_le_length (by simp;omega),List.drop_of_length_le (by simp;omega),List.nil_append]
 rw [h1,h2,← List.append_assoc,List.take_append_of_le_length (by simp;omega),List.take_of_length_le (by simp;omega)]
theorem ins_grow {arr D X:List Value} {i n:Nat} (hX:X.length=8) (hD:D.length=(n - i)*8) (hin:i<n) (hc:(n+1)*8≤arr.length) :
 ((arr.take (i*8)++X++arr.drop (i*8+X.length)).take ((i+1)*8)++D++(arr.take (i*8)++X++arr.drop (i*8+X.length)).drop ((i+1)*8+D.length)).take ((n+1)*8)=arr.take (i*8)++X++D:=by
 have h1:(arr.take (i*8)++X++arr.drop (i*8+X.length)).take ((i+1)*8)=arr.take (i*8)++X:=by
  rw [List.take_append_of_le_length (by simp;omega),List.take_of_length_le (by simp;omega)]
 rw [h1,List.append_assoc (arr.take (i*8)++X) D,← List.append_assoc (arr.take (i*8)++X) D,List.take_append_of_le_length (by simp;omega),List.take_of_length_le (by simp;omega)]
end Go.Hp
namespace Go.Proofs
open Go.Proofs.Tryz
open Go.RowKit Go.Hp
theorem infoP:(Tryz.prog.info? 56).map (fun i=>(i.zero,i.size,i.bytes))=some (some (.agg #[.bool p0.x.num.neg,.slice p0.x.num.ad p0.x.num.n p0.x.num.cap,.bool p0.x.less.neg,.slice p0.x.less.ad p0.x.less.n p0.x.less.cap,.bool p0.y.num.neg,.slice p0.y.num.ad p0.y.num.n p0.y.num.cap,.bool p0.y.less.neg,.slice p0.y.less.ad p0.y.less.n p0.y.less.cap]),8,128):=by kernel_rfl
theorem sizeP:(Tryz.prog.info? 56).map (·.size)=some 8:=by kernel_rfl
theorem ov_points (w:World) (vb b o m vc lb cb:Nat) (hne:vb≠b) (A B:Array Value) (tA tB:TypeId) (hA:w.heap[vb]? = some (.cells A tA (0,0))) (hB:w.heap[b]? = some (.cells B tB (0,0))) (hB0:B.size≠0) :
 (callFunc 168 #[.slice (some ⟨vb,0,none⟩) m vc,.slice (some ⟨b,o,none⟩) lb cb]).run Tryz.prog w=.ok (.value (.bool false)) w:=by
 rw [run_callFunc_extern func168 (by kernel_rfl) (by kernel_rfl) (by kernel_rfl) (e:=Extern.SlicesOverlaps.overlaps #[31,31] #[4]) (by kernel_rfl),
  Lib.run_overlaps_apart w 31 4 56 underlying31 8 sizeOf56 ⟨vb,0,none⟩ ⟨b,o,none⟩ m vc lb cb hne tA tB A.size B.size (by simp [World.shape?,hA]) (by simp [World.shape?,hB]) hB0 (by simp [World.frozen?,hA]) (by simp [World.frozen?,hA])]
 rfl
theorem insertP_any (ad:Option Addr) (n c i vb:Nat) (prs:List PR) (p:PR) (Tb:TypeId) (w:World) (S:Nat→Prop) (hS:Heap w w [.frz S w,.row (.slice ad n c) 56 8 n (prs.flatMap pc),.blk vb (.cells (pc p).toArray Tb (0,0))]) (hi:i≤n) (hn:n≤100000) :
 Calls Tryz.prog 118 #[.slice ad n c,.int .i64 i,.slice (some ⟨vb,0,none⟩) 1 1] w fun e w'=>∃ ad' c',e=.returned (.slice ad' (n+1) c')∧Heap w w' [.frz S w,.row (.slice ad' (n+1) c') 56 8 (n+1) ((prs.take i++p::prs.drop i).flatMap pc)]:=by
 have hlen:prs.length=n:=by
  have:=(hS.rowSl 1 rfl).1;rw [flat_len pc_len] at this;omega
 have hnc:n≤c:=hS.rowCap 1 rfl
 by_cases hin:i=n
 ·subst hin
  have hres:(prs.take i++p::prs.drop i).flatMap pc=prs.flatMap pc++(pc p).toArray.toList:=by
   rw [List.take_of_length_le (by omega),List.drop_of_length_le (by omega)];simp
  rw [hres];clear hres;replace hS:Heap w w ([.frz S w,.row (.slice ad i c) 56 8 i (prs.flatMap pc)]++[.blk vb (.cells (pc p).toArray Tb (0,0))]):=hS;obtain⟨hl0,ho0⟩:=hS.ok _ (List.mem_of_getElem? (i:=1) rfl)
  rcases ho0 with ⟨h1,h2⟩|⟨g,cap,cur,h1,hb0,hg,hnc2,hcm,hcs,htk⟩
  ·simp only [Value.slice.injEq] at h1
   obtain⟨rfl,rfl,rfl⟩:=h1;clear h2 hl0
   go_enter func118,ntmps118
   go_wp2_with (first|((with_reducible refine g_app ?_);refine seq_append_lit (t:=31) 1 hS underlying31 infoP rfl (by decide) rfl rfl rfl rfl (pc1 p) (by omega) (by unfold maxLen;omega) (fun ad2 cp2 _ hS=>?_)))
   go_ret;exact⟨_,_,rfl,hS⟩
  ·simp only [Value.slice.injEq] at h1
   obtain⟨rfl,-,rfl⟩:=h1;clear hl0 hb0 hg hcs htk hnc2
   by_cases hci:c=i
   ·subst hci
    go_enter func118,ntmps118
    go_wp2_with (first|((with_reducible refine g_app ?_);refine seq_append_lit (t:=31) 1 hS underlying31 infoP rfl (by decide) rfl rfl rfl rfl (pc1 p) (by omega) (by unfold maxLen;omega) (fun ad2 cp2 _ hS=>?_)))
    go_ret;exact⟨_,_,rfl,hS⟩
   ·skip
    go_enter func118,ntmps118
    go_wp2_with (first|((with_reducible refine g_app ?_);refine seq_append_lit (t:=31) 1 hS underlying31 infoP rfl (by decide) rfl rfl rfl rfl (pc1 p) (by omega) (by unfold maxLen;omega) (fun ad2 cp2 _ hS=>?_)))
    go_ret;exact⟨_,_,rfl,hS⟩
 ·obtain⟨g,cur,rfl,hnc2,hcm,hcs,hcl,htk,hS⟩:=hS.openRow 1 rfl (by omega)
  simp only [NRH] at hS;have hif:((i:Int) == (n:Int))=false:=by simp;omega
  have hin2:¬ n=i:=fun h=>hin h.symm
  have hci:¬ c=i:=by omega
  have hc8:c*8=cur.size:=hcs.symm;have hvb:w.heap[vb]? = some (.cells (pc p).toArray Tb (0,0)):=hS.blk (List.mem_of_getElem? (i:=2) rfl);have hgb:w.heap[g]? = some (.cells cur 56 (0,0)):=hS.blk (List.mem_of_getElem? (i:=1) rfl)
  have hne:vb≠g:=by
   have:=List.pairwise_iff_getElem.1 hS.apart 1 2 (by simp) (by simp) (by omega);intro e;subst e;exact absurd rfl (this vb rfl)
  have hov:=fun o lb cb=>ov_points w vb g o 1 1 lb cb hne _ _ _ _ hvb hgb (by omega)
  have hw1:IntKind.i64.wrap ((i:Int)+1)=(i:Int)+1:=w6;have hw2:IntKind.i64.wrap ((n:Int)+1)=(n:Int)+1:=w6;have htn:((i:Int)+1).toNat=i+1:=by omega
  have htn2:((n:Int)+1).toNat=n+1:=by omega
  have hA:(prs.take i).flatMap pc=cur.toList.take (i*8):=by rw [← flat_take pc_len,← htk,List.take_take,Nat.min_eq_left (by omega)]
  have hD:(prs.drop i).flatMap pc=(cur.toList.drop (i*8)).take ((n - i)*8):=by
   rw [← flat_drop pc_len,← htk,List.drop_take];congr 1;omega
  have hDl:((prs.drop i).flatMap pc).length=(n - i)*8:=by rw [flat_len pc_len,List.length_drop,hlen]
  have hres:(prs.take i++p::prs.drop i).flatMap pc=cur.toList.take (i*8)++pc p++(prs.drop i).flatMap pc:=by
   rw [← hA];simp
  rw [hres];clear hres hA;obtain⟨D,hDe⟩:∃ D,(prs.drop i).flatMap pc=D:=⟨_,rfl⟩;have hD1:∀ u ∈ D,u.oneCell'=true:=by rw [← hDe];exact pc_one _
  rw [hDe] at hD hDl ⊢;clear hDe htk hcl;replace hD:=Hd hD;replace hDl:=Hd hDl
  by_cases hroom:n+1≤c
  ·have hrf:decide ((c:Int)<(n:Int)+1)=false:=by simp;omega
   have hci1:¬ c=i+1:=by omega
   have hr2:(n:Int)+1≤(c:Int):=by omega
   clear hvb hgb
   go_enter func118,ntmps118
   go_wp2_with (simp only [hov])
   refine rg0 [.p 0,.p 1,.p 2,.p 3,.p 4,.p 5,.p 6,.p 7,.m 8] [8] hS fun w1 hS=>?_
   repeat (first|((with_reducible refine m_pure ?_);refine sched_any rfl rfl (any_slice_lo (T:=31) (j:=i+1) underlying31 sizeOf56 rfl rfl (by omega) (by omega) (by omega) ?_);simp only [NRM];simp only [Nat.zero_add])|((with_reducible refine m_pure ?_);refine sched_any rfl rfl (any_slice_lo (T:=31) (j:=i) underlying31 sizeOf56 rfl rfl (by omega) (by omega) (by omega) ?_);simp only [NRM];simp only [Nat.zero_add])|(with_reducible refine spL ?_))
   refine muL ?_
   ((with_reducible refine g_cpy ?_);refine seq_copy_k (k:=8) (m:=n - i) (cs:=D) 1 hS underlying31 sizeP rfl rfl rfl (by simp only [Nat.min_def];split <;> omega) hDl.out (cells_of_blk hS (List.mem_of_getElem? (i:=1) rfl) (by rw [hDl.out];exact hD.out)) (by rw [hDl.out];omega) hD1 (fun _ hS=>?_);simp only [NRM];simp only [NRH] at hS)
   refine mut_end ?_;refine snL ?_
   go_wp2_with (first|((with_reducible refine g_slice (T:=31) ?_);refine seq_any rfl (any_slice_lo (T:=31) (j:=i) underlying31 sizeOf56 rfl rfl (by omega) (by omega) (by omega) ?_);simp only [NRM];simp only [Nat.zero_add])|((with_reducible refine g_cpy ?_);refine seq_copy_k (k:=8) (m:=1) (cs:=pc p) 1 hS underlying31 sizeP rfl rfl rfl (by simp only [Nat.min_def];split <;> omega) rfl (cells_of_blk hS (arr:=(pc p).toArray) (Tb:=Tb) (List.mem_of_getElem? (i:=2) rfl) rfl) (by simp [hDl.out,pc_len];omega) (pc1 p) (fun _ hS=>?_);simp only [NRM];simp only [NRH] at hS))
   go_ret;have hS:=(hS.closeRow (c:=c) (n:=n+1) (k:=8) 1 rfl (by simp [hDl.out,pc_len];omega) hroom hcm).pick [0,1] rfl;simp only [List.filterMap_cons,List.getElem?_cons_zero,List.getElem?_cons_succ,List.filterMap_nil,List.set_cons_succ,List.set_cons_zero] at hS;refine⟨_,_,rfl,?_⟩;rw [← ins_shift (pc_len p) hDl.out (by omega) (by simp;omega)]
   simpa using hS
  ·have hrt:decide ((c:Int)<(n:Int)+1)=true:=by simp;omega
   have hw3:IntKind.i64.wrap ((n:Int)+1 - (i:Int))=(n:Int)+1 - (i:Int):=w6;have him:i+(n+1 - i)=n+1:=by omega
   have hic:(i:Int)≤(c:Int):=by omega
   clear hov hvb hgb
   go_enter func118,ntmps118
   go_wp2_with (first|((with_reducible refine g_app ?_);refine seq_append_zeros (m:=n+1 - i) (i:=i) (T:=31) (E:=56) (tn:=3) (k:=8) 1 hS underlying31 underlying3 infoP (by decide) rfl rfl rfl (by omega) (by omega) (by omega) rfl (by omega) (by omega) (by omega) (fun b G arr _ hS harr hG1 hG2 htk2=>?_);rw [him] at hG1 ⊢;simp only [NRM];simp only [NRH] at hS)|((with_reducible refine g_slice (T:=31) ?_);refine seq_any rfl (any_slice_lo (T:=31) (j:=i) underlying31 sizeOf56 rfl rfl (by omega) (by omega) (by omega) ?_);simp only [NRM];simp only [Nat.zero_add])|((with_reducible refine g_cpy ?_);refine seq_copy_k (k:=8) (m:=1) (cs:=pc p) 3 hS underlying31 sizeP rfl rfl rfl (by simp only [Nat.min_def];split <;> omega) rfl (cells_of_blk hS (arr:=(pc p).toArray) (Tb:=Tb) (List.mem_of_getElem? (i:=2) rfl) rfl) (by simp [pc_len];omega) (pc1 p) (fun _ hS=>?_);simp only [NRM];simp only [NRH] at hS))
   refine rg0 [.p 0,.p 1,.p 2,.p 3,.p 4,.p 5,.p 6,.p 7,.m 8] [8] hS fun w1 hS=>?_
   repeat (first|((with_reducible refine m_pure ?_);refine sched_any rfl rfl (any_slice_lo (T:=31) (j:=i+1) underlying31 sizeOf56 rfl rfl (by omega) (by omega) (by omega) ?_);simp only [NRM];simp only [Nat.zero_add])|((with_reducible refine m_pure ?_);refine sched_any rfl rfl (any_slice_lo (T:=31) (j:=i) underlying31 sizeOf56 rfl rfl (by omega) (by omega) (by omega) ?_);simp only [NRM];simp only [Nat.zero_add])|(with_reducible refine spL ?_))
   refine muL ?_
   ((with_reducible refine g_cpy ?_);refine seq_copy_k (k:=8) (m:=n - i) (cs:=D) 3 hS underlying31 sizeP rfl rfl rfl (by simp only [Nat.min_def];split <;> omega) hDl.out (cells_of_blk hS (List.mem_of_getElem? (i:=1) rfl) (by rw [hDl.out];exact hD.out)) (by simp [hDl.out,pc_len];omega) hD1 (fun _ hS=>?_);simp only [NRM];simp only [NRH] at hS)
   refine mut_end ?_;refine snL ?_;go_wp2;go_ret;have hS:=(hS.closeRow (c:=G) (n:=n+1) (k:=8) 3 rfl (by simp [hDl.out,pc_len];omega) hG1 hG2).pick [0,3] rfl;simp only [List.filterMap_cons,List.getElem?_cons_zero,List.getElem?_cons_succ,List.filterMap_nil,List.set_cons_succ,List.set_cons_zero] at hS;refine⟨_,_,rfl,?_⟩;rw [← htk2,← ins_grow (pc_len p) hDl.out (by omega) (by simp;omega)]
   simpa using hS
end Go.Proofs
