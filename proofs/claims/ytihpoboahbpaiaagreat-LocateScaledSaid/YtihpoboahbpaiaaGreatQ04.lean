/- Texts for the walk of the law: K2 WU. -/
import Derived.Laws.CopyRow
import Derived.Laws.IdiomCopy
import Derived.Test.YtihpoboahbpaiaaGreatRows
import Derived.Test.YtihpoboahbpaiaaGreatQ02
import Derived.Test.YtihpoboahbpaiaaGreatQ03
set_option maxRecDepth 100000
set_option maxHeartbeats 16000000
set_option linter.unusedVariables false
set_option linter.unusedSimpArgs false
namespace Go.Hp
open Go Go.RowKit
theorem wrapU64 {x:Nat} (h:x<18446744073709551616):IntKind.u64.wrap (x:Int)=(x:Int):=by rw [IntKind.wrap_u64];omega
def wv (l:List Nat):List Value:=l.map (fun n=>Value.int .u32 ((n:Nat):Int))
theorem wv_length (l:List Nat):(wv l).length=l.length:=by simp [wv]
theorem wv_at {l:List Nat} {i:Nat} (h:i<l.length):(wv l)[i]? = some (.int .u32 ((nth 0 l i:Nat):Int)):=by
 rw [nth_eq 0 l i h];simp [wv,h]
theorem wv_take (l:List Nat) (i:Nat):(wv l).take i=wv (l.take i):=by simp [wv,List.map_take]
theorem wv_set (l:List Nat) (i x:Nat):(wv l).set i (.int .u32 (x:Int))=wv (l.set i x):=by simp [wv]
theorem wv_one (l:List Nat):∀ u ∈ wv l,u.oneCell'=true:=by
 intro u hu;obtain⟨n,_,rfl⟩:=List.mem_map.1 hu
 rfl
theorem wv_cell {l:List Nat} {i:Nat} (h:i<l.length):((wv l).drop i).take 1=[.int .u32 ((nth 0 l i:Nat):Int)]:=by
 apply List.ext_getElem?;intro j;rw [List.getElem?_take,List.getElem?_drop];cases j with
 | zero=>simp [wv_at h]
 | succ j=>simp
theorem nth_take {α:Type} (d:α) (l:List α) {k i:Nat} (h:i<k):nth d (l.take k) i=nth d l i:=by
 unfold nth;simp [List.getD_eq_getElem?_getD,List.getElem?_take,h]
structure Mag (w:World) (S:Nat→Prop) (v:Value) (l:List Nat):Prop where
 sl:SlC w S 1 v l.length (wv l)
 wd:Wd l
structure Pure (w:World) (S:Nat→Prop) (w':World) (S':Nat→Prop):Prop where
 below:Below w.heap.size w w'
 drawn:w.drawn≤w'.drawn
 sub:∀ k,S k→S' k
 new:∀ k,S' k→S k∨New w w' k
theorem Pure.refl (w:World) (S:Nat→Prop):Pure w S w S:=⟨Below.refl _ _,Nat.le_refl _,fun _ h=>h,fun _ h=>.inl h⟩
theorem New.trans1 {w w' w'':World} (h:Below w'.heap.size w' w'') {k:Nat} (hk:Go.Hp.New w w' k):Go.Hp.New w w'' k:=⟨hk.1,Nat.lt_of_lt_of_le hk.2 h.size⟩
theorem Pure.trans {w w' w'':World} {S S' S'':Nat→Prop} (h:Pure w S w' S') (h':Pure w' S' w'' S''):Pure w S w'' S'' :=
 ⟨h.below.trans (h'.below.mono h.below.size),Nat.le_trans h.drawn h'.drawn,fun k hk=>h'.sub k (h.sub k hk),fun k hk=>by
  rcases h'.new k hk with h1|h1
  ·rcases h.new k h1 with h2|h2
   ·exact .inl h2
   ·exact .inr (New.trans1 h'.below h2)
  ·exact .inr ⟨Nat.le_trans h.below.size h1.1,h1.2⟩⟩
theorem SlC.grow {w w':World} {S S':Nat→Prop} {k n:Nat} {v:Value} {cs:List Value} (h:SlC w S k v n cs) (hp:Pure w S w' S'):SlC w' S' k v n cs:=(h.below hp.below).weaken hp.sub
theorem Mag.grow {w w':World} {S S':Nat→Prop} {v:Value} {l:List Nat} (h:Mag w S v l) (hp:Pure w S w' S'):Mag w' S' v l:=⟨h.sl.grow hp,h.wd⟩
theorem Mag.len {w:World} {S:Nat→Prop} {ad:Option Addr} {n c:Nat} {l:List Nat} (h:Mag w S (.slice ad n c) l):n=l.length:=by
 obtain⟨h1,a,cap,h2,_⟩:=h.sl;cases h2;rfl
theorem Mag.cap {w:World} {S:Nat→Prop} {ad:Option Addr} {n c:Nat} {l:List Nat} (h:Mag w S (.slice ad n c) l):n≤c∧c≤9223372036854775807:=by
 obtain⟨h1,a,cap,h2,h3,h4,_⟩:=h.sl;cases h2;simp only [maxLen] at h4;omega
theorem Mag.cut {w:World} {S:Nat→Prop} {ad:Option Addr} {n c:Nat} {l:List Nat} (h:Mag w S (.slice ad n c) l) {k:Nat} (hk:k≤l.length):Mag w S (.slice ad k c) (l.take k):=by
 obtain⟨⟨h1,a,cap,h2,h3,h4,h5,h6⟩,hw⟩:=h;cases h2;refine⟨⟨by rw [wv_length,Nat.mul_one],ad,c,by rw [List.length_take,Nat.min_eq_left hk],by rw [List.length_take];omega,h4,fun e=>⟨?_,(h5 e).2⟩,fun a e=>?_⟩,hw.take k⟩
 ·have:=(h5 e).1;rw [List.length_take];omega
 ·obtain⟨g1,g2,g3⟩:=h6 a e
  rw [← wv_take];refine⟨fun hne=>g1 (fun e=>hne (by rw [e];exact List.take_nil)),fun hne=>g2 (fun e=>hne (by rw [e];exact List.take_nil)),fun j u hu=>g3 j u ?_⟩;rw [List.getElem?_take] at hu
  split at hu
  ·exact hu
  ·cases hu
theorem Mag.nil (w:World) (S:Nat→Prop):Mag w S (.slice none 0 0) []:=⟨SlC.nil w S 1,by intro x hx;cases hx⟩
theorem Mag.later {w0 w wr:World} {H:List Chunk} {S:Nat→Prop} {v:Value} {l:List Nat} (h:Mag wr S v l) (hS:Heap w0 w H) (hm:Chunk.frz S wr ∈ H):Mag w S v l:=⟨h.sl.later hS hm,h.wd⟩
theorem Mag.weaken {w:World} {S T:Nat→Prop} {v:Value} {l:List Nat} (h:Mag w S v l) (hST:∀ k,S k→T k):Mag w T v l:=⟨h.sl.weaken hST,h.wd⟩
theorem Mag.old {w:World} {S:Nat→Prop} {v:Value} {l:List Nat} (h:Mag w S v l):Mag w (Old w) v l:=⟨h.sl.old,h.wd⟩
theorem SlC.ofBlk {w0 w:World} {H:List Chunk} {b k n:Nat} {arr:Array Value} {T:TypeId} (hS:Heap w0 w H) (hm:Chunk.blk b (.cells arr T (0,0)) ∈ H) (hl:arr.size=n*k) (hn:n≤maxLen):SlC w (fun j=>j=b) k (.slice (some ⟨b,0,none⟩) n n) n arr.toList:=by
 refine⟨by simpa using hl,some ⟨b,0,none⟩,n,rfl,Nat.le_refl _,hn,(fun e=>by cases e),fun ad e=>?_⟩;cases e;refine⟨fun _=>rfl,fun _=>rfl,fun j u hu=>?_⟩;rw [Nat.zero_add,cell_of_row w b j arr T (0,0) (hS.blk hm)]
 simpa using hu
theorem Mag.blk {w0 w:World} {H:List Chunk} {b:Nat} {l:List Nat} {T:TypeId} (j:Nat) (h:Heap w0 w H) (hj:H[j]? = some (.blk b (.cells (wv l).toArray T (0,0)))) (hw:Wd l) (hn:l.length≤maxLen):Mag w (fun k=>k=b) (.slice (some ⟨b,0,none⟩) l.length l.length) l:=by
 have:=SlC.ofBlk (k:=1) h (List.mem_of_getElem? hj) (by simp [wv_length]) hn;exact⟨by simpa using this,hw⟩
theorem Heap.isNew {w0 w:World} {H:List Chunk} (h:Heap w0 w (.frz (Old w0) w0::H)) {c:Chunk} (hm:c ∈ H) {k:Nat} (hk:c.has k):Go.Hp.New w0 w k:=by
 refine⟨?_,Chunk.lt (h.ok c (by simp [hm])) hk⟩
 rcases Nat.lt_or_ge k w0.heap.size with hlt|hge
 ·exact absurd hk ((List.pairwise_cons.1 h.apart).1 c hm k hlt)
 ·exact hge
theorem filterMap_range {α:Type} (H:List α):(List.range H.length).filterMap (fun i=>H[i]?)=H:=by
 induction H with
 | nil=>rfl
 | cons x H ih =>
  rw [List.length_cons,List.range_succ_eq_map,List.filterMap_cons_some (by rfl:(x::H)[0]? = some x),List.filterMap_map]
  congr 1
theorem Heap.order {w0 w:World} {H:List Chunk} (h:Heap w0 w H) (is:List Nat) (hp:is.isPerm (List.range H.length)=true):Heap w0 w (is.filterMap (fun i=>H[i]?)):=by
 have h1:=(List.isPerm_iff.1 hp).filterMap (fun i=>H[i]?);rw [filterMap_range] at h1;exact h.perm h1
theorem Heap.import {w0 w w':World} {H B:List Chunk} (h:Heap w0 w H) (h':Heap w w' (.frz (Old w) w::B)):Heap w0 w' (H++B):=by
 have h0:Heap w0 w (H++[]):=by rw [List.append_nil];exact h
 refine Heap.unsplit (B:=[]) h0 ?_;have:Rest w []=Old w:=by funext k;simp [Rest,Old]
 rw [this];exact h'
theorem Heap.pure {w0 w:World} {H:List Chunk} (hS:Heap w0 w (.frz (Old w0) w0::H)) (S:Nat→Prop):Pure w0 S w S:=⟨hS.toBelow (by simp),hS.drawn,fun _ h=>h,fun _ h=>.inl h⟩
theorem Heap.magOut {w0 w:World} {H:List Chunk} {b:Nat} {l:List Nat} {T:TypeId} (S:Nat→Prop) (j:Nat) (h:Heap w0 w (.frz (Old w0) w0::H)) (hj:H[j]? = some (.blk b (.cells (wv l).toArray T (0,0)))) (hw:Wd l) (hn:l.length≤maxLen) :
 Pure w0 S w (fun k=>S k∨k=b)∧Mag w (fun k=>S k∨k=b) (.slice (some ⟨b,0,none⟩) l.length l.length) l:=by
 have hm:=List.mem_of_getElem? hj;refine⟨⟨h.toBelow (by simp),h.drawn,fun k hk=>.inl hk,fun k hk=>?_⟩,?_,hw⟩
 ·rcases hk with hk|rfl
  ·exact .inl hk
  ·exact .inr (h.isNew hm (c:=.blk k _) rfl)
 ·have:=SlC.ofBlk (k:=1) h (List.mem_cons_of_mem _ hm) (by simp [wv_length]) hn
  simp only at this;exact this.weaken fun k hk=>.inr hk
theorem Lim_ex:∃ n:Nat,n=WB ^ 512:=⟨_,rfl⟩
noncomputable def Lim:Nat:=Classical.choose Lim_ex
theorem Lim_eq:Lim=WB ^ 512:=Classical.choose_spec Lim_ex
theorem Lim_len {l:List Nat} (hn:Nm l) (h:val l<Lim):l.length≤512:=nm_len hn (by rw [← Lim_eq];exact h)
theorem Lim_lt {l:List Nat} (hw:Wd l) (h:l.length≤512):val l<Lim:=by
 obtain⟨e,he⟩:∃ e:Nat,e=512:=⟨_,rfl⟩;rw [Lim_eq,← he];rw [← he] at h;exact Nat.lt_of_lt_of_le (val_lt hw) (Nat.pow_le_pow_right WB_pos h)
structure WI where
 neg:Bool
 ad:Option Addr
 n:Nat
 cap:Nat
def IsI (w:World) (S:Nat→Prop) (x:WI) (z:Int):Prop :=
 ∃ l,Mag w S (.slice x.ad x.n x.cap) l∧Nm l∧l.length≤512∧x.neg=decide (z<0)∧val l=z.natAbs
theorem IsI.grow {w w':World} {S S':Nat→Prop} {x:WI} {z:Int} (h:IsI w S x z) (hp:Pure w S w' S'):IsI w' S' x z:=by
 obtain⟨l,h1,h2⟩:=h;exact⟨l,h1.grow hp,h2⟩
theorem IsI.weaken {w:World} {S T:Nat→Prop} {x:WI} {z:Int} (h:IsI w S x z) (hST:∀ k,S k→T k):IsI w T x z:=by
 obtain⟨l,h1,h2⟩:=h;exact⟨l,h1.weaken hST,h2⟩
def Liv (w:World) (S:Nat→Prop):Prop:=∀ k,S k→k<w.heap.size
theorem Pure.liv {w w':World} {S S':Nat→Prop} (h:Pure w S w' S') (hL:Liv w S):Liv w' S':=fun k hk=>by
 rcases h.new k hk with h1|h1
 ·exact Nat.lt_of_lt_of_le (hL k h1) h.below.size
 ·exact h1.2
theorem st0 {w:World} {S:Nat→Prop} (hL:Liv w S):Heap w w [.frz (Old w) w]∧(∀ k,S k→Old w k)∧(∀ k,Old w k→Old w k)∧Pure w S w S:=⟨Heap.start w,hL,fun _ h=>h,Pure.refl w S⟩
theorem Heap.keep {w0 w wr:World} {H:List Chunk} {F S:Nat→Prop} (hS:Heap w0 w (.frz F wr::H)) (hF:∀ k,S k→F k):∀ k,S k→w.heap[k]? = wr.heap[k]?:=fun k hk=>(hS.ok (.frz F wr) (by simp) k (hF k hk)).2
theorem CellsAt.move {w wr:World} {S:Nat→Prop} {ad:Addr} {cs:List Value} (h:CellsAt wr S ad cs) (hk:∀ k,S k→w.heap[k]? = wr.heap[k]?):CellsAt w S ad cs :=
 ⟨h.spot,h.inS,fun j u hu=>by
  rw [World.cell?_of_block (w:=wr) (a:=⟨ad.block,ad.off+j,none⟩) (hk _ (h.inS (by intro e;subst e;simp at hu)))];exact h.cell j u hu⟩
theorem SlC.move {w wr:World} {S:Nat→Prop} {k n:Nat} {v:Value} {cs:List Value} (h:SlC wr S k v n cs) (hk:∀ k,S k→w.heap[k]? = wr.heap[k]?):SlC w S k v n cs:=by
 obtain⟨h1,a,cap,h2,h3,h4,h5,h6⟩:=h;exact⟨h1,a,cap,h2,h3,h4,h5,fun ad e=>(h6 ad e).move hk⟩
theorem Mag.move {w wr:World} {S:Nat→Prop} {v:Value} {l:List Nat} (h:Mag wr S v l) (hk:∀ k,S k→w.heap[k]? = wr.heap[k]?):Mag w S v l:=⟨h.sl.move hk,h.wd⟩
theorem IsI.move {w wr:World} {S:Nat→Prop} {x:WI} {z:Int} (h:IsI wr S x z) (hk:∀ k,S k→w.heap[k]? = wr.heap[k]?):IsI w S x z:=by
 obtain⟨l,h1,h2⟩:=h;exact⟨l,h1.move hk,h2⟩
theorem Mag.at {w0 w wr:World} {H:List Chunk} {F S:Nat→Prop} {v:Value} {l:List Nat} (h:Mag wr S v l) (hS:Heap w0 w (.frz F wr::H)) (hF:∀ k,S k→F k):Mag w S v l:=h.move (hS.keep hF)
theorem IsI.at {w0 w wr:World} {H:List Chunk} {F S:Nat→Prop} {x:WI} {z:Int} (h:IsI wr S x z) (hS:Heap w0 w (.frz F wr::H)) (hF:∀ k,S k→F k):IsI w S x z:=h.move (hS.keep hF)
theorem Heap.pcall {w0 w wr w':World} {H:List Chunk} {F S S':Nat→Prop} (hS:Heap w0 w (.frz F wr::H)) (hF:∀ k,S k→F k) (hq:Pure w S w' S'):∃ F',(∀ k,S' k→F' k)∧(∀ k,F k→F' k)∧Heap w0 w' (.frz F' w'::H):=by
 refine⟨fun k=>F k∨New w w' k,fun k hk=>?_,fun k hk=>.inl hk,?_⟩
 ·rcases hq.new k hk with h|h
  ·exact .inl (hF k h)
  ·exact .inr h
 ·have h1:=hS.call hq.below hq.drawn
  have h2:Heap w0 w' (.frz F wr::.frz (New w w') w'::H):=h1.perm (by
   simp only [List.cons_append];refine List.Perm.cons _ ?_;exact (List.perm_append_comm (l₁:=[Chunk.frz (New w w') w']) (l₂:=H)))
  exact h2.join
theorem Heap.base {w0 w wr:World} {H:List Chunk} {F S0 S:Nat→Prop} (hS:Heap w0 w (.frz F wr::H)) (hO:∀ k,Old w0 k→F k) (hp:Pure w0 S0 wr S):Heap w0 w (.frz (Old w0) w0::H):=by
 refine⟨hS.os,hS.tape,hS.output,hS.drawn,hS.size,?_,?_⟩
 ·intro c hc
  rcases List.mem_cons.1 hc with hc|hc
  ·subst hc
   exact fun k hk=>⟨(hS.ok (.frz F wr) (by simp) k (hO k hk)).1,(hS.keep hO k hk).trans (hp.below.block k hk)⟩
  ·exact hS.ok c (by simp [hc])
 ·have h:=List.pairwise_cons.1 hS.apart
  exact List.pairwise_cons.2 ⟨fun c hc k hk=>h.1 c hc k (hO k hk),h.2⟩
theorem Pure.step {w0 w wr:World} {H:List Chunk} {F S0 S:Nat→Prop} (hp:Pure w0 S0 wr S) (hS:Heap w0 w (.frz F wr::H)) (hO:∀ k,Old w0 k→F k) (hF:∀ k,S k→F k):Pure w0 S0 w S :=
 ⟨⟨hS.os,hS.tape,hS.output,hS.size,fun k hk=>(hS.keep hO k hk).trans (hp.below.block k hk)⟩,hS.drawn,hp.sub,fun k hk=>by
  rcases hp.new k hk with h|h
  ·exact .inl h
  ·exact .inr ⟨h.1,(hS.ok (.frz F wr) (by simp) k (hF k hk)).1⟩⟩
theorem IsI.zero (w:World) (S:Nat→Prop):IsI w S ⟨false,none,0,0⟩ 0:=⟨[],Mag.nil w S,.inl rfl,by simp,by decide,rfl⟩
theorem IsI.lt {w:World} {S:Nat→Prop} {x:WI} {z:Int} (h:IsI w S x z):z.natAbs<Lim:=by
 obtain⟨l,h1,h2,h3,h4,h5⟩:=h;rw [← h5];exact Lim_lt h1.wd h3
theorem Heap.magOut2 {w0 w:World} {H:List Chunk} {b b2:Nat} {l l2:List Nat} {T T2:TypeId} (S:Nat→Prop) (j j2:Nat) (h:Heap w0 w (.frz (Old w0) w0::H)) (hj:H[j]? = some (.blk b (.cells (wv l).toArray T (0,0)))) (hj2:H[j2]? = some (.blk b2 (.cells (wv l2).toArray T2 (0,0)))) (hw:Wd l) (hw2:Wd l2) (hn:l.length≤maxLen) (hn2:l2.length≤maxLen) :
 Pure w0 S w (fun k=>S k∨(k=b∨k=b2))∧Mag w (fun k=>S k∨(k=b∨k=b2)) (.slice (some ⟨b,0,none⟩) l.length l.length) l∧Mag w (fun k=>S k∨(k=b∨k=b2)) (.slice (some ⟨b2,0,none⟩) l2.length l2.length) l2:=by
 obtain⟨p1,m1⟩:=h.magOut S j hj hw hn;obtain⟨p2,m2⟩:=h.magOut S j2 hj2 hw2 hn2;refine⟨⟨p1.below,p1.drawn,fun k hk=>.inl hk,fun k hk=>?_⟩,m1.weaken fun k hk=>?_,m2.weaken fun k hk=>?_⟩
 ·rcases hk with hk|hk|hk
  ·exact .inl hk
  ·exact p1.new k (.inr hk)
  ·exact p2.new k (.inr hk)
 ·rcases hk with hk|hk
  ·exact .inl hk
  ·exact .inr (.inl hk)
 ·rcases hk with hk|hk
  ·exact .inl hk
  ·exact .inr (.inr hk)
section
variable {P:Program} {ops:Array Oper} {Q:Exit→Act→World→Prop} {rest:List Oper} {a:Act} {w w0 wr:World} {H:List Chunk} {S:Nat→Prop} {dst:Option Tmp} {ty T E Tb:TypeId} {pos:String} {aft:Array Edge} {g:Option (Nat × Bool)} {x y ix:Operand} {b:Nat} {l:List Nat} {K:Act→Prop}
theorem any_index_mag {i:Int} {ad:Option Addr} {n cap:Nat} (hu:P.underlying T=some (.slice E)) (hz:∀ w,(sizeOf E).run P w=.ok 1 w) (hx:a.eval x=.slice ad n cap) (hi:a.eval ix=.int .i64 i) (hv:Mag wr S (.slice ad n cap) l) (hlo:0≤i) (hhi:i<n)
 (hk:∀ b off,CellsAt wr S ⟨b,off,none⟩ [.int .u32 ((nth 0 l i.toNat:Nat):Int)]→K (a.put dst (.pointer (some ⟨b,off,none⟩)))):StpAny P ⟨dst,.indexAddr T x ix,ty,pos,aft,g⟩ a K:=by
 have hn:=hv.len;subst hn;exact any_index hu hz hx hi hv.sl hlo (by omega) (by omega) fun b off hc=>hk b off (by rw [Nat.mul_one,wv_cell (by omega)] at hc;exact hc)
theorem stp_load_word {i:Nat} (j:Nat) (hna:∀ w,(isAgg T).run P w=.ok false w) (hx:a.eval x=.pointer (some ⟨b,i,none⟩)) (hj:H[j]? = some (Chunk.blk b (.cells (wv l).toArray Tb (0,0)))) (hi:i<l.length)
 (hk:K (a.put dst (.int .u32 ((nth 0 l i:Nat):Int)))):Stp P w0 H ⟨dst,.load T x,ty,pos,aft,g⟩ a K :=
 stp_load_blk j hna hx hj (by simp [wv_at hi]) hk
theorem seq_store_word {i v:Nat} {u:Int} (j:Nat) (hS:Heap w0 w H) (hx:a.eval x=.pointer (some ⟨b,i,none⟩)) (hy:a.eval y=.int .u32 u) (hu:u=(v:Int)) (hj:H[j]? = some (.blk b (.cells (wv l).toArray Tb (0,0)))) (hi:i<l.length) (hsz:∀ w,(sizeOf T).run P w=.ok 1 w)
 (hk:∀ w',Heap w0 w' (H.set j (.blk b (.cells (wv (l.set i v)).toArray Tb (0,0))))→wpList P ops Q rest (a.put dst undef) w'):wpList P ops Q (⟨dst,.store T x y,ty,pos,aft,none⟩::rest) a w:=by
 subst hu;refine seq_store (T:=T) (u:=.int .u32 (v:Int)) j hS hx hy hj hsz (by simp [Value.cells,Value.oneCell']) (by simp [Value.cells,wv_length];omega) (fun w' hS'=>hk w' ?_)
 have e:((wv l).toArray.toList.take i++(Value.int .u32 (v:Int)).cells.toList++(wv l).toArray.toList.drop (i+(Value.int .u32 (v:Int)).cells.size))=wv (l.set i v):=by
  rw [← wv_set,List.set_eq_take_append_cons_drop,if_pos (by rw [wv_length];exact hi)];simp [Value.cells]
 rw [e] at hS';exact hS'
theorem seq_make_words {n:Nat} {xv:Int} (hS:Heap w0 w H) (hu:P.underlying T=some (.slice E)) (hinfo:(P.info? E).map (fun i=>(i.zero,i.size,i.bytes))=some (some (.int .u32 0),1,4))
 (hx:a.eval x=.int .i64 xv) (hy:a.eval y=.int .i64 xv) (hxn:xv=(n:Int)) (hn:n≤65536)
 (hk:∀ b w',Heap w0 w' (H++[.blk b (.cells (wv (List.replicate n 0)).toArray E (0,0))])→wpList P ops Q rest (a.put dst (.slice (some ⟨b,0,none⟩) n n)) w') :
 wpList P ops Q (⟨dst,.makeSlice T x y,ty,pos,aft,none⟩::rest) a w:=by
 subst hxn;obtain⟨i,hi,hz,hsz,hby⟩:=info_parts hinfo;have hr:=run_make (P:=P) w T E i _ hu hi hz .i64 .i64 n n (by omega) (by omega) (by rw [hby];omega) (by omega)
 have hc:madeCells (Value.int .u32 0).cells ((n:Int).toNat*i.size)=(wv (List.replicate n 0)).toArray:=by
  rw [hsz,Int.toNat_natCast,Nat.mul_one];apply Array.ext
  ·simp [madeCells,wv]
  ·intro j h1 h2
   simp [madeCells,wv,Value.cells,Nat.mod_one]
 rw [hc,Int.toNat_natCast] at hr;refine seq_heap (w':=w.alloc (.cells (wv (List.replicate n 0)).toArray E (0,0))) (v:=.slice (some ⟨w.heap.size,0,none⟩) n n) rfl ?_ (hk _ _ (hS.alloc _));simp only [execOp,hx,hy];simp [hr,go_sem]
theorem g_slice {lo hi mx:Option Operand} (h:wpList P ops Q (⟨dst,.slice T x lo hi mx,ty,pos,aft,g⟩::rest) a w):wpList P ops Q (⟨dst,.slice T x lo hi mx,ty,pos,aft,g⟩::rest) a w:=h
theorem any_slice_hi {hi:Operand} {ad:Option Addr} {off n c k:Nat} {kv:Int} (hu:P.underlying T=some (.slice E)) (hz:∀ w,(sizeOf E).run P w=.ok 1 w) (hx:a.eval x=.slice (some ⟨b,off,none⟩) n c) (hh:a.eval hi=.int .i64 kv) (hkv:kv=(k:Int)) (hkc:k≤c)
 (hk:K (a.put dst (.slice (some ⟨b,off,none⟩) k c))):StpAny P ⟨dst,.slice T x none (some hi) none,ty,pos,aft,g⟩ a K:=by
 subst hkv;refine⟨⟨_,fun w'=>?_,hk⟩⟩;generalize a.eval=ρ at hx hh
 have hb:(Instr.sliceBound (.int .i64 (k:Int)) c .sliceAcap).run P w'=.ok k w':=by
  simp [Instr.sliceBound,asIntOf,go_sem,hkc]
 simp [execOp,hx,hh,Instr.sliceAt,Instr.slice,Instr.sliceBounds,go_sem,run_underlying hu,hb,hz]
theorem any_slice_lh {lo hi:Operand} {ad:Option Addr} {off n c j k:Nat} {jv kv:Int} (hu:P.underlying T=some (.slice E)) (hz:∀ w,(sizeOf E).run P w=.ok 1 w) (hx:a.eval x=.slice (some ⟨b,off,none⟩) n c) (hl:a.eval lo=.int .i64 jv) (hh:a.eval hi=.int .i64 kv) (hjv:jv=(j:Int)) (hkv:kv=(k:Int)) (hkc:k≤c) (hjk:j<k)
 (hk:K (a.put dst (.slice (some ⟨b,off+j,none⟩) (k - j) (c - j)))):StpAny P ⟨dst,.slice T x (some lo) (some hi) none,ty,pos,aft,g⟩ a K:=by
 subst hkv hjv;refine⟨⟨_,fun w'=>?_,hk⟩⟩;generalize a.eval=ρ at hx hh hl
 have hb:(Instr.sliceBound (.int .i64 (k:Int)) c .sliceAcap).run P w'=.ok k w':=by
  simp [Instr.sliceBound,asIntOf,go_sem,hkc]
 have hb2:(Instr.sliceBound (.int .i64 (j:Int)) k .sliceB).run P w'=.ok j w':=by
  simp [Instr.sliceBound,asIntOf,go_sem,show j≤k by omega]
 simp [execOp,hx,hh,hl,Instr.sliceAt,Instr.slice,Instr.sliceBounds,go_sem,run_underlying hu,hb,hb2,hz,show ¬ c=j by omega];intro h;omega
theorem g_copy {args:Array Operand} {ts:Array TypeId} (h:wpList P ops Q (⟨dst,.call ⟨.builtin .copy,args,ts⟩,ty,pos,aft,g⟩::rest) a w):wpList P ops Q (⟨dst,.call ⟨.builtin .copy,args,ts⟩,ty,pos,aft,g⟩::rest) a w:=h
theorem seq_copy_words {sT:TypeId} {m:List Nat} {sv:Value} {n c:Nat} (j:Nat) (hS:Heap w0 w H) (hu:P.underlying T=some (.slice E)) (hs:(P.info? E).map (·.size)=some 1) (hx:a.eval x=.slice (some ⟨b,0,none⟩) n c) (hy:a.eval y=sv) (hm:Mag w S sv m) (hj:H[j]? = some (.blk b (.cells (wv l).toArray Tb (0,0)))) (hn:n=l.length) (hl:m.length=l.length)
 (hk:∀ w',Heap w0 w' (H.set j (.blk b (.cells (wv m).toArray Tb (0,0))))→wpList P ops Q rest (a.put dst (.int .i64 (m.length:Nat))) w'):wpList P ops Q (⟨dst,.call ⟨.builtin .copy,#[x,y],#[T,sT]⟩,ty,pos,aft,none⟩::rest) a w:=by
 obtain⟨⟨h1,ad,cap,rfl,h3,h4,h5,h6⟩,h7⟩:=hm;have hb:=hS.blk (List.mem_of_getElem? hj);subst hn;cases ad with
 | none =>
  have h0:=(h5 rfl).1;have hm0:m=[]:=List.length_eq_zero_iff.1 h0;subst hm0;have hl0:l=[]:=List.length_eq_zero_iff.1 hl.symm;subst hl0;have hr:=run_copy_none (P:=P) w T sT ty E (some ⟨b,0,none⟩) none 0 c 0 cap hu hs rfl
  refine seq_heap (w':=w) (v:=.int .i64 0) rfl ?_ (hk w (by
   have:H.set j (Chunk.blk b (.cells (wv []).toArray Tb (0,0)))=H:=by
    obtain⟨h1,h2⟩:=List.getElem?_eq_some_iff.1 hj;apply List.ext_getElem (by simp);intro i h3 h4;rw [List.getElem_set]
    split
    ·rename_i e;subst e;exact h2.symm
    ·rfl
   rw [this];exact hS))
  simp only [List.length_nil] at hx;generalize a.eval=ρ at hx hy;simp [execOp,resolve,invoke,builtin,hx,hy,hr,go_sem,goInt]
 | some ad =>
  have hc:=h6 ad rfl
  have hcells:∀ j v,(wv m)[j]? = some v→w.cell? (ad.add j)=some v:=fun j v hv=>by
   obtain⟨bx,ox,sx⟩:=ad;have hsx:sx=none:=hc.spot (by intro e;rw [e] at hv;simp at hv);subst hsx;rw [eval_addr];exact hc.cell j v hv
  have hr:=run_copy_row P w T sT ty E b 0 l.length c ad m.length cap (wv l).toArray Tb (wv m) hu hs hb (by rw [wv_length,hl];exact (Nat.min_self _).symm) hcells (by simp [wv_length,hl]) (wv_one m)
  have e:((wv l).toArray.toList.take 0++wv m++(wv l).toArray.toList.drop (0+(wv m).length))=wv m:=by
   simp [wv_length,hl,List.drop_of_length_le]
  rw [e] at hr;have hlt:b<w.heap.size:=(Array.getElem?_eq_some_iff.1 hb).1;refine seq_heap (w':=w.setRow b (wv m).toArray) (v:=.int .i64 (m.length:Nat)) rfl ?_ (hk _ (hS.write (o':=.cells (wv m).toArray Tb (0,0)) j hj rfl rfl rfl (Nat.le_refl _) (by simp [World.setRow]) (setRow_heap w b _ _ _ _ hb) (fun k _ hkb=>by simp [World.setRow,Array.getElem?_modify,Ne.symm hkb])));generalize a.eval=ρ at hx hy;simp [execOp,resolve,invoke,builtin,hx,hy,hr,go_sem,goInt,wv_length]
theorem g_mks' (h:wpList P ops Q (⟨dst,.makeSlice T x y,ty,pos,aft,g⟩::rest) a w):wpList P ops Q (⟨dst,.makeSlice T x y,ty,pos,aft,g⟩::rest) a w:=h
end
section
variable {fn:Func} {p p2 t:Tmp} {T T2:TypeId} {P:Program} {w0 w:World} {H:List Chunk} {b b2 k k2:Nat} {arr arr2:Array Value} {Tb Tb2:TypeId} {fr fr2:Nat × Nat} {R:Ending→World→Prop} {a:Act}
theorem ret_c (j:Nat) (hS:Heap w0 w H) (hr:fn.results=#[.cell p T]) (hp:a.tmps.getD p undef=.pointer (some ⟨b,0,none⟩)) (hj:H[j]? = some (Chunk.blk b (.cells arr Tb fr))) (hag:∀ w,(isAgg T).run P w=.ok true w) (hz:∀ w,(sizeOf T).run P w=.ok k w) (hsz:arr.size=k) (hd:a.defers=[])
 (h:R (.returned (.agg arr)) w):bodyPost P fn R .ret a w:=by
 refine bodyPost_ret (v:=.agg arr) ?_ hd h;have h1:=run_loadVar_blk (P:=P) j hS hj hag hz hsz;have hp':a.tmps[p]?.getD undef=.pointer (some ⟨b,0,none⟩):=by simpa using hp
 simp [results,hr,hp',asAddr,h1]
theorem ret_ct (j:Nat) (hS:Heap w0 w H) (hr:fn.results=#[.cell p T,.tmp t]) (hp:a.tmps.getD p undef=.pointer (some ⟨b,0,none⟩)) (hj:H[j]? = some (Chunk.blk b (.cells arr Tb fr))) (hag:∀ w,(isAgg T).run P w=.ok true w) (hz:∀ w,(sizeOf T).run P w=.ok k w) (hsz:arr.size=k) (hd:a.defers=[])
 (h:R (.returned (.tuple #[.agg arr,a.tmps.getD t undef])) w):bodyPost P fn R .ret a w:=by
 refine bodyPost_ret (v:=.tuple #[.agg arr,a.tmps.getD t undef]) ?_ hd h;have h1:=run_loadVar_blk (P:=P) j hS hj hag hz hsz;have hp':a.tmps[p]?.getD undef=.pointer (some ⟨b,0,none⟩):=by simpa using hp
 simp [results,hr,hp',asAddr,h1]
theorem ret_cct (j j2:Nat) (hS:Heap w0 w H) (hr:fn.results=#[.cell p T,.cell p2 T2,.tmp t]) (hp:a.tmps.getD p undef=.pointer (some ⟨b,0,none⟩)) (hp2:a.tmps.getD p2 undef=.pointer (some ⟨b2,0,none⟩))
 (hj:H[j]? = some (Chunk.blk b (.cells arr Tb fr))) (hj2:H[j2]? = some (Chunk.blk b2 (.cells arr2 Tb2 fr2))) (hag:∀ w,(isAgg T).run P w=.ok true w) (hz:∀ w,(sizeOf T).run P w=.ok k w) (hsz:arr.size=k) (hag2:∀ w,(isAgg T2).run P w=.ok true w) (hz2:∀ w,(sizeOf T2).run P w=.ok k2 w) (hsz2:arr2.size=k2) (hd:a.defers=[])
 (h:R (.returned (.tuple #[.agg arr,.agg arr2,a.tmps.getD t undef])) w):bodyPost P fn R .ret a w:=by
 refine bodyPost_ret (v:=.tuple #[.agg arr,.agg arr2,a.tmps.getD t undef]) ?_ hd h;have h1:=run_loadVar_blk (P:=P) j hS hj hag hz hsz;have h2:=run_loadVar_blk (P:=P) j2 hS hj2 hag2 hz2 hsz2;have hp':a.tmps[p]?.getD undef=.pointer (some ⟨b,0,none⟩):=by simpa using hp
 have hp2':a.tmps[p2]?.getD undef=.pointer (some ⟨b2,0,none⟩):=by simpa using hp2
 simp [results,hr,hp',hp2',asAddr,h1,h2]
end
theorem Heap.pcl {w0 w wr w':World} {H:List Chunk} {F S0 S S':Nat→Prop} (hS:Heap w0 w (.frz F wr::H)) (hF:∀ k,S k→F k) (hO:∀ k,Old w0 k→F k) (hp:Pure w0 S0 wr S) (hq:Pure w S w' S'):∃ F',(∀ k,S' k→F' k)∧(∀ k,F k→F' k)∧Pure w0 S0 w' S'∧(∀ k,Old w0 k→F' k)∧Heap w0 w' (.frz F' w'::H) :=
 let ⟨F',h1,h2,h3⟩:=hS.pcall hF hq
 ⟨F',h1,h2,(hp.step hS hO hF).trans hq,fun k h=>h2 k (hO k h),h3⟩
end Go.Hp
namespace Go.Hp
open Go.Proofs.Tryz
open Go Go.RowKit
def bv (xs:List Int):List Value:=xs.map (Value.int .u8)
theorem bv_length (xs:List Int):(bv xs).length=xs.length:=by simp [bv]
theorem bv_append (xs ys:List Int):bv (xs++ys)=bv xs++bv ys:=by simp [bv]
def encU:Nat→Nat→List Int
 | 0,n=>[(n:Int) % 256]
 | f+1,n=>if 128≤n then bits .or .u8 ((n:Int) % 256) 128::encU f (n / 128) else [(n:Int) % 256]
def zz (n:Int):Nat:=(bits .xor .u64 (IntKind.u64.wrap (IntKind.u64.wrap n*2)) (IntKind.u64.wrap (n / 9223372036854775808))).toNat
theorem bits_u64 (o:BinOp) (a b:Int):0≤bits o .u64 a b∧bits o .u64 a b<18446744073709551616:=by
 unfold bits;rw [IntKind.wrap_u64];omega
theorem zz_lt (n:Int):zz n<18446744073709551616:=by have:=bits_u64 .xor (IntKind.u64.wrap (IntKind.u64.wrap n*2)) (IntKind.u64.wrap (n / 9223372036854775808));unfold zz;omega
def wencI (n:Int):List Int:=encU 9 (zz n)
theorem encU_len:∀ f n,(encU f n).length≤f+1
 | 0,n=>by simp [encU]
 | f+1,n=>by
  have:=encU_len f (n / 128);unfold encU;split <;> simp <;> omega
def encTo (ls:List Int) (i:Nat):List Int:=encU 9 ls.length++(ls.take i).flatMap wencI
def encIs (ls:List Int):List Int:=encTo ls ls.length
theorem encTo_succ {ls:List Int} {i:Nat} (hi:i<ls.length):encTo ls (i+1)=encTo ls i++wencI (nth 0 ls i):=by
 simp [encTo,take_snoc 0 ls i hi]
theorem encTo_len {ls:List Int}:∀ i,i≤ls.length→(encTo ls i).length≤10*(i+1)
 | 0,_=>by have:=encU_len 9 ls.length;simp [encTo];omega
 | i+1,h=>by
  have h1:=encTo_len (ls:=ls) i (by omega);have h2:(wencI (nth 0 ls i)).length≤10:=encU_len 9 _;rw [encTo_succ (by omega),List.length_append];omega
end Go.Hp
namespace Go.Proofs
open Go.Proofs.Tryz
open Go.RowKit Go.Hp
theorem infoB:(Tryz.prog.info? 5).map (fun i=>(i.zero,i.size,i.bytes))=some (some (.int .u8 0),1,1):=by kernel_rfl
theorem wuint_any {w0 w:World} {H:List Chunk} (bw c:Nat) (ad:Option Addr) (xs:List Int) (n f:Nat) (hn:n<128 ^ (f+1)) (hf:f≤9) (hx:xs.length≤1000000000000) (hS:Heap w0 w (.blk bw (.cells #[.slice ad xs.length c] 167 (0,0))::.row (.slice ad xs.length c) 5 1 xs.length (bv xs)::H)) :
 Calls Tryz.prog 133 #[.pointer (some ⟨bw,0,none⟩),.int .u64 (n:Int)] w fun e w'=>e=.returned (.tuple #[])∧∃ (ad':Option Addr) (c':Nat),Heap w0 w' (.blk bw (.cells #[.slice ad' (xs++encU f n).length c'] 167 (0,0))::.row (.slice ad' (xs++encU f n).length c') 5 1 (xs++encU f n).length (bv (xs++encU f n))::H):=by
 go_enter func133,ntmps133
 go_wp2
 go_loopw [1] (fun v1 wr=>∃ (g k c2:Nat) (ad2:Option Addr) (ys:List Int),v1=.int .u64 (k:Int)∧k<128 ^ (g+1)∧g≤f∧ys.length≤1000000000000+(f - g)∧ys++encU g k=xs++encU f n∧Heap w0 wr (.blk bw (.cells #[.slice ad2 ys.length c2] 167 (0,0))::.row (.slice ad2 ys.length c2) 5 1 ys.length (bv ys)::H)) (fun v1 _=>(intOf v1).toNat)
 case atStart=>exact⟨f,n,c,ad,xs,rfl,hn,by omega,by omega,rfl,hS⟩
 case round =>
  clear hS;obtain⟨g,k,c2,ad2,ys,rfl,hk,hg,hy,he,hS⟩:=hrel
  by_cases h1:128≤k
  ·have d1:decide ((128:Int)≤(k:Int))=true:=by simp;omega
   obtain⟨g',rfl⟩:∃ g',g=g'+1:=⟨g - 1,by
    rcases Nat.eq_zero_or_pos g with h|h
    ·subst h;omega
    ·omega⟩
   have he2:(ys++[bits .or .u8 ((k:Int) % 256) 128])++encU g' (k / 128)=xs++encU f n:=by rw [← he];simp [encU,h1]
   have hk2:k / 128<128 ^ (g'+1):=by rw [Nat.pow_succ] at hk;exact (Nat.div_lt_iff_lt_mul (by decide)).2 hk
   have hl:(ys++[bits .or .u8 ((k:Int) % 256) 128]).length=ys.length+1:=by simp
   have hb:bv (ys++[bits .or .u8 ((k:Int) % 256) 128])=bv ys++[.int .u8 (bits .or .u8 ((k:Int) % 256) 128)]:=by simp [bv]
   replace he2:=Hd he2;replace hk2:=Hd hk2;replace hl:=Hd hl;replace hb:=Hd hb;clear hk he
   go_wp2_with (first|(with_reducible refine ldB 0 hS isAgg97 ?_)|((with_reducible refine g_bs (T:=97) ?_);refine seq_bs1 (T:=97) (v:=.int .u8 _) hS underlying97 sizeOf5 zeroValue5 rfl rfl rfl (by decide) (by decide) rfl (fun bq wbq hS=>?_);simp only [NRM];simp only [Value.cells] at hS)|((with_reducible refine g_app ?_);refine seq_append_lit (t:=97) 1 hS underlying97 infoB rfl (by decide) rfl rfl rfl rfl (by simp [Value.oneCell']) (by omega) (by unfold maxLen;omega) (fun ad3 c3 _ hS=>?_);simp only [NRM];simp only [NRH] at hS)|(with_reducible refine stA 0 hS sizeOf97 fun _ hS=>?_))
   go_roundw
   case rel=>exact⟨g',k / 128,c3,ad3,_,by simp,hk2.out,by omega,by rw [hl.out];omega,he2.out,by rw [hl.out,hb.out];exact hS.sb⟩
   case measure=>simp [intOf];omega
  ·have d1:decide ((128:Int)≤(k:Int))=false:=by simp;omega
   have h2:(k:Int) % 256=k:=by omega
   have he2:ys++[(k:Int)]=xs++encU f n:=by rw [← he];cases g <;> simp [encU,h1,h2]
   clear h2;have hl:(xs++encU f n).length=ys.length+1:=by rw [← he2];simp
   have hb:bv (xs++encU f n)=bv ys++[.int .u8 (k:Int)]:=by rw [← he2];simp [bv]
   replace hl:=Hd hl;replace hb:=Hd hb;clear hk he he2
   go_wp2_with (first|(with_reducible refine ldB 0 hS isAgg97 ?_)|((with_reducible refine g_bs (T:=97) ?_);refine seq_bs1 (T:=97) (v:=.int .u8 _) hS underlying97 sizeOf5 zeroValue5 rfl rfl rfl (by decide) (by decide) rfl (fun bq wbq hS=>?_);simp only [NRM];simp only [Value.cells] at hS)|((with_reducible refine g_app ?_);refine seq_append_lit (t:=97) 1 hS underlying97 infoB rfl (by decide) rfl rfl rfl rfl (by simp [Value.oneCell']) (by omega) (by unfold maxLen;omega) (fun ad3 c3 _ hS=>?_);simp only [NRM];simp only [NRH] at hS)|(with_reducible refine stA 0 hS sizeOf97 fun _ hS=>?_))
   exact bodyPost_end (results_none rfl _ _ _) rfl ⟨rfl,ad3,c3,by rw [hl.out,hb.out];exact hS.sb⟩
theorem zigzag_any (n:Int) (hn:InI n) (w:World) :
 Calls Tryz.prog 134 #[.int .i64 n] w fun e w'=>e=.returned (.int .u64 (zz n:Int))∧w'=w:=by
 go_enter func134,ntmps134
 go_wp2;go_ret;exact⟨by rw [zz,Int.toNat_of_nonneg (bits_u64 _ _ _).1];rfl,rfl⟩
theorem wint_any {w0 w:World} {H:List Chunk} (bw c:Nat) (ad:Option Addr) (xs:List Int) (n:Int) (hn:InI n) (hx:xs.length≤1000000000000) (hS:Heap w0 w (.blk bw (.cells #[.slice ad xs.length c] 167 (0,0))::.row (.slice ad xs.length c) 5 1 xs.length (bv xs)::H)) :
 Calls Tryz.prog 88 #[.pointer (some ⟨bw,0,none⟩),.int .i64 n] w fun e w'=>e=.returned (.tuple #[])∧∃ (ad':Option Addr) (c':Nat),Heap w0 w' (.blk bw (.cells #[.slice ad' (xs++wencI n).length c'] 167 (0,0))::.row (.slice ad' (xs++wencI n).length c') 5 1 (xs++wencI n).length (bv (xs++wencI n))::H):=by
 go_enter func88,ntmps88
 go_wp2_with (fail)
 refine (zigzag_any n hn _).mono ?_;rintro e w' ⟨rfl,rfl⟩;simp only []
 go_wp2_with (fail)
 refine (wuint_any bw c ad xs (zz n) 9 (Nat.lt_of_lt_of_le (zz_lt n) (by decide)) (by decide) hx hS).mono ?_;rintro e w' ⟨rfl,h⟩;simp only [];go_wp2;exact bodyPost_end (results_none rfl _ _ _) rfl ⟨rfl,h⟩
theorem wints_any {w0 w wr:World} {S:Nat→Prop} {H:List Chunk} (bw c nl cl:Nat) (ad al:Option Addr) (xs ls:List Int) (hl:Ints wr S (.slice al nl cl) ls) (hm:Chunk.frz S wr ∈ H) (hx:xs.length+10*(ls.length+1)≤1000000000000) (hS:Heap w0 w (.blk bw (.cells #[.slice ad xs.length c] 167 (0,0))::.row (.slice ad xs.length c) 5 1 xs.length (bv xs)::H)) :
 Calls Tryz.prog 87 #[.pointer (some ⟨bw,0,none⟩),.slice al nl cl] w fun e w'=>e=.returned (.tuple #[])∧∃ (ad':Option Addr) (c':Nat),Heap w0 w' (.blk bw (.cells #[.slice ad' (xs++encIs ls).length c'] 167 (0,0))::.row (.slice ad' (xs++encIs ls).length c') 5 1 (xs++encIs ls).length (bv (xs++encIs ls))::H):=by
 have hn:=hl.len;subst hn;have hin:=hl.2;have he0:encU 9 ls.length=encTo ls 0:=by simp [encTo]
 have hfr:Chunk.frz S wr ∈ (.blk bw (.cells #[.slice ad xs.length c] 167 (0,0))::.row (.slice ad xs.length c) 5 1 xs.length (bv xs)::H):=List.mem_cons_of_mem _ (List.mem_cons_of_mem _ hm)
 go_enter func87,ntmps87
 go_wp2_with (fail)
 refine (wuint_any bw c ad xs ls.length 9 (by omega) (by decide) (by omega) hS).mono ?_;rintro e w' ⟨rfl,ad1,c1,h1⟩;simp only [];clear hS;rw [he0] at h1;replace hin:=Hd hin;replace he0:=Hd he0;go_wp2
 try try simp only [NRG]
 go_loopw [13] (fun v13 wx=>∃ (i:Nat) (ad2:Option Addr) (c2:Nat),i≤ls.length∧v13=.int .i64 (i:Int)∧Heap w0 wx (.blk bw (.cells #[.slice ad2 (xs++encTo ls i).length c2] 167 (0,0))::.row (.slice ad2 (xs++encTo ls i).length c2) 5 1 (xs++encTo ls i).length (bv (xs++encTo ls i))::H)) (fun v13 _=>ls.length - (intOf v13).toNat)
 case atStart=>exact⟨0,ad1,c1,by omega,rfl,h1⟩
 case round =>
  clear h1;obtain⟨i,ad2,c2,hi,rfl,hS⟩:=hrel
  by_cases hil:i<ls.length
  ·have hsu:=encTo_succ hil
   have hle:=encTo_len (ls:=ls) i (by omega);have hii:=hin.out _ (nth_mem 0 ls i hil);obtain⟨x,hxe⟩:∃ x,nth 0 ls i=x:=⟨_,rfl⟩;rw [hxe] at hii hsu;have hc:=fun w' h=>wint_any (H:=H) (w0:=w0) (w:=w') bw c2 ad2 (xs++encTo ls i) x hii (by rw [List.length_append];omega) h
   rw [List.append_assoc,← hsu] at hc;replace hsu:=Hd hsu;replace hii:=Hd hii
   go_wp2_with (with_reducible first|refine ixI underlying22 sizeOf3 fun _ _ _=>?_|refine ld0 hS isAgg3 ?_ (hm:=List.mem_cons_of_mem _ (List.mem_cons_of_mem _ hm)))
   refine (hc _ hS).mono ?_;rintro e w' ⟨rfl,ad3,c3,hS⟩;simp only [];go_wp2;go_roundw
   case rel=>exact⟨i+1,ad3,c3,by omega,by simp,hS⟩
   case measure=>simp [intOf];omega
  ·obtain rfl:ls.length=i:=by omega
   go_wp2;exact bodyPost_end (results_none rfl _ _ _) rfl ⟨rfl,ad2,c2,hS⟩
end Go.Proofs
