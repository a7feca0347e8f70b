/- Texts for the walk of the law: K2 FP. -/
import Derived.Laws.CopyRow
import Derived.Laws.IdiomCopy
import Derived.Test.YtjeofihncbegfaaGreatRows
import Derived.Test.YtjeofihncbegfaaGreatQ03
import Derived.Test.YtjeofihncbegfaaGreatQ04
import Derived.Test.YtjeofihncbegfaaGreatQ02
set_option maxRecDepth 100000
set_option maxHeartbeats 16000000
set_option linter.unusedVariables false
set_option linter.unusedSimpArgs false
namespace Go.Hp
open Go Go.RowKit
theorem wrapU64 {x:Nat} (h:x<18446744073709551616):IntKind.u64.wrap (x:Int)=(x:Int):=by rw [IntKind.wrap_u64];omega
def wv (l:List Nat):List Value:=l.map (fun n=>Value.int .u32 ((n:Nat):Int))
theorem wv_length (l:List Nat):(wv l).length=l.length:=by simp [wv]
theorem wv_at {l:List Nat} {i:Nat} (h:i<l.length):(wv l)[i]? = some (.int .u32 ((nth 0 l i:Nat):Int)):=by
 rw [nth_eq 0 l i h];simp [wv,h]
theorem wv_take (l:List Nat) (i:Nat):(wv l).take i=wv (l.take i):=by simp [wv,List.map_take]
theorem wv_set (l:List Nat) (i x:Nat):(wv l).set i (.int .u32 (x:Int))=wv (l.set i x):=by simp [wv]
theorem wv_one (l:List Nat):∀ u ∈ wv l,u.oneCell'=true:=by
 intro u hu;obtain⟨n,_,rfl⟩:=List.mem_map.1 hu
 rfl
theorem wv_cell {l:List Nat} {i:Nat} (h:i<l.length):((wv l).drop i).take 1=[.int .u32 ((nth 0 l i:Nat):Int)]:=by
 apply List.ext_getElem?;intro j;rw [List.getElem?_take,List.getElem?_drop];cases j with
 | zero=>simp [wv_at h]
 | succ j=>simp
theorem nth_take {α:Type} (d:α) (l:List α) {k i:Nat} (h:i<k):nth d (l.take k) i=nth d l i:=by
 unfold nth;simp [List.getD_eq_getElem?_getD,List.getElem?_take,h]
structure Mag (w:World) (S:Nat→Prop) (v:Value) (l:List Nat):Prop where
 sl:SlC w S 1 v l.length (wv l)
 wd:Wd l
structure Pure (w:World) (S:Nat→Prop) (w':World) (S':Nat→Prop):Prop where
 below:Below w.heap.size w w'
 drawn:w.drawn≤w'.drawn
 sub:∀ k,S k→S' k
 new:∀ k,S' k→S k∨New w w' k
theorem Pure.refl (w:World) (S:Nat→Prop):Pure w S w S:=⟨Below.refl _ _,Nat.le_refl _,fun _ h=>h,fun _ h=>.inl h⟩
theorem New.trans1 {w w' w'':World} (h:Below w'.heap.size w' w'') {k:Nat} (hk:Go.Hp.New w w' k):Go.Hp.New w w'' k:=⟨hk.1,Nat.lt_of_lt_of_le hk.2 h.size⟩
theorem Pure.trans {w w' w'':World} {S S' S'':Nat→Prop} (h:Pure w S w' S') (h':Pure w' S' w'' S''):Pure w S w'' S'' :=
 ⟨h.below.trans (h'.below.mono h.below.size),Nat.le_trans h.drawn h'.drawn,fun k hk=>h'.sub k (h.sub k hk),fun k hk=>by
  rcases h'.new k hk with h1|h1
  ·rcases h.new k h1 with h2|h2
   ·exact .inl h2
   ·exact .inr (New.trans1 h'.below h2)
  ·exact .inr ⟨Nat.le_trans h.below.size h1.1,h1.2⟩⟩
theorem SlC.grow {w w':World} {S S':Nat→Prop} {k n:Nat} {v:Value} {cs:List Value} (h:SlC w S k v n cs) (hp:Pure w S w' S'):SlC w' S' k v n cs:=(h.below hp.below).weaken hp.sub
theorem Mag.grow {w w':World} {S S':Nat→Prop} {v:Value} {l:List Nat} (h:Mag w S v l) (hp:Pure w S w' S'):Mag w' S' v l:=⟨h.sl.grow hp,h.wd⟩
theorem Mag.len {w:World} {S:Nat→Prop} {ad:Option Addr} {n c:Nat} {l:List Nat} (h:Mag w S (.slice ad n c) l):n=l.length:=by
 obtain⟨h1,a,cap,h2,_⟩:=h.sl;cases h2;rfl
theorem Mag.cap {w:World} {S:Nat→Prop} {ad:Option Addr} {n c:Nat} {l:List Nat} (h:Mag w S (.slice ad n c) l):n≤c∧c≤9223372036854775807:=by
 obtain⟨h1,a,cap,h2,h3,h4,_⟩:=h.sl;cases h2;simp only [maxLen] at h4;omega
theorem Mag.cut {w:World} {S:Nat→Prop} {ad:Option Addr} {n c:Nat} {l:List Nat} (h:Mag w S (.slice ad n c) l) {k:Nat} (hk:k≤l.length):Mag w S (.slice ad k c) (l.take k):=by
 obtain⟨⟨h1,a,cap,h2,h3,h4,h5,h6⟩,hw⟩:=h;cases h2;refine⟨⟨by rw [wv_length,Nat.mul_one],ad,c,by rw [List.length_take,Nat.min_eq_left hk],by rw [List.length_take];omega,h4,fun e=>⟨?_,(h5 e).2⟩,fun a e=>?_⟩,hw.take k⟩
 ·have:=(h5 e).1;rw [List.length_take];omega
 ·obtain⟨g1,g2,g3⟩:=h6 a e
  rw [← wv_take];refine⟨fun hne=>g1 (fun e=>hne (by rw [e];exact List.take_nil)),fun hne=>g2 (fun e=>hne (by rw [e];exact List.take_nil)),fun j u hu=>g3 j u ?_⟩;rw [List.getElem?_take] at hu
  split at hu
  ·exact hu
  ·cases hu
theorem Mag.nil (w:World) (S:Nat→Prop):Mag w S (.slice none 0 0) []:=⟨SlC.nil w S 1,by intro x hx;cases hx⟩
theorem Mag.later {w0 w wr:World} {H:List Chunk} {S:Nat→Prop} {v:Value} {l:List Nat} (h:Mag wr S v l) (hS:Heap w0 w H) (hm:Chunk.frz S wr ∈ H):Mag w S v l:=⟨h.sl.later hS hm,h.wd⟩
theorem Mag.weaken {w:World} {S T:Nat→Prop} {v:Value} {l:List Nat} (h:Mag w S v l) (hST:∀ k,S k→T k):Mag w T v l:=⟨h.sl.weaken hST,h.wd⟩
theorem Mag.old {w:World} {S:Nat→Prop} {v:Value} {l:List Nat} (h:Mag w S v l):Mag w (Old w) v l:=⟨h.sl.old,h.wd⟩
theorem SlC.ofBlk {w0 w:World} {H:List Chunk} {b k n:Nat} {arr:Array Value} {T:TypeId} (hS:Heap w0 w H) (hm:Chunk.blk b (.cells arr T (0,0)) ∈ H) (hl:arr.size=n*k) (hn:n≤maxLen):SlC w (fun j=>j=b) k (.slice (some ⟨b,0,none⟩) n n) n arr.toList:=by
 refine⟨by simpa using hl,some ⟨b,0,none⟩,n,rfl,Nat.le_refl _,hn,(fun e=>by cases e),fun ad e=>?_⟩;cases e;refine⟨fun _=>rfl,fun _=>rfl,fun j u hu=>?_⟩;rw [Nat.zero_add,cell_of_row w b j arr T (0,0) (hS.blk hm)]
 simpa using hu
theorem Mag.blk {w0 w:World} {H:List Chunk} {b:Nat} {l:List Nat} {T:TypeId} (j:Nat) (h:Heap w0 w H) (hj:H[j]? = some (.blk b (.cells (wv l).toArray T (0,0)))) (hw:Wd l) (hn:l.length≤maxLen):Mag w (fun k=>k=b) (.slice (some ⟨b,0,none⟩) l.length l.length) l:=by
 have:=SlC.ofBlk (k:=1) h (List.mem_of_getElem? hj) (by simp [wv_length]) hn;exact⟨by simpa using this,hw⟩
theorem Heap.isNew {w0 w:World} {H:List Chunk} (h:Heap w0 w (.frz (Old w0) w0::H)) {c:Chunk} (hm:c ∈ H) {k:Nat} (hk:c.has k):Go.Hp.New w0 w k:=by
 refine⟨?_,Chunk.lt (h.ok c (by simp [hm])) hk⟩
 rcases Nat.lt_or_ge k w0.heap.size with hlt|hge
 ·exact absurd hk ((List.pairwise_cons.1 h.apart).1 c hm k hlt)
 ·exact hge
theorem filterMap_range {α:Type} (H:List α):(List.range H.length).filterMap (fun i=>H[i]?)=H:=by
 induction H with
 | nil=>rfl
 | cons x H ih =>
  rw [List.length_cons,List.range_succ_eq_map,List.filterMap_cons_some (by rfl:(x::H)[0]? = some x),List.filterMap_map]
  congr 1
theorem Heap.order {w0 w:World} {H:List Chunk} (h:Heap w0 w H) (is:List Nat) (hp:is.isPerm (List.range H.length)=true):Heap w0 w (is.filterMap (fun i=>H[i]?)):=by
 have h1:=(List.isPerm_iff.1 hp).filterMap (fun i=>H[i]?);rw [filterMap_range] at h1;exact h.perm h1
theorem Heap.import {w0 w w':World} {H B:List Chunk} (h:Heap w0 w H) (h':Heap w w' (.frz (Old w) w::B)):Heap w0 w' (H++B):=by
 have h0:Heap w0 w (H++[]):=by rw [List.append_nil];exact h
 refine Heap.unsplit (B:=[]) h0 ?_;have:Rest w []=Old w:=by funext k;simp [Rest,Old]
 rw [this];exact h'
theorem Heap.pure {w0 w:World} {H:List Chunk} (hS:Heap w0 w (.frz (Old w0) w0::H)) (S:Nat→Prop):Pure w0 S w S:=⟨hS.toBelow (by simp),hS.drawn,fun _ h=>h,fun _ h=>.inl h⟩
theorem Heap.magOut {w0 w:World} {H:List Chunk} {b:Nat} {l:List Nat} {T:TypeId} (S:Nat→Prop) (j:Nat) (h:Heap w0 w (.frz (Old w0) w0::H)) (hj:H[j]? = some (.blk b (.cells (wv l).toArray T (0,0)))) (hw:Wd l) (hn:l.length≤maxLen) :
 Pure w0 S w (fun k=>S k∨k=b)∧Mag w (fun k=>S k∨k=b) (.slice (some ⟨b,0,none⟩) l.length l.length) l:=by
 have hm:=List.mem_of_getElem? hj;refine⟨⟨h.toBelow (by simp),h.drawn,fun k hk=>.inl hk,fun k hk=>?_⟩,?_,hw⟩
 ·rcases hk with hk|rfl
  ·exact .inl hk
  ·exact .inr (h.isNew hm (c:=.blk k _) rfl)
 ·have:=SlC.ofBlk (k:=1) h (List.mem_cons_of_mem _ hm) (by simp [wv_length]) hn
  simp only at this;exact this.weaken fun k hk=>.inr hk
theorem Lim_ex:∃ n:Nat,n=WB ^ 512:=⟨_,rfl⟩
noncomputable def Lim:Nat:=Classical.choose Lim_ex
theorem Lim_eq:Lim=WB ^ 512:=Classical.choose_spec Lim_ex
theorem Lim_len {l:List Nat} (hn:Nm l) (h:val l<Lim):l.length≤512:=nm_len hn (by rw [← Lim_eq];exact h)
theorem Lim_lt {l:List Nat} (hw:Wd l) (h:l.length≤512):val l<Lim:=by
 obtain⟨e,he⟩:∃ e:Nat,e=512:=⟨_,rfl⟩;rw [Lim_eq,← he];rw [← he] at h;exact Nat.lt_of_lt_of_le (val_lt hw) (Nat.pow_le_pow_right WB_pos h)
structure WI where
 neg:Bool
 ad:Option Addr
 n:Nat
 cap:Nat
def IsI (w:World) (S:Nat→Prop) (x:WI) (z:Int):Prop :=
 ∃ l,Mag w S (.slice x.ad x.n x.cap) l∧Nm l∧l.length≤512∧x.neg=decide (z<0)∧val l=z.natAbs
theorem IsI.grow {w w':World} {S S':Nat→Prop} {x:WI} {z:Int} (h:IsI w S x z) (hp:Pure w S w' S'):IsI w' S' x z:=by
 obtain⟨l,h1,h2⟩:=h;exact⟨l,h1.grow hp,h2⟩
theorem IsI.later {w0 w wr:World} {H:List Chunk} {S:Nat→Prop} {x:WI} {z:Int} (h:IsI wr S x z) (hS:Heap w0 w H) (hm:Chunk.frz S wr ∈ H):IsI w S x z:=by
 obtain⟨l,h1,h2⟩:=h;exact⟨l,h1.later hS hm,h2⟩
theorem IsI.weaken {w:World} {S T:Nat→Prop} {x:WI} {z:Int} (h:IsI w S x z) (hST:∀ k,S k→T k):IsI w T x z:=by
 obtain⟨l,h1,h2⟩:=h;exact⟨l,h1.weaken hST,h2⟩
def Liv (w:World) (S:Nat→Prop):Prop:=∀ k,S k→k<w.heap.size
theorem Pure.liv {w w':World} {S S':Nat→Prop} (h:Pure w S w' S') (hL:Liv w S):Liv w' S':=fun k hk=>by
 rcases h.new k hk with h1|h1
 ·exact Nat.lt_of_lt_of_le (hL k h1) h.below.size
 ·exact h1.2
theorem st0 {w:World} {S:Nat→Prop} (hL:Liv w S):Heap w w [.frz (Old w) w]∧(∀ k,S k→Old w k)∧(∀ k,Old w k→Old w k)∧Pure w S w S:=⟨Heap.start w,hL,fun _ h=>h,Pure.refl w S⟩
theorem Heap.keep {w0 w wr:World} {H:List Chunk} {F S:Nat→Prop} (hS:Heap w0 w (.frz F wr::H)) (hF:∀ k,S k→F k):∀ k,S k→w.heap[k]? = wr.heap[k]?:=fun k hk=>(hS.ok (.frz F wr) (by simp) k (hF k hk)).2
theorem CellsAt.move {w wr:World} {S:Nat→Prop} {ad:Addr} {cs:List Value} (h:CellsAt wr S ad cs) (hk:∀ k,S k→w.heap[k]? = wr.heap[k]?):CellsAt w S ad cs :=
 ⟨h.spot,h.inS,fun j u hu=>by
  rw [World.cell?_of_block (w:=wr) (a:=⟨ad.block,ad.off+j,none⟩) (hk _ (h.inS (by intro e;subst e;simp at hu)))];exact h.cell j u hu⟩
theorem SlC.move {w wr:World} {S:Nat→Prop} {k n:Nat} {v:Value} {cs:List Value} (h:SlC wr S k v n cs) (hk:∀ k,S k→w.heap[k]? = wr.heap[k]?):SlC w S k v n cs:=by
 obtain⟨h1,a,cap,h2,h3,h4,h5,h6⟩:=h;exact⟨h1,a,cap,h2,h3,h4,h5,fun ad e=>(h6 ad e).move hk⟩
theorem Mag.move {w wr:World} {S:Nat→Prop} {v:Value} {l:List Nat} (h:Mag wr S v l) (hk:∀ k,S k→w.heap[k]? = wr.heap[k]?):Mag w S v l:=⟨h.sl.move hk,h.wd⟩
theorem IsI.move {w wr:World} {S:Nat→Prop} {x:WI} {z:Int} (h:IsI wr S x z) (hk:∀ k,S k→w.heap[k]? = wr.heap[k]?):IsI w S x z:=by
 obtain⟨l,h1,h2⟩:=h;exact⟨l,h1.move hk,h2⟩
theorem Mag.at {w0 w wr:World} {H:List Chunk} {F S:Nat→Prop} {v:Value} {l:List Nat} (h:Mag wr S v l) (hS:Heap w0 w (.frz F wr::H)) (hF:∀ k,S k→F k):Mag w S v l:=h.move (hS.keep hF)
theorem IsI.at {w0 w wr:World} {H:List Chunk} {F S:Nat→Prop} {x:WI} {z:Int} (h:IsI wr S x z) (hS:Heap w0 w (.frz F wr::H)) (hF:∀ k,S k→F k):IsI w S x z:=h.move (hS.keep hF)
theorem Heap.pcall {w0 w wr w':World} {H:List Chunk} {F S S':Nat→Prop} (hS:Heap w0 w (.frz F wr::H)) (hF:∀ k,S k→F k) (hq:Pure w S w' S'):∃ F',(∀ k,S' k→F' k)∧(∀ k,F k→F' k)∧Heap w0 w' (.frz F' w'::H):=by
 refine⟨fun k=>F k∨New w w' k,fun k hk=>?_,fun k hk=>.inl hk,?_⟩
 ·rcases hq.new k hk with h|h
  ·exact .inl (hF k h)
  ·exact .inr h
 ·have h1:=hS.call hq.below hq.drawn
  have h2:Heap w0 w' (.frz F wr::.frz (New w w') w'::H):=h1.perm (by
   simp only [List.cons_append];refine List.Perm.cons _ ?_;exact (List.perm_append_comm (l₁:=[Chunk.frz (New w w') w']) (l₂:=H)))
  exact h2.join
theorem Heap.base {w0 w wr:World} {H:List Chunk} {F S0 S:Nat→Prop} (hS:Heap w0 w (.frz F wr::H)) (hO:∀ k,Old w0 k→F k) (hp:Pure w0 S0 wr S):Heap w0 w (.frz (Old w0) w0::H):=by
 refine⟨hS.os,hS.tape,hS.output,hS.drawn,hS.size,?_,?_⟩
 ·intro c hc
  rcases List.mem_cons.1 hc with hc|hc
  ·subst hc
   exact fun k hk=>⟨(hS.ok (.frz F wr) (by simp) k (hO k hk)).1,(hS.keep hO k hk).trans (hp.below.block k hk)⟩
  ·exact hS.ok c (by simp [hc])
 ·have h:=List.pairwise_cons.1 hS.apart
  exact List.pairwise_cons.2 ⟨fun c hc k hk=>h.1 c hc k (hO k hk),h.2⟩
theorem Pure.step {w0 w wr:World} {H:List Chunk} {F S0 S:Nat→Prop} (hp:Pure w0 S0 wr S) (hS:Heap w0 w (.frz F wr::H)) (hO:∀ k,Old w0 k→F k) (hF:∀ k,S k→F k):Pure w0 S0 w S :=
 ⟨⟨hS.os,hS.tape,hS.output,hS.size,fun k hk=>(hS.keep hO k hk).trans (hp.below.block k hk)⟩,hS.drawn,hp.sub,fun k hk=>by
  rcases hp.new k hk with h|h
  ·exact .inl h
  ·exact .inr ⟨h.1,(hS.ok (.frz F wr) (by simp) k (hF k hk)).1⟩⟩
theorem IsI.zero (w:World) (S:Nat→Prop):IsI w S ⟨false,none,0,0⟩ 0:=⟨[],Mag.nil w S,.inl rfl,by simp,by decide,rfl⟩
theorem IsI.lt {w:World} {S:Nat→Prop} {x:WI} {z:Int} (h:IsI w S x z):z.natAbs<Lim:=by
 obtain⟨l,h1,h2,h3,h4,h5⟩:=h;rw [← h5];exact Lim_lt h1.wd h3
theorem Heap.magOut2 {w0 w:World} {H:List Chunk} {b b2:Nat} {l l2:List Nat} {T T2:TypeId} (S:Nat→Prop) (j j2:Nat) (h:Heap w0 w (.frz (Old w0) w0::H)) (hj:H[j]? = some (.blk b (.cells (wv l).toArray T (0,0)))) (hj2:H[j2]? = some (.blk b2 (.cells (wv l2).toArray T2 (0,0)))) (hw:Wd l) (hw2:Wd l2) (hn:l.length≤maxLen) (hn2:l2.length≤maxLen) :
 Pure w0 S w (fun k=>S k∨(k=b∨k=b2))∧Mag w (fun k=>S k∨(k=b∨k=b2)) (.slice (some ⟨b,0,none⟩) l.length l.length) l∧Mag w (fun k=>S k∨(k=b∨k=b2)) (.slice (some ⟨b2,0,none⟩) l2.length l2.length) l2:=by
 obtain⟨p1,m1⟩:=h.magOut S j hj hw hn;obtain⟨p2,m2⟩:=h.magOut S j2 hj2 hw2 hn2;refine⟨⟨p1.below,p1.drawn,fun k hk=>.inl hk,fun k hk=>?_⟩,m1.weaken fun k hk=>?_,m2.weaken fun k hk=>?_⟩
 ·rcases hk with hk|hk|hk
  ·exact .inl hk
  ·exact p1.new k (.inr hk)
  ·exact p2.new k (.inr hk)
 ·rcases hk with hk|hk
  ·exact .inl hk
  ·exact .inr (.inl hk)
 ·rcases hk with hk|hk
  ·exact .inl hk
  ·exact .inr (.inr hk)
section
variable {P:Program} {ops:Array Oper} {Q:Exit→Act→World→Prop} {rest:List Oper} {a:Act} {w w0 wr:World} {H:List Chunk} {S:Nat→Prop} {dst:Option Tmp} {ty T E Tb:TypeId} {pos:String} {aft:Array Edge} {g:Option (Nat × Bool)} {x y ix:Operand} {b:Nat} {l:List Nat} {K:Act→Prop}
theorem any_index_mag {i:Int} {ad:Option Addr} {n cap:Nat} (hu:P.underlying T=some (.slice E)) (hz:∀ w,(sizeOf E).run P w=.ok 1 w) (hx:a.eval x=.slice ad n cap) (hi:a.eval ix=.int .i64 i) (hv:Mag wr S (.slice ad n cap) l) (hlo:0≤i) (hhi:i<n)
 (hk:∀ b off,CellsAt wr S ⟨b,off,none⟩ [.int .u32 ((nth 0 l i.toNat:Nat):Int)]→K (a.put dst (.pointer (some ⟨b,off,none⟩)))):StpAny P ⟨dst,.indexAddr T x ix,ty,pos,aft,g⟩ a K:=by
 have hn:=hv.len;subst hn;exact any_index hu hz hx hi hv.sl hlo (by omega) (by omega) fun b off hc=>hk b off (by rw [Nat.mul_one,wv_cell (by omega)] at hc;exact hc)
theorem stp_load_word {i:Nat} (j:Nat) (hna:∀ w,(isAgg T).run P w=.ok false w) (hx:a.eval x=.pointer (some ⟨b,i,none⟩)) (hj:H[j]? = some (Chunk.blk b (.cells (wv l).toArray Tb (0,0)))) (hi:i<l.length)
 (hk:K (a.put dst (.int .u32 ((nth 0 l i:Nat):Int)))):Stp P w0 H ⟨dst,.load T x,ty,pos,aft,g⟩ a K :=
 stp_load_blk j hna hx hj (by simp [wv_at hi]) hk
theorem seq_store_word {i v:Nat} {u:Int} (j:Nat) (hS:Heap w0 w H) (hx:a.eval x=.pointer (some ⟨b,i,none⟩)) (hy:a.eval y=.int .u32 u) (hu:u=(v:Int)) (hj:H[j]? = some (.blk b (.cells (wv l).toArray Tb (0,0)))) (hi:i<l.length) (hsz:∀ w,(sizeOf T).run P w=.ok 1 w)
 (hk:∀ w',Heap w0 w' (H.set j (.blk b (.cells (wv (l.set i v)).toArray Tb (0,0))))→wpList P ops Q rest (a.put dst undef) w'):wpList P ops Q (⟨dst,.store T x y,ty,pos,aft,none⟩::rest) a w:=by
 subst hu;refine seq_store (T:=T) (u:=.int .u32 (v:Int)) j hS hx hy hj hsz (by simp [Value.cells,Value.oneCell']) (by simp [Value.cells,wv_length];omega) (fun w' hS'=>hk w' ?_)
 have e:((wv l).toArray.toList.take i++(Value.int .u32 (v:Int)).cells.toList++(wv l).toArray.toList.drop (i+(Value.int .u32 (v:Int)).cells.size))=wv (l.set i v):=by
  rw [← wv_set,List.set_eq_take_append_cons_drop,if_pos (by rw [wv_length];exact hi)];simp [Value.cells]
 rw [e] at hS';exact hS'
theorem seq_make_words {n:Nat} {xv:Int} (hS:Heap w0 w H) (hu:P.underlying T=some (.slice E)) (hinfo:(P.info? E).map (fun i=>(i.zero,i.size,i.bytes))=some (some (.int .u32 0),1,4))
 (hx:a.eval x=.int .i64 xv) (hy:a.eval y=.int .i64 xv) (hxn:xv=(n:Int)) (hn:n≤65536)
 (hk:∀ b w',Heap w0 w' (H++[.blk b (.cells (wv (List.replicate n 0)).toArray E (0,0))])→wpList P ops Q rest (a.put dst (.slice (some ⟨b,0,none⟩) n n)) w') :
 wpList P ops Q (⟨dst,.makeSlice T x y,ty,pos,aft,none⟩::rest) a w:=by
 subst hxn;obtain⟨i,hi,hz,hsz,hby⟩:=info_parts hinfo;have hr:=run_make (P:=P) w T E i _ hu hi hz .i64 .i64 n n (by omega) (by omega) (by rw [hby];omega) (by omega)
 have hc:madeCells (Value.int .u32 0).cells ((n:Int).toNat*i.size)=(wv (List.replicate n 0)).toArray:=by
  rw [hsz,Int.toNat_natCast,Nat.mul_one];apply Array.ext
  ·simp [madeCells,wv]
  ·intro j h1 h2
   simp [madeCells,wv,Value.cells,Nat.mod_one]
 rw [hc,Int.toNat_natCast] at hr;refine seq_heap (w':=w.alloc (.cells (wv (List.replicate n 0)).toArray E (0,0))) (v:=.slice (some ⟨w.heap.size,0,none⟩) n n) rfl ?_ (hk _ _ (hS.alloc _));simp only [execOp,hx,hy];simp [hr,go_sem]
theorem g_slice {lo hi mx:Option Operand} (h:wpList P ops Q (⟨dst,.slice T x lo hi mx,ty,pos,aft,g⟩::rest) a w):wpList P ops Q (⟨dst,.slice T x lo hi mx,ty,pos,aft,g⟩::rest) a w:=h
theorem any_slice_hi {hi:Operand} {ad:Option Addr} {off n c k:Nat} {kv:Int} (hu:P.underlying T=some (.slice E)) (hz:∀ w,(sizeOf E).run P w=.ok 1 w) (hx:a.eval x=.slice (some ⟨b,off,none⟩) n c) (hh:a.eval hi=.int .i64 kv) (hkv:kv=(k:Int)) (hkc:k≤c)
 (hk:K (a.put dst (.slice (some ⟨b,off,none⟩) k c))):StpAny P ⟨dst,.slice T x none (some hi) none,ty,pos,aft,g⟩ a K:=by
 subst hkv;refine⟨⟨_,fun w'=>?_,hk⟩⟩;generalize a.eval=ρ at hx hh
 have hb:(Instr.sliceBound (.int .i64 (k:Int)) c .sliceAcap).run P w'=.ok k w':=by
  simp [Instr.sliceBound,asIntOf,go_sem,hkc]
 simp [execOp,hx,hh,Instr.sliceAt,Instr.slice,Instr.sliceBounds,go_sem,run_underlying hu,hb,hz]
theorem any_slice_lh {lo hi:Operand} {ad:Option Addr} {off n c j k:Nat} {jv kv:Int} (hu:P.underlying T=some (.slice E)) (hz:∀ w,(sizeOf E).run P w=.ok 1 w) (hx:a.eval x=.slice (some ⟨b,off,none⟩) n c) (hl:a.eval lo=.int .i64 jv) (hh:a.eval hi=.int .i64 kv) (hjv:jv=(j:Int)) (hkv:kv=(k:Int)) (hkc:k≤c) (hjk:j<k)
 (hk:K (a.put dst (.slice (some ⟨b,off+j,none⟩) (k - j) (c - j)))):StpAny P ⟨dst,.slice T x (some lo) (some hi) none,ty,pos,aft,g⟩ a K:=by
 subst hkv hjv;refine⟨⟨_,fun w'=>?_,hk⟩⟩;generalize a.eval=ρ at hx hh hl
 have hb:(Instr.sliceBound (.int .i64 (k:Int)) c .sliceAcap).run P w'=.ok k w':=by
  simp [Instr.sliceBound,asIntOf,go_sem,hkc]
 have hb2:(Instr.sliceBound (.int .i64 (j:Int)) k .sliceB).run P w'=.ok j w':=by
  simp [Instr.sliceBound,asIntOf,go_sem,show j≤k by omega]
 simp [execOp,hx,hh,hl,Instr.sliceAt,Instr.slice,Instr.sliceBounds,go_sem,run_underlying hu,hb,hb2,hz,show ¬ c=j by omega];intro h;omega
theorem g_copy {args:Array Operand} {ts:Array TypeId} (h:wpList P ops Q (⟨dst,.call ⟨.builtin .copy,args,ts⟩,ty,pos,aft,g⟩::rest) a w):wpList P ops Q (⟨dst,.call ⟨.builtin .copy,args,ts⟩,ty,pos,aft,g⟩::rest) a w:=h
theorem seq_copy_words {sT:TypeId} {m:List Nat} {sv:Value} {n c:Nat} (j:Nat) (hS:Heap w0 w H) (hu:P.underlying T=some (.slice E)) (hs:(P.info? E).map (·.size)=some 1) (hx:a.eval x=.slice (some ⟨b,0,none⟩) n c) (hy:a.eval y=sv) (hm:Mag w S sv m) (hj:H[j]? = some (.blk b (.cells (wv l).toArray Tb (0,0)))) (hn:n=l.length) (hl:m.length=l.length)
 (hk:∀ w',Heap w0 w' (H.set j (.blk b (.cells (wv m).toArray Tb (0,0))))→wpList P ops Q rest (a.put dst (.int .i64 (m.length:Nat))) w'):wpList P ops Q (⟨dst,.call ⟨.builtin .copy,#[x,y],#[T,sT]⟩,ty,pos,aft,none⟩::rest) a w:=by
 obtain⟨⟨h1,ad,cap,rfl,h3,h4,h5,h6⟩,h7⟩:=hm;have hb:=hS.blk (List.mem_of_getElem? hj);subst hn;cases ad with
 | none =>
  have h0:=(h5 rfl).1;have hm0:m=[]:=List.length_eq_zero_iff.1 h0;subst hm0;have hl0:l=[]:=List.length_eq_zero_iff.1 hl.symm;subst hl0;have hr:=run_copy_none (P:=P) w T sT ty E (some ⟨b,0,none⟩) none 0 c 0 cap hu hs rfl
  refine seq_heap (w':=w) (v:=.int .i64 0) rfl ?_ (hk w (by
   have:H.set j (Chunk.blk b (.cells (wv []).toArray Tb (0,0)))=H:=by
    obtain⟨h1,h2⟩:=List.getElem?_eq_some_iff.1 hj;apply List.ext_getElem (by simp);intro i h3 h4;rw [List.getElem_set]
    split
    ·rename_i e;subst e;exact h2.symm
    ·rfl
   rw [this];exact hS))
  simp only [List.length_nil] at hx;generalize a.eval=ρ at hx hy;simp [execOp,resolve,invoke,builtin,hx,hy,hr,go_sem,goInt]
 | some ad =>
  have hc:=h6 ad rfl
  have hcells:∀ j v,(wv m)[j]? = some v→w.cell? (ad.add j)=some v:=fun j v hv=>by
   obtain⟨bx,ox,sx⟩:=ad;have hsx:sx=none:=hc.spot (by intro e;rw [e] at hv;simp at hv);subst hsx;rw [eval_addr];exact hc.cell j v hv
  have hr:=run_copy_row P w T sT ty E b 0 l.length c ad m.length cap (wv l).toArray Tb (wv m) hu hs hb (by rw [wv_length,hl];exact (Nat.min_self _).symm) hcells (by simp [wv_length,hl]) (wv_one m)
  have e:((wv l).toArray.toList.take 0++wv m++(wv l).toArray.toList.drop (0+(wv m).length))=wv m:=by
   simp [wv_length,hl,List.drop_of_length_le]
  rw [e] at hr;have hlt:b<w.heap.size:=(Array.getElem?_eq_some_iff.1 hb).1;refine seq_heap (w':=w.setRow b (wv m).toArray) (v:=.int .i64 (m.length:Nat)) rfl ?_ (hk _ (hS.write (o':=.cells (wv m).toArray Tb (0,0)) j hj rfl rfl rfl (Nat.le_refl _) (by simp [World.setRow]) (setRow_heap w b _ _ _ _ hb) (fun k _ hkb=>by simp [World.setRow,Array.getElem?_modify,Ne.symm hkb])));generalize a.eval=ρ at hx hy;simp [execOp,resolve,invoke,builtin,hx,hy,hr,go_sem,goInt,wv_length]
theorem g_mks' (h:wpList P ops Q (⟨dst,.makeSlice T x y,ty,pos,aft,g⟩::rest) a w):wpList P ops Q (⟨dst,.makeSlice T x y,ty,pos,aft,g⟩::rest) a w:=h
end
section
variable {fn:Func} {p p2 t:Tmp} {T T2:TypeId} {P:Program} {w0 w:World} {H:List Chunk} {b b2 k k2:Nat} {arr arr2:Array Value} {Tb Tb2:TypeId} {fr fr2:Nat × Nat} {R:Ending→World→Prop} {a:Act}
theorem ret_c (j:Nat) (hS:Heap w0 w H) (hr:fn.results=#[.cell p T]) (hp:a.tmps.getD p undef=.pointer (some ⟨b,0,none⟩)) (hj:H[j]? = some (Chunk.blk b (.cells arr Tb fr))) (hag:∀ w,(isAgg T).run P w=.ok true w) (hz:∀ w,(sizeOf T).run P w=.ok k w) (hsz:arr.size=k) (hd:a.defers=[])
 (h:R (.returned (.agg arr)) w):bodyPost P fn R .ret a w:=by
 refine bodyPost_ret (v:=.agg arr) ?_ hd h;have h1:=run_loadVar_blk (P:=P) j hS hj hag hz hsz;have hp':a.tmps[p]?.getD undef=.pointer (some ⟨b,0,none⟩):=by simpa using hp
 simp [results,hr,hp',asAddr,h1]
theorem ret_ct (j:Nat) (hS:Heap w0 w H) (hr:fn.results=#[.cell p T,.tmp t]) (hp:a.tmps.getD p undef=.pointer (some ⟨b,0,none⟩)) (hj:H[j]? = some (Chunk.blk b (.cells arr Tb fr))) (hag:∀ w,(isAgg T).run P w=.ok true w) (hz:∀ w,(sizeOf T).run P w=.ok k w) (hsz:arr.size=k) (hd:a.defers=[])
 (h:R (.returned (.tuple #[.agg arr,a.tmps.getD t undef])) w):bodyPost P fn R .ret a w:=by
 refine bodyPost_ret (v:=.tuple #[.agg arr,a.tmps.getD t undef]) ?_ hd h;have h1:=run_loadVar_blk (P:=P) j hS hj hag hz hsz;have hp':a.tmps[p]?.getD undef=.pointer (some ⟨b,0,none⟩):=by simpa using hp
 simp [results,hr,hp',asAddr,h1]
theorem ret_cct (j j2:Nat) (hS:Heap w0 w H) (hr:fn.results=#[.cell p T,.cell p2 T2,.tmp t]) (hp:a.tmps.getD p undef=.pointer (some ⟨b,0,none⟩)) (hp2:a.tmps.getD p2 undef=.pointer (some ⟨b2,0,none⟩))
 (hj:H[j]? = some (Chunk.blk b (.cells arr Tb fr))) (hj2:H[j2]? = some (Chunk.blk b2 (.cells arr2 Tb2 fr2))) (hag:∀ w,(isAgg T).run P w=.ok true w) (hz:∀ w,(sizeOf T).run P w=.ok k w) (hsz:arr.size=k) (hag2:∀ w,(isAgg T2).run P w=.ok true w) (hz2:∀ w,(sizeOf T2).run P w=.ok k2 w) (hsz2:arr2.size=k2) (hd:a.defers=[])
 (h:R (.returned (.tuple #[.agg arr,.agg arr2,a.tmps.getD t undef])) w):bodyPost P fn R .ret a w:=by
 refine bodyPost_ret (v:=.tuple #[.agg arr,.agg arr2,a.tmps.getD t undef]) ?_ hd h;have h1:=run_loadVar_blk (P:=P) j hS hj hag hz hsz;have h2:=run_loadVar_blk (P:=P) j2 hS hj2 hag2 hz2 hsz2;have hp':a.tmps[p]?.getD undef=.pointer (some ⟨b,0,none⟩):=by simpa using hp
 have hp2':a.tmps[p2]?.getD undef=.pointer (some ⟨b2,0,none⟩):=by simpa using hp2
 simp [results,hr,hp',hp2',asAddr,h1,h2]
end
theorem Heap.pcl {w0 w wr w':World} {H:List Chunk} {F S0 S S':Nat→Prop} (hS:Heap w0 w (.frz F wr::H)) (hF:∀ k,S k→F k) (hO:∀ k,Old w0 k→F k) (hp:Pure w0 S0 wr S) (hq:Pure w S w' S'):∃ F',(∀ k,S' k→F' k)∧(∀ k,F k→F' k)∧Pure w0 S0 w' S'∧(∀ k,Old w0 k→F' k)∧Heap w0 w' (.frz F' w'::H) :=
 let ⟨F',h1,h2,h3⟩:=hS.pcall hF hq
 ⟨F',h1,h2,(hp.step hS hO hF).trans hq,fun k h=>h2 k (hO k h),h3⟩
end Go.Hp
namespace Go.Hp
open Go.Proofs.Tryz
open Go Go.RowKit
def paintTo (N:List Nat) (h:Nat) (L:List Int) (f:Int) (j:Nat):List Int:=setAll L ((List.range j).map fun j=>it N j h) f
def leastTo (N:List Nat) (h j:Nat):Nat:=((List.range j).map fun j=>it N j h).foldl min h
theorem paintTo_succ (N:List Nat) (h:Nat) (L:List Int) (f:Int) (j:Nat):paintTo N h L f (j+1)=(paintTo N h L f j).set (it N j h) f:=by
 unfold paintTo setAll;rw [List.range_succ,List.map_append,List.foldl_append]
 rfl
theorem leastTo_succ (N:List Nat) (h j:Nat):leastTo N h (j+1)=min (leastTo N h j) (it N j h):=by
 unfold leastTo;rw [List.range_succ,List.map_append,List.foldl_append]
 rfl
theorem paintTo_length (N:List Nat) (h:Nat) (L:List Int) (f:Int) (j:Nat):(paintTo N h L f j).length=L.length:=setAll_length _ _ _
theorem leastTo_le (N:List Nat) (h j:Nat):leastTo N h j≤h:=(foldl_min_le _ _).1
def idxM (f:Nat→Nat) (p x:Nat):Nat:=((List.range p).find? (fun j=>f j == x)).getD p
theorem idxM_eq {f:Nat→Nat} {p:Nat} (hi:∀ i j,i<j→j<p→f i≠f j) {j:Nat} (hj:j<p):idxM f p (f j)=j:=by
 unfold idxM;cases hf:(List.range p).find? (fun i=>f i == f j) with
 | none =>
  have:=List.find?_eq_none.1 hf j (by simpa using hj);simp at this
 | some q =>
  have h1:=List.find?_some hf;have h2:=List.mem_of_find?_eq_some hf;simp only [beq_iff_eq] at h1;rw [List.mem_range] at h2;simp only [Option.getD_some]
  rcases Nat.lt_trichotomy q j with h|h|h
  ·exact absurd h1 (hi q j h hj)
  ·exact h
  ·exact absurd h1.symm (hi j q h h2)
theorem it_apart {N:List Nat} (hp:IsPerm N) {h:Nat} (hh:h<N.length) {i j:Nat} (hij:i<j) (hj:j<per N h):it N i h≠it N j h:=by
 intro e;obtain⟨p0,p1,p2,p3⟩:=per_spec hp hh;have e1:j=(j - i)+i:=by omega
 rw [e1,it_add] at e;have:=it_inj hp hh (it_lt hp hh (j - i)) i e;exact p3 (j - i) (by omega) (by omega) this.symm
end Go.Hp
namespace Go.Proofs
open Go.Proofs.Tryz
open Go.RowKit Go.Hp
theorem paint_any {N:List Nat} (hp:IsPerm N) {h:Nat} (hh:h<N.length) (hle:N.length≤1000000) (L:List Int) (face:Int) (bf b4 g cl cn:Nat) (an:Option Addr) (v3 v4 v5:Value) (w:World) (S:Nat→Prop) (hNx:Nats w S (.slice an N.length cn) N) (hLl:L.length=N.length)
 (hS:Heap w w [.frz S w,.blk bf (.cells #[.slice an N.length cn,.slice (some ⟨g,0,none⟩) L.length cl,v3,v4,v5] 37 (0,0)),.blk b4 (.cells #[.slice an N.length cn] 22 (0,0)),.row (.slice (some ⟨g,0,none⟩) L.length cl) 3 1 L.length (iv L)]) :
 Calls Tryz.prog 42 #[.int .i64 (h:Int),.int .i64 face,.pointer (some ⟨bf,0,none⟩),.pointer (some ⟨b4,0,none⟩)] w fun e w'=>e=.returned (.int .i64 (leastF N h:Int))∧Heap w w' [.frz S w,.blk bf (.cells #[.slice an N.length cn,.slice (some ⟨g,0,none⟩) L.length cl,v3,v4,v5] 37 (0,0)),.blk b4 (.cells #[.slice an N.length cn] 22 (0,0)),.row (.slice (some ⟨g,0,none⟩) L.length cl) 3 1 L.length (iv (setAll L (orb N h) face))]:=by
 obtain⟨p0,p1,p2,p3⟩:=per_spec hp hh;have e1:leastF N h=leastTo N h (per N h):=rfl;have e2:setAll L (orb N h) face=paintTo N h L face (per N h):=rfl;rw [e1,e2];clear e1 e2;have hlt:=fun j=>it_lt hp hh j
 have hap:=fun i j (a:i<j) b=>it_apart hp hh a b
 obtain⟨p,hpe⟩:∃ p,per N h=p:=⟨_,rfl⟩;rw [hpe] at p0 p1 p2 p3;rw [hpe] at hap;rw [hpe];obtain⟨f,hff⟩:∃ f:Nat→Nat,f=fun j=>it N j h:=⟨_,rfl⟩
 obtain⟨P,hPP⟩:∃ P:Nat→List Int,P=paintTo N h L face:=⟨_,rfl⟩;obtain⟨M,hMM⟩:∃ M:Nat→Nat,M=leastTo N h:=⟨_,rfl⟩;have hf0:f 0=h:=by rw [hff];rfl
 have hfs:∀ j,nth 0 N (f j)=f (j+1):=fun j=>by rw [hff];rfl
 have hfl:∀ j,f j<N.length:=fun j=>by rw [hff];exact hlt j
 have hfp:f p=h:=by rw [hff];exact p2
 have hfn:∀ j,0<j→j<p→f j≠h:=fun j a b=>by rw [hff];exact p3 j a b
 have hfi:∀ i j,i<j→j<p→f i≠f j:=fun i j a b=>by rw [hff];exact hap i j a b
 have hix:∀ j,j<p→idxM f p (f j)=j:=fun j hj=>idxM_eq hfi hj
 have hPs:∀ j,P (j+1)=(P j).set (f j) face:=fun j=>by rw [hPP,hff];exact paintTo_succ N h L face j
 have hPl:∀ j,(P j).length=L.length:=fun j=>by rw [hPP];exact paintTo_length N h L face j
 have hP0:P 0=L:=by rw [hPP];rfl
 have hMs:∀ j,M (j+1)=min (M j) (f j):=fun j=>by rw [hMM,hff];exact leastTo_succ N h j
 have hM0:M 0=h:=by rw [hMM];rfl
 have hMl:∀ j,M j≤h:=fun j=>by rw [hMM];exact leastTo_le N h j
 rw [← hPP,← hMM];clear hff hPP hMM hlt p2 p3 hpe hp hap hfi;obtain⟨n,hn⟩:∃ n,N.length=n:=⟨_,rfl⟩;rw [hn] at hle hh p1 hfl hLl hNx hS;rw [hLl] at hS hPl;rw [hn,hLl];clear hLl hn;rw [← hP0] at hS;replace hP0:=Hd hP0;replace hM0:=Hd hM0;replace hPs:=Hd hPs;replace hMs:=Hd hMs;replace hf0:=Hd hf0;replace hix:=Hd hix;replace hfs:=Hd hfs;replace hfp:=Hd hfp;replace hfn:=Hd hfn;replace hfl:=Hd hfl;replace hPl:=Hd hPl;replace hMl:=Hd hMl
 go_enter func42,ntmps42
 go_wp2
 go_loopw [7,8] (fun v7 v8 wr=>∃ j:Nat,j<p∧v7=.int .i64 (M j:Int)∧v8=.int .i64 (f j:Int)∧Heap w wr [.frz S w,.blk bf (.cells #[.slice an n cn,.slice (some ⟨g,0,none⟩) n cl,v3,v4,v5] 37 (0,0)),.blk b4 (.cells #[.slice an n cn] 22 (0,0)),.row (.slice (some ⟨g,0,none⟩) n cl) 3 1 n (iv (P j))]) (fun _ v8 _=>p - idxM f p (intOf v8).toNat)
 case atStart=>exact⟨0,p0,by rw [hM0.out],by rw [hf0.out],hS⟩
 case round =>
  clear hS;obtain⟨j,hjp,rfl,rfl,hS⟩:=hrel;have hk:=hfl.out j;have hk2:=hfl.out (j+1);have hst:=Hd (hPs.out j);have hms:=Hd (hMs.out j);have hnx:=Hd (hfs.out j);have hpl:=hPl.out j;have hml:=hMl.out j;have hij:=Hd (hix.out j hjp);obtain⟨k,hkk⟩:∃ k,f j=k:=⟨_,rfl⟩;rw [hkk] at hk hst hms hnx hij;rw [hkk];obtain⟨m,hmm⟩:∃ m,M j=m:=⟨_,rfl⟩;rw [hmm] at hms hml;rw [hmm];obtain⟨Q,hQQ⟩:∃ Q,P j=Q:=⟨_,rfl⟩;rw [hQQ] at hst hpl hS;obtain⟨k2,hk2e⟩:∃ k2,f (j+1)=k2:=⟨_,rfl⟩;rw [hk2e] at hnx hk2;clear hkk hmm hQQ;obtain⟨m2,hm2⟩:∃ m2,M (j+1)=m2:=⟨_,rfl⟩;rw [hm2] at hms
  by_cases hend:j+1=p
  ·have hfe:k2=h:=by rw [← hk2e,hend];exact hfp.out
   rw [hend] at hm2 hst;clear hk2e hend;subst hfe;replace hm2:=Hd hm2;have hnx:=hnx.out;have hQ:((k2:Int) == (k2:Int))=true:=by simp
   by_cases hkm:k<m
   ·have hmk:m2=k:=by have:=hms.out;omega
    clear hms;subst hmk
    go_wp2_with (with_reducible first|refine ldB 1 hS isAgg22 ?_|refine ixS underlying22 sizeOf3 ?_|refine stR 3 hS sizeOf3 fun _ hS=>?_|refine ldB 2 hS isAgg22 ?_|refine ixN underlying22 sizeOf3 fun _ _ _=>?_|refine ld0 hS isAgg3 ?_)
    go_ret;exact⟨by rw [hm2.out];rfl,by rw [hst.out];exact hS⟩
   ·have hmk:m2=m:=by have:=hms.out;omega
    clear hms;subst hmk
    go_wp2_with (with_reducible first|refine ldB 1 hS isAgg22 ?_|refine ixS underlying22 sizeOf3 ?_|refine stR 3 hS sizeOf3 fun _ hS=>?_|refine ldB 2 hS isAgg22 ?_|refine ixN underlying22 sizeOf3 fun _ _ _=>?_|refine ld0 hS isAgg3 ?_)
    go_ret;exact⟨by rw [hm2.out];rfl,by rw [hst.out];exact hS⟩
  ·have hfe:k2≠h:=by rw [← hk2e];exact hfn.out (j+1) (by omega) (by omega)
   have hQ:((k2:Int) == (h:Int))=false:=by simp;omega
   have hix2:=Hd (hix.out (j+1) (by omega));rw [hk2e] at hix2;replace hk2e:=Hd hk2e;replace hm2:=Hd hm2;have hnx:=hnx.out
   by_cases hkm:k<m
   ·have hmk:m2=k:=by have:=hms.out;omega
    clear hms;subst hmk
    go_wp2_with (with_reducible first|refine ldB 1 hS isAgg22 ?_|refine ixS underlying22 sizeOf3 ?_|refine stR 3 hS sizeOf3 fun _ hS=>?_|refine ldB 2 hS isAgg22 ?_|refine ixN underlying22 sizeOf3 fun _ _ _=>?_|refine ld0 hS isAgg3 ?_)
    go_roundw
    case rel=>exact⟨j+1,by omega,by rw [hm2.out],by rw [hk2e.out,hnx],by rw [hst.out];exact hS⟩
    case measure=>simp only [intOf,Int.toNat_natCast];rw [hnx,hix2.out,hij.out];omega
   ·have hmk:m2=m:=by have:=hms.out;omega
    clear hms;subst hmk
    go_wp2_with (with_reducible first|refine ldB 1 hS isAgg22 ?_|refine ixS underlying22 sizeOf3 ?_|refine stR 3 hS sizeOf3 fun _ hS=>?_|refine ldB 2 hS isAgg22 ?_|refine ixN underlying22 sizeOf3 fun _ _ _=>?_|refine ld0 hS isAgg3 ?_)
    go_roundw
    case rel=>exact⟨j+1,by omega,by rw [hm2.out],by rw [hk2e.out,hnx],by rw [hst.out];exact hS⟩
    case measure=>simp only [intOf,Int.toNat_natCast];rw [hnx,hix2.out,hij.out];omega
end Go.Proofs
