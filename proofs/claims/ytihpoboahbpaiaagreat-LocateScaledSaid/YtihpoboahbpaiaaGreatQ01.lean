/- Texts for the walk of the law: Base1. -/
import Derived.WalkKit
import Derived.WalkSpells
import Derived.WalkLawsBesides
import Derived.Outline
import Derived.BigQuiet
import Derived.Lib.Hide
import Derived.Deep.QuietTactic
import Derived.Deep.DeepFit
import Derived.OrdersHeld
import Derived.Maps.RangeRun
set_option maxRecDepth 100000
set_option maxHeartbeats 16000000
set_option linter.unusedVariables false
set_option linter.unusedSimpArgs false
namespace Go.Hp
open Go Go.RowKit
def InI (x:Int):Prop:=-9223372036854775808≤x∧x≤9223372036854775807
def nth {α:Type} (d:α) (xs:List α) (i:Nat):α:=xs.getD i d
theorem nth_eq {α:Type} (d:α) (xs:List α) (i:Nat) (h:i<xs.length):nth d xs i=xs[i]:=by simp [nth,List.getD_eq_getElem?_getD,h]
inductive Chunk where
 | blk (b:Nat) (o:Obj)
 | frz (S:Nat→Prop) (wr:World)
 | row (v:Value) (T:TypeId) (k n:Nat) (cs:List Value)
def Chunk.has:Chunk→Nat→Prop
 | .blk b _,k=>k=b
 | .frz S _,k=>S k
 | .row v _ _ _ _,k=>v.ownBlock=some k
def Chunk.ok (w:World):Chunk→Prop
 | .blk b o=>w.heap[b]? = some o
 | .frz S wr=>∀ k,S k→k<w.heap.size∧w.heap[k]? = wr.heap[k]?
 | .row v T k n cs=>w.ownsRow 0 T k v n cs
structure Heap (w0 w:World) (H:List Chunk):Prop where
 os:w.os=w0.os
 tape:w.tape=w0.tape
 output:w.output=w0.output
 drawn:w0.drawn≤w.drawn
 size:w0.heap.size≤w.heap.size
 ok:∀ c ∈ H,c.ok w
 apart:H.Pairwise (fun c d=>∀ k,c.has k→¬ d.has k)
def Old (w:World):Nat→Prop:=fun k=>k<w.heap.size
def New (w w':World):Nat→Prop:=fun k=>w.heap.size≤k∧k<w'.heap.size
theorem Heap.start (w:World):Heap w w [.frz (Old w) w] :=
 ⟨rfl,rfl,rfl,Nat.le_refl _,Nat.le_refl _,by intro c hc;simp at hc;subst hc;exact fun k hk=>⟨hk,rfl⟩,by simp⟩
theorem Chunk.lt {w:World} {c:Chunk} (h:c.ok w) {k:Nat} (hk:c.has k):k<w.heap.size:=by
 cases c with
 | blk b o=>simp only [Chunk.has] at hk;subst hk;exact (Array.getElem?_eq_some_iff.1 h).1
 | frz S wr=>exact (h k hk).1
 | row v T z n cs=>exact (World.ownsRow.lt h k hk).2
theorem Chunk.ok_of {w w':World} {c:Chunk} (h:c.ok w) (hs:w.heap.size≤w'.heap.size) (hb:∀ k,c.has k→w'.heap[k]? = w.heap[k]?):c.ok w':=by
 cases c with
 | blk b o=>simp only [Chunk.ok] at *;rw [hb b rfl];exact h
 | frz S wr=>exact fun k hk=>⟨Nat.lt_of_lt_of_le (h k hk).1 hs,(hb k hk).trans (h k hk).2⟩
 | row v T z n cs =>
  obtain⟨h1,h2⟩:=h;refine⟨h1,?_⟩
  rcases h2 with h2|⟨g,cap,cur,rfl,hg,hgg,hr⟩
  ·exact .inl h2
  ·exact .inr ⟨g,cap,cur,rfl,hg,(hb g rfl).trans hgg,hr⟩
theorem Heap.below {w0 w w':World} {H:List Chunk} (h:Heap w0 w H) (hb:Below w.heap.size w w') (hd:w.drawn≤w'.drawn):Heap w0 w' H :=
 ⟨hb.os.trans h.os,hb.tape.trans h.tape,hb.output.trans h.output,Nat.le_trans h.drawn hd,Nat.le_trans h.size hb.size,
  fun c hc=>Chunk.ok_of (h.ok c hc) hb.size (fun k hk=>hb.block k (Chunk.lt (h.ok c hc) hk)),h.apart⟩
theorem pairwise_snoc {α:Type} {R:α→α→Prop} {l:List α} {x:α} (h:l.Pairwise R) (hx:∀ y ∈ l,R y x):(l++[x]).Pairwise R :=
 List.pairwise_append.2 ⟨h,List.pairwise_singleton _ _,fun a ha b hb=>by simp at hb;subst hb;exact hx a ha⟩
theorem Heap.call {w0 w w':World} {H:List Chunk} (h:Heap w0 w H) (hb:Below w.heap.size w w') (hd:w.drawn≤w'.drawn):Heap w0 w' (H++[.frz (New w w') w']):=by
 have h':=h.below hb hd;refine⟨h'.os,h'.tape,h'.output,h'.drawn,h'.size,?_,?_⟩
 ·intro c hc
  rcases List.mem_append.1 hc with hc|hc
  ·exact h'.ok c hc
  ·simp at hc;subst hc
   exact fun k hk=>⟨hk.2,rfl⟩
 ·exact pairwise_snoc h'.apart fun c hc k hk hn=>by
   have:=Chunk.lt (h.ok c hc) hk;have:=hn.1;omega
theorem Heap.alloc {w0 w:World} {H:List Chunk} (h:Heap w0 w H) (o:Obj):Heap w0 (w.alloc o) (H++[.blk w.heap.size o]):=by
 have h':=h.below ((Below.refl w.heap.size w).alloc (Nat.le_refl _) o) (Nat.le_refl _);refine⟨h'.os,h'.tape,h'.output,h'.drawn,h'.size,?_,?_⟩
 ·intro c hc
  rcases List.mem_append.1 hc with hc|hc
  ·exact h'.ok c hc
  ·simp at hc;subst hc
   exact heap_alloc_new w o
 ·exact pairwise_snoc h'.apart fun c hc k hk hn=>by
   have:=Chunk.lt (h.ok c hc) hk;simp only [Chunk.has] at hn;omega
theorem Heap.drew {w0 w:World} {H:List Chunk} (h:Heap w0 w H):Heap w0 w.drew H:=h.below ((Below.refl _ w).drew) (Nat.le_succ _)
theorem Heap.toBelow {w0 w:World} {H:List Chunk} (h:Heap w0 w H) (hm:Chunk.frz (Old w0) w0 ∈ H):Below w0.heap.size w0 w :=
 ⟨h.os,h.tape,h.output,h.size,fun k hk=>(h.ok _ hm k hk).2⟩
theorem Heap.sub {w0 w:World} {H H':List Chunk} (h:Heap w0 w H) (hs:H'.Sublist H):Heap w0 w H' :=
 ⟨h.os,h.tape,h.output,h.drawn,h.size,fun c hc=>h.ok c (hs.subset hc),h.apart.sublist hs⟩
theorem Heap.perm {w0 w:World} {H H':List Chunk} (h:Heap w0 w H) (hs:H'.Perm H):Heap w0 w H' :=
 ⟨h.os,h.tape,h.output,h.drawn,h.size,fun c hc=>h.ok c (hs.mem_iff.1 hc),(hs.pairwise_iff (fun hR k hk hn=>hR k hn hk)).2 h.apart⟩
theorem Heap.blk {w0 w:World} {H:List Chunk} (h:Heap w0 w H) {b:Nat} {o:Obj} (hm:Chunk.blk b o ∈ H):w.heap[b]? = some o:=h.ok _ hm
theorem Heap.frz {w0 w:World} {H:List Chunk} (h:Heap w0 w H) {S:Nat→Prop} {wr:World} (hm:Chunk.frz S wr ∈ H) {k:Nat} (hk:S k):w.heap[k]? = wr.heap[k]?:=(h.ok _ hm k hk).2
theorem Heap.turn {w0 w w':World} {H:List Chunk} {c d:Chunk} (j:Nat) (h:Heap w0 w H) (hj:H[j]? = some c) (hos:w'.os=w.os) (ht:w'.tape=w.tape) (hout:w'.output=w.output)
 (hdr:w.drawn≤w'.drawn) (hsz:w.heap.size≤w'.heap.size) (hd:d.ok w') (hhas:∀ k,d.has k→c.has k∨w.heap.size≤k) (hother:∀ k,k<w.heap.size→¬ c.has k→w'.heap[k]? = w.heap[k]?):Heap w0 w' (H.set j d):=by
 obtain⟨hjl,hjv⟩:=List.getElem?_eq_some_iff.1 hj;have hap:=List.pairwise_iff_getElem.1 h.apart
 have hok:∀ i (hi:i<H.length),i≠j→(H[i]).ok w'∧∀ k,(H[i]).has k→¬ d.has k:=by
  intro i hi hij;have hoki:=h.ok H[i] (List.getElem_mem hi)
  have hna:∀ k,(H[i]).has k→¬ c.has k:=by
   intro k hk hc
   rcases Nat.lt_or_ge i j with hlt|hge
   ·exact hap i j hi hjl hlt k hk (by rw [hjv];exact hc)
   ·exact hap j i hjl hi (by omega) k (by rw [hjv];exact hc) hk
  refine⟨Chunk.ok_of hoki hsz fun k hk=>hother k (Chunk.lt hoki hk) (hna k hk),fun k hk hdk=>?_⟩
  rcases hhas k hdk with hc|hc
  ·exact hna k hk hc
  ·have:=Chunk.lt hoki hk;omega
 refine⟨hos.trans h.os,ht.trans h.tape,hout.trans h.output,Nat.le_trans h.drawn hdr,Nat.le_trans h.size hsz,?_,?_⟩
 ·intro e he
  obtain⟨i,hi,rfl⟩:=List.mem_iff_getElem.1 he;rw [List.length_set] at hi;rw [List.getElem_set]
  split
  ·exact hd
  ·exact (hok i hi (fun e=>by subst e;contradiction)).1
 ·refine List.pairwise_iff_getElem.2 fun i l hi hl hil k=>?_
  rw [List.length_set] at hi hl;rw [List.getElem_set,List.getElem_set]
  split
  ·split
   ·omega
   ·exact fun hk hn=>(hok l hl (fun e=>by subst e;contradiction)).2 k hn hk
  ·split
   ·exact fun hk hn=>(hok i hi (fun e=>by subst e;contradiction)).2 k hk hn
   ·exact hap i l hi hl hil k
theorem Heap.write {w0 w w':World} {H:List Chunk} {b:Nat} {o o':Obj} (j:Nat) (h:Heap w0 w H) (hj:H[j]? = some (.blk b o)) (hos:w'.os=w.os) (ht:w'.tape=w.tape) (hout:w'.output=w.output)
 (hdr:w.drawn≤w'.drawn) (hsz:w.heap.size≤w'.heap.size) (hb:w'.heap[b]? = some o') (hother:∀ k,k<w.heap.size→k≠b→w'.heap[k]? = w.heap[k]?):Heap w0 w' (H.set j (.blk b o')) :=
 h.turn j hj hos ht hout hdr hsz hb (fun k hk=>.inl hk) hother
theorem Heap.freeze {w0 w:World} {H:List Chunk} {c:Chunk} (j:Nat) (h:Heap w0 w H) (hj:H[j]? = some c):Heap w0 w (H.set j (.frz c.has w)) :=
 h.turn j hj rfl rfl rfl (Nat.le_refl _) (Nat.le_refl _) (fun k hk=>⟨Chunk.lt (h.ok c (List.mem_of_getElem? hj)) hk,rfl⟩) (fun k hk=>.inl hk) (fun _ _ _=>rfl)
theorem Heap.join {w0 w:World} {H:List Chunk} {S T:Nat→Prop} {wr wt:World} (h:Heap w0 w (.frz S wr::.frz T wt::H)):Heap w0 w (.frz (fun k=>S k∨T k) w::H):=by
 have hap:=List.pairwise_cons.1 h.apart;have hap2:=List.pairwise_cons.1 hap.2;have h1:=h.ok (.frz S wr) (by simp);have h2:=h.ok (.frz T wt) (by simp);refine⟨h.os,h.tape,h.output,h.drawn,h.size,?_,?_⟩
 ·intro c hc
  rcases List.mem_cons.1 hc with hc|hc
  ·subst hc
   rintro k (hk|hk)
   ·exact⟨(h1 k hk).1,rfl⟩
   ·exact⟨(h2 k hk).1,rfl⟩
  ·exact h.ok c (by simp [hc])
 ·refine List.pairwise_cons.2 ⟨fun c hc k hk=>?_,hap2.2⟩
  rcases hk with hk|hk
  ·exact hap.1 c (by simp [hc]) k hk
  ·exact hap2.1 c hc k hk
structure CellsAt (w:World) (S:Nat→Prop) (ad:Addr) (cs:List Value):Prop where
 spot:cs≠[]→ad.spot=none
 inS:cs≠[]→S ad.block
 cell:∀ j u,cs[j]? = some u→w.cell? ⟨ad.block,ad.off+j,none⟩=some u
theorem CellsAt.later {w0 w wr:World} {H:List Chunk} {S:Nat→Prop} {ad:Addr} {cs:List Value} (hc:CellsAt wr S ad cs) (hS:Heap w0 w H) (hm:Chunk.frz S wr ∈ H):CellsAt w S ad cs :=
 ⟨hc.spot,hc.inS,fun j u hu=>by
  rw [World.cell?_of_block (w:=wr) (a:=⟨ad.block,ad.off+j,none⟩) (hS.frz hm (hc.inS (by intro e;subst e;simp at hu)))];exact hc.cell j u hu⟩
def SlC (w:World) (S:Nat→Prop) (k:Nat) (v:Value) (n:Nat) (cs:List Value):Prop :=
 cs.length=n*k∧∃ a cap,v=.slice a n cap∧n≤cap∧cap≤maxLen∧(a=none→n=0∧cap=0)∧∀ ad,a=some ad→CellsAt w S ad cs
theorem CellsAt.weaken {w:World} {S T:Nat→Prop} {ad:Addr} {cs:List Value} (h:CellsAt w S ad cs) (hST:∀ k,S k→T k):CellsAt w T ad cs:=⟨h.spot,fun e=>hST _ (h.inS e),h.cell⟩
theorem SlC.weaken {w:World} {S T:Nat→Prop} {k n:Nat} {v:Value} {cs:List Value} (h:SlC w S k v n cs) (hST:∀ k,S k→T k):SlC w T k v n cs:=by
 obtain⟨h1,a,cap,h2,h3,h4,h5,h6⟩:=h;exact⟨h1,a,cap,h2,h3,h4,h5,fun ad e=>(h6 ad e).weaken hST⟩
theorem SlC.later {w0 w wr:World} {H:List Chunk} {S:Nat→Prop} {k n:Nat} {v:Value} {cs:List Value} (h:SlC wr S k v n cs) (hS:Heap w0 w H) (hm:Chunk.frz S wr ∈ H):SlC w S k v n cs:=by
 obtain⟨h1,a,cap,h2,h3,h4,h5,h6⟩:=h;exact⟨h1,a,cap,h2,h3,h4,h5,fun ad e=>(h6 ad e).later hS hm⟩
theorem SlC.nil (w:World) (S:Nat→Prop) (k:Nat):SlC w S k (.slice none 0 0) 0 []:=⟨by simp,none,0,rfl,Nat.le_refl _,by simp [maxLen],fun _=>⟨rfl,rfl⟩,fun ad e=>by cases e⟩
theorem SlC.ofRow {w:World} {T:TypeId} {k n:Nat} {v:Value} {cs:List Value} (h:w.ownsRow 0 T k v n cs):SlC w (fun b=>v.ownBlock=some b) k v n cs:=by
 refine⟨h.1,?_⟩
 rcases h.2 with ⟨rfl,rfl⟩|⟨g,cap,cur,rfl,hg,hgg,hn,hc,hs,ht⟩
 ·exact⟨none,0,rfl,Nat.le_refl _,by simp [maxLen],fun _=>⟨rfl,rfl⟩,fun ad e=>by cases e⟩
 ·refine⟨some ⟨g,0,none⟩,cap,rfl,hn,hc,(fun e=>by cases e),fun ad e=>?_⟩
  cases e;refine⟨fun _=>rfl,fun _=>rfl,fun j u hu=>?_⟩;rw [Nat.zero_add,cell_of_row w g j cur T (0,0) hgg];rw [← ht,List.getElem?_take] at hu
  split at hu
  ·simpa using hu
  ·cases hu
theorem SlC.le {w:World} {S:Nat→Prop} {k n:Nat} {v:Value} {cs:List Value} (h:SlC w S k v n cs):n≤9223372036854775807:=by
 obtain⟨h1,a,cap,h2,h3,h4,h5,h6⟩:=h;simp only [maxLen] at h4;omega
theorem below_keeps {w w':World} (hb:Below w.heap.size w w') {a:Addr} {u:Value} (h:w.cell? a=some u):w'.cell? a=some u :=
 (hb.cell (World.block_lt_of_cell? w a h)).trans h
theorem SlC.below {w w':World} {S:Nat→Prop} {k n:Nat} {v:Value} {cs:List Value} (h:SlC w S k v n cs) (hb:Below w.heap.size w w'):SlC w' S k v n cs:=by
 obtain⟨h1,a,cap,h2,h3,h4,h5,h6⟩:=h;exact⟨h1,a,cap,h2,h3,h4,h5,fun ad e=>⟨(h6 ad e).spot,(h6 ad e).inS,fun j u hu=>below_keeps hb ((h6 ad e).cell j u hu)⟩⟩
def Ints (w:World) (S:Nat→Prop) (v:Value) (xs:List Int):Prop:=SlC w S 1 v xs.length (xs.map (Value.int .i64))∧∀ x ∈ xs,InI x
theorem Ints.weaken {w:World} {S T:Nat→Prop} {v:Value} {xs:List Int} (h:Ints w S v xs) (hST:∀ k,S k→T k):Ints w T v xs:=⟨h.1.weaken hST,h.2⟩
theorem SlC.old {w:World} {S:Nat→Prop} {k n:Nat} {v:Value} {cs:List Value} (h:SlC w S k v n cs):SlC w (Old w) k v n cs:=by
 obtain⟨h1,a,cap,h2,h3,h4,h5,h6⟩:=h;refine⟨h1,a,cap,h2,h3,h4,h5,fun ad e=>⟨(h6 ad e).spot,fun hne=>?_,(h6 ad e).cell⟩⟩;cases cs with
 | nil=>exact absurd rfl hne
 | cons u cs=>exact World.block_lt_of_cell? w ⟨ad.block,ad.off+0,none⟩ ((h6 ad e).cell 0 u (by simp))
theorem SlC.arg {w0 w wr:World} {H:List Chunk} {S:Nat→Prop} {k n:Nat} {v:Value} {cs:List Value} (h:SlC wr S k v n cs) (hS:Heap w0 w H) (hm:Chunk.frz S wr ∈ H):SlC w (Old w) k v n cs:=(h.later hS hm).old
theorem Ints.arg {w0 w wr:World} {H:List Chunk} {S:Nat→Prop} {v:Value} {xs:List Int} (h:Ints wr S v xs) (hS:Heap w0 w H) (hm:Chunk.frz S wr ∈ H):Ints w (Old w) v xs:=⟨h.1.arg hS hm,h.2⟩
theorem Ints.nil (w:World) (S:Nat→Prop):Ints w S (.slice none 0 0) []:=⟨SlC.nil w S 1,by simp⟩
theorem Ints.len {w:World} {S:Nat→Prop} {a:Option Addr} {n c:Nat} {xs:List Int} (h:Ints w S (.slice a n c) xs):n=xs.length:=by
 obtain⟨⟨_,a',c',hv,_⟩,_⟩:=h;simp only [Value.slice.injEq] at hv;exact hv.2.1
theorem Ints.le {w:World} {S:Nat→Prop} {v:Value} {xs:List Int} (h:Ints w S v xs):xs.length≤9223372036854775807:=h.1.le
end Go.Hp
namespace Go.Hp
open Go Go.RowKit
theorem nth_map {α β:Type} (f:α→β) (d:α) (xs:List α) (i:Nat):nth (f d) (xs.map f) i=f (nth d xs i):=by
 simp only [nth,List.getD_eq_getElem?_getD,List.getElem?_map];cases xs[i]? <;> rfl
theorem nth_out {α:Type} (d:α) (xs:List α) (i:Nat) (h:xs.length≤i):nth d xs i=d:=by simp [nth,List.getD_eq_getElem?_getD,List.getElem?_eq_none h]
theorem nth_mem {α:Type} (d:α) (xs:List α) (i:Nat) (h:i<xs.length):nth d xs i ∈ xs:=by rw [nth_eq d xs i h];exact List.getElem_mem h
theorem nth_append_left {α:Type} (d:α) (xs ys:List α) (i:Nat) (h:i<xs.length):nth d (xs++ys) i=nth d xs i:=by simp [nth,List.getD_eq_getElem?_getD,List.getElem?_append_left h]
theorem nth_append_right {α:Type} (d:α) (xs ys:List α) (i:Nat) (h:xs.length≤i):nth d (xs++ys) i=nth d ys (i - xs.length):=by simp [nth,List.getD_eq_getElem?_getD,List.getElem?_append_right h]
theorem nth_snoc {α:Type} (d:α) (xs:List α) (x:α):nth d (xs++[x]) xs.length=x:=by simp [nth,List.getD_eq_getElem?_getD]
theorem nth_ext {α:Type} (d:α) {xs ys:List α} (hl:xs.length=ys.length) (h:∀ i,i<xs.length→nth d xs i=nth d ys i):xs=ys:=by
 apply List.ext_getElem hl;intro i h1 h2;have:=h i h1
 rwa [nth_eq d xs i h1,nth_eq d ys i h2] at this
theorem take_snoc {α:Type} (d:α) (xs:List α) (k:Nat) (h:k<xs.length):xs.take (k+1)=xs.take k++[nth d xs k]:=by
 rw [List.take_succ_eq_append_getElem h,nth_eq d xs k h]
def iv (xs:List Int):List Value:=xs.map (Value.int .i64)
theorem iv_snoc (xs:List Int) (x:Int):iv xs++[.int .i64 x]=iv (xs++[x]):=by simp [iv]
theorem iv_length (xs:List Int):(iv xs).length=xs.length:=by simp [iv]
theorem iv_one (xs:List Int):∀ u ∈ iv xs,u.oneCell'=true:=by
 intro u hu;simp only [iv,List.mem_map] at hu;obtain⟨x,_,rfl⟩:=hu
 rfl
def zs (xs:List Nat):List Int:=xs.map (fun (n:Nat)=>(n:Int))
theorem zs_length (xs:List Nat):(zs xs).length=xs.length:=by simp [zs]
theorem nth_zs (xs:List Nat) (i:Nat):nth 0 (zs xs) i=((nth 0 xs i:Nat):Int):=nth_map (fun n:Nat=>(n:Int)) 0 xs i
def Nats (w:World) (S:Nat→Prop) (v:Value) (xs:List Nat):Prop:=Ints w S v (zs xs)
theorem Nats.len {w:World} {S:Nat→Prop} {a:Option Addr} {n c:Nat} {xs:List Nat} (h:Nats w S (.slice a n c) xs):n=xs.length:=by rw [← zs_length xs];exact Ints.len h
theorem Nats.weaken {w:World} {S T:Nat→Prop} {v:Value} {xs:List Nat} (h:Nats w S v xs) (hST:∀ k,S k→T k):Nats w T v xs:=Ints.weaken h hST
abbrev Tri:=Int × Int × Int
def enc3 (e:Tri):List Value:=[.int .i64 e.1,.int .i64 e.2.1,.int .i64 e.2.2]
def tv (xs:List Tri):List Value:=xs.flatMap enc3
theorem tv_snoc (xs:List Tri) (e:Tri):tv xs++[.int .i64 e.1,.int .i64 e.2.1,.int .i64 e.2.2]=tv (xs++[e]):=by simp [tv,enc3]
end Go.Hp
namespace Go.Hp
open Go
inductive Mv where
 | p (i:Nat)
 | r (i:Nat)
 | e (i:Nat)
 | m (i:Nat)
section
variable {P:Program} {ops:Array Oper} {Q:Exit→Act→World→Prop} {md:Region.Mode} {C:World→Prop} {M:List Nat}
def anc (md:Region.Mode) (ops:Array Oper):Nat→Nat→List Nat
 | 0,_=>[]
 | n+1,i =>
  let d:=match ops[i]? with
   | some o=>(o.after.toList.filter (Region.binds md)).map (fun (e:Edge)=>e.on)
   | none=>[]
  d++d.flatMap (anc md ops n)
def Closed (md:Region.Mode) (ops:Array Oper) (listed:Array Bool):Prop :=
 ∀ j oj,ops[j]? = some oj→listed.getD j false=true→∀ e ∈ oj.after,Region.binds md e=true→listed.getD e.on false=true
theorem Closed.anc {listed:Array Bool} (h:Closed md ops listed):∀ n i,listed.getD i false=true→∀ r ∈ anc md ops n i,listed.getD r false=true:=by
 intro n
 induction n with
 | zero=>intro i _ r hr;simp [Hp.anc] at hr
 | succ n ih =>
  intro i hi r hr;simp only [Hp.anc] at hr
  have hd:∀ x ∈ (match ops[i]? with|some o=>(o.after.toList.filter (Region.binds md)).map (fun (e:Edge)=>e.on)|none=>([]:List Nat)),listed.getD x false=true:=by
   intro x hx;cases ho:ops[i]? with
   | none=>simp [ho] at hx
   | some o =>
    simp only [ho,List.mem_map,List.mem_filter,Array.mem_toList_iff] at hx;obtain⟨e,⟨he,hb⟩,rfl⟩:=hx;exact h i o ho hi e he hb
  rcases List.mem_append.1 hr with hr|hr
  ·exact hd r hr
  ·obtain⟨x,hx,hrx⟩:=List.mem_flatMap.1 hr
   exact ih x (hd x hx) r hrx
theorem Closed.set {listed:Array Bool} {i:Nat} (h:Closed md ops listed) (hr:i ∈ Region.ready md ops listed):Closed md ops (listed.setIfInBounds i true):=by
 intro j oj hj hl e he hb
 by_cases hij:i=j
 ·subst hij
  obtain⟨_,oi,hoi,hall⟩:=mem_ready.1 hr;have:oj=oi:=Option.some.inj (hj.symm.trans hoi);subst this;exact getD_set_true (hall e he hb)
 ·rw [getD_set_ne false hij] at hl
  exact getD_set_true (h j oj hj hl e he hb)
def Keeps (M:List Nat) (C:World→Prop) (listed:Array Bool) (w:World):Prop:=(∀ m ∈ M,listed.getD m false=false)→C w
def wpG (P:Program) (md:Region.Mode) (ops:Array Oper) (Q:Exit→Act→World→Prop) (M:List Nat) (C:World→Prop):Nat→Array Bool→Act→World→Prop
 | 0,listed,a,w=>Region.ready md ops listed=[]∧Q .normal a w
 | n+1,listed,a,w =>
  (Region.ready md ops listed=[]→Q .normal a w) ∧
  ∀ i ∈ Region.ready md ops listed,wpOp P ops Q i (fun a' w'=>Keeps M C (listed.setIfInBounds i true) w'∧wpG P md ops Q M C n (listed.setIfInBounds i true) a' w') a w
theorem wpG.any:∀ (n:Nat) (listed:Array Bool) (a:Act) (w:World),wpG P md ops Q M C n listed a w→wpAny P md ops Q n listed a w
 | 0,_,_,_,h=>h
 | n+1,_,_,_,h=>⟨h.1,fun i hi=>wpOp_mono (fun a' w' h'=>wpG.any n _ a' w' h'.2) (h.2 i hi)⟩
theorem unlisted_of {listed:Array Bool} {i:Nat} (h:listed.getD i true=false):listed.getD i false=false:=by
 rcases Nat.lt_or_ge i listed.size with h'|h'
 ·simp [h'] at h ⊢;exact h
 ·simp [Array.getElem?_eq_none h'] at h
theorem wpG.first {i:Nat} {oi:Oper} {v:Value} {S:World→Prop} (hi:ops[i]? = some oi) (hsel:∀ (j:Nat) (o:Oper) cs b,ops[j]? = some o→o.op≠.select cs b)
 (hQ:∀ c a w,¬ Q (.panic c) a w) (hiM:i ∉ M)
 (hSG:∀ (listed:Array Bool) (w:World),Closed md ops listed→listed.getD i true=false→Keeps M C listed w→S w) :
 ∀ (n:Nat) (listed:Array Bool) (a:Act) (w:World),Closed md ops listed→Keeps M C listed w →
  (∀ j oj,ops[j]? = some oj→j≠i→listed.getD j true=false→(∀ e ∈ oj.after,Region.binds md e=true→e.on≠i)→oi.apart ops oj=true) →
  i ∈ Region.ready md ops listed→YieldsIf P ops S oi v a →
  wpG P md ops Q M C n (listed.setIfInBounds i true) (a.put oi.dst v) w→wpG P md ops Q M C (n+1) listed a w:=by
 have keepI:∀ (listed:Array Bool) (w:World),Keeps M C listed w→Keeps M C (listed.setIfInBounds i true) w:=by
  intro listed w hk hm;refine hk fun m hmM=>?_
  have:=hm m hmM
  by_cases him:i=m
  ·subst him;exact absurd hmM hiM
  ·rwa [getD_set_ne false him] at this
 intro n
 induction n with
 | zero =>
  intro listed a w hcl hk _ hr hy H;refine⟨fun h=>(by rw [h] at hr;cases hr),fun j hj=>?_⟩
  by_cases hji:j=i
  ·subst hji;exact hy.wpOp hi (hSG listed w hcl (mem_ready.1 hr).1 hk) ⟨keepI _ _ hk,H⟩
  ·have:=ready_mono hj hji
   rw [H.1] at this;cases this
 | succ n ih =>
  intro listed a w hcl hk hfree hr hy H;have hun:=(mem_ready.1 hr).1;refine⟨fun h=>(by rw [h] at hr;cases hr),fun j hj=>?_⟩
  by_cases hji:j=i
  ·subst hji;exact hy.wpOp hi (hSG listed w hcl hun hk) ⟨keepI _ _ hk,H⟩
  ·have h1:=H.2 j (ready_mono hj hji)
   obtain⟨hjun,oj,hoj,hall⟩:=mem_ready.1 hj
   have hnot:∀ e ∈ oj.after,Region.binds md e=true→e.on≠i:=fun e he hb heq=>by
    have h2:=hall e he hb;rw [heq,unlisted_of hun] at h2;cases h2
   have h2:=wpOp_putIf hoj (hfree j oj hoj hji hjun hnot) (fun cs b=>hsel i oi cs b hi) (fun cs b=>hsel j oj cs b hoj) (fun c a w h=>(hQ c _ w h).elim) hy h1;refine wpOp_mono (fun a' w' h3=>?_) h2;obtain⟨h3y,h3k,h3w⟩:=h3
   have hk':Keeps M C (listed.setIfInBounds j true) w':=by
    intro hm;refine h3k fun m hmM=>?_
    have him:i≠m:=fun e=>by subst e;exact hiM hmM
    by_cases hjm:j=m
    ·subst hjm
     have h4:=hm j hmM
     rcases Nat.lt_or_ge j listed.size with h'|h'
     ·simp [h'] at h4
     ·simp [Array.getElem?_eq_none h'] at hjun
    ·rw [getD_set_ne false hjm,getD_set_ne false him]
     have:=hm m hmM
     rwa [getD_set_ne false hjm] at this
   refine⟨hk',ih (listed.setIfInBounds j true) a' w' (hcl.set hj) hk' ?_ (ready_mono hr (Ne.symm hji)) h3y ?_⟩
   ·intro k ok hok hki hkun hno
    refine hfree k ok hok hki ?_ hno
    by_cases hjk:j=k
    ·subst hjk;exact hjun
    ·rwa [getD_set_ne true hjk] at hkun
   ·rw [Array.setIfInBounds_comm _ _ hji]
    exact h3w
def wpSched (P:Program) (ops:Array Oper) (Q:Exit→Act→World→Prop) (C:World→Prop):List Mv→Act→World→Prop
 | [],a,w=>Q .normal a w
 | .p i::s,a,w=>∃ o,ops[i]? = some o∧if Region.wanted o (yielded ops a.tmps) then ∃ v,(∀ w',(execOp a.eval o).run P w'=.ok (.value v) w')∧wpSched P ops Q C s (a.put o.dst v) w else wpSched P ops Q C s (a.put o.dst undef) w
 | .r i::s,a,w=>∃ o,ops[i]? = some o∧if Region.wanted o (yielded ops a.tmps) then ∃ v,(∀ w',C w'→(execOp a.eval o).run P w'=.ok (.value v) w')∧wpSched P ops Q C s (a.put o.dst v) w else wpSched P ops Q C s (a.put o.dst undef) w
 | .e i::s,a,w=>wpOp P ops Q i (fun a' w'=>C w'∧wpSched P ops Q C s a' w') a w
 | .m i::s,a,w=>wpOp P ops Q i (fun a' w'=>wpSched P ops Q C s a' w') a w
def schedOk (md:Region.Mode) (ops:Array Oper) (M:List Nat):List Mv→Array Bool→Bool
 | [],listed=>(Region.ready md ops listed).isEmpty
 | .p i::s,listed=>(Region.ready md ops listed).contains i && Region.free md ops listed i && !M.contains i && schedOk md ops M s (listed.setIfInBounds i true)
 | .r i::s,listed=>(Region.ready md ops listed).contains i && Region.free md ops listed i && !M.contains i && (M.all fun m=>(anc md ops ops.size m).contains i) && schedOk md ops M s (listed.setIfInBounds i true)
 | .e i::s,listed=>(Region.ready md ops listed == [i]) && schedOk md ops M s (listed.setIfInBounds i true)
 | .m i::s,listed=>(Region.ready md ops listed == [i]) && M.contains i && decide (i<listed.size) && schedOk md ops M s (listed.setIfInBounds i true)
theorem wpG_of_sched (hsel:Region.noSelect ops=true) (hQ:∀ c a w,¬ Q (.panic c) a w):∀ (s:List Mv) (listed:Array Bool) (a:Act) (w:World),schedOk md ops M s listed=true→Closed md ops listed→Keeps M C listed w →
 wpSched P ops Q C s a w→wpG P md ops Q M C s.length listed a w:=by
 intro s
 induction s with
 | nil =>
  intro listed a w hok _ _ h;simp only [schedOk,List.isEmpty_iff] at hok;exact⟨hok,h⟩
 | cons m s ih =>
  intro listed a w hok hcl hk h;cases m with
  | p i =>
   simp only [schedOk,Bool.and_eq_true,Bool.not_eq_true'] at hok;obtain⟨⟨⟨h1,h2⟩,h3⟩,h4⟩:=hok;have hiM:i ∉ M:=by simpa using h3
   have hr:i ∈ Region.ready md ops listed:=by simpa using h1
   obtain⟨o,ho,h⟩:=h
   have hk':Keeps M C (listed.setIfInBounds i true) w:=by
    intro hm;refine hk fun m hmM=>?_
    have him:i≠m:=fun e=>by subst e;exact hiM hmM
    have:=hm m hmM
    rwa [getD_set_ne false him] at this
   split at h
   ·rename_i hw
    obtain⟨v,hv,h⟩:=h;exact wpG.first (S:=fun _=>True) ho (Region.noSelect_spec hsel) hQ hiM (fun _ _ _ _ _=>trivial) s.length listed a w hcl hk (Region.free_spec ho h2) hr (.inl ⟨hw,fun w' _=>hv w'⟩) (ih _ _ _ h4 (hcl.set hr) hk' h)
   ·rename_i hw
    exact wpG.first (S:=fun _=>True) ho (Region.noSelect_spec hsel) hQ hiM (fun _ _ _ _ _=>trivial) s.length listed a w hcl hk (Region.free_spec ho h2) hr (.inr ⟨by simpa using hw,rfl⟩) (ih _ _ _ h4 (hcl.set hr) hk' h)
  | r i =>
   simp only [schedOk,Bool.and_eq_true,Bool.not_eq_true'] at hok;obtain⟨⟨⟨⟨h1,h2⟩,h3⟩,h5⟩,h4⟩:=hok;have hiM:i ∉ M:=by simpa using h3
   have hr:i ∈ Region.ready md ops listed:=by simpa using h1
   obtain⟨o,ho,h⟩:=h
   have hk':Keeps M C (listed.setIfInBounds i true) w:=by
    intro hm;refine hk fun m hmM=>?_
    have him:i≠m:=fun e=>by subst e;exact hiM hmM
    have:=hm m hmM
    rwa [getD_set_ne false him] at this
   have hSG:∀ (listed:Array Bool) (w:World),Closed md ops listed→listed.getD i true=false→Keeps M C listed w→C w:=by
    intro l' w' hc hu hkk;refine hkk fun m hmM=>?_
    cases hl:l'.getD m false with
    | false=>rfl
    | true =>
     have h6:=List.all_eq_true.1 h5 m hmM;have h7:i ∈ anc md ops ops.size m:=by simpa using h6
     have h8:=hc.anc _ m hl i h7;rw [unlisted_of hu] at h8;cases h8
   split at h
   ·rename_i hw
    obtain⟨v,hv,h⟩:=h;exact wpG.first (S:=C) ho (Region.noSelect_spec hsel) hQ hiM hSG s.length listed a w hcl hk (Region.free_spec ho h2) hr (.inl ⟨hw,hv⟩) (ih _ _ _ h4 (hcl.set hr) hk' h)
   ·rename_i hw
    exact wpG.first (S:=C) ho (Region.noSelect_spec hsel) hQ hiM hSG s.length listed a w hcl hk (Region.free_spec ho h2) hr (.inr ⟨by simpa using hw,rfl⟩) (ih _ _ _ h4 (hcl.set hr) hk' h)
  | e i =>
   simp only [schedOk,Bool.and_eq_true,beq_iff_eq] at hok;obtain⟨h1,h4⟩:=hok;refine⟨fun h0=>(by rw [h1] at h0;cases h0),fun j hj=>?_⟩;have hr:=hj;rw [h1] at hj;simp only [List.mem_singleton] at hj;subst hj;exact wpOp_mono (fun a' w' h'=>⟨fun _=>h'.1,ih _ _ _ h4 (hcl.set hr) (fun _=>h'.1) h'.2⟩) h
  | m i =>
   simp only [schedOk,Bool.and_eq_true,beq_iff_eq,decide_eq_true_eq] at hok;obtain⟨⟨⟨h1,h3⟩,hlt⟩,h4⟩:=hok;have hiM:i ∈ M:=by simpa using h3
   refine⟨fun h0=>(by rw [h1] at h0;cases h0),fun j hj=>?_⟩;have hr:=hj;rw [h1] at hj;simp only [List.mem_singleton] at hj;subst hj
   have hno:∀ w',Keeps M C (listed.setIfInBounds j true) w':=fun w' hm=>by
    have:=hm j hiM;simp [hlt] at this
   exact wpOp_mono (fun a' w' h'=>⟨hno w',ih _ _ _ h4 (hcl.set hr) (hno w') h'⟩) h
def NoPanic (Q:Exit→Act→World→Prop):Exit→Act→World→Prop
 | .panic _,_,_=>False
 | e,a,w=>Q e a w
theorem closed_start (n:Nat):Closed md ops (Array.replicate n false):=by
 intro j oj _ hl
 rcases Nat.lt_or_ge j n with h|h
 ·simp [h] at hl
 ·simp [h] at hl
theorem wp_region_sched {id:Nat} {a:Act} {w:World} {l:List Oper} (s:List Mv) (M:List Nat) (C:World→Prop) (hm:P.follows .mixedOrders=true)
 (hok:(Region.noSelect l.toArray && (s.length == l.length) && schedOk .any l.toArray M s (Array.replicate l.length false))=true) (hC:C w.drew)
 (h:∀ w',C w'→wpSched P l.toArray (NoPanic Q) C s a w'):(Code.region id l.toArray true).wp P Q a w:=by
 simp only [Bool.and_eq_true,beq_iff_eq] at hok;obtain⟨⟨h1,h2⟩,h3⟩:=hok;refine wp_mono (Q:=NoPanic Q) (wp_region_any hm ?_) (fun e a w hq=>by cases e <;> first|exact hq|exact hq.elim);have:=wpG_of_sched (P:=P) (Q:=NoPanic Q) (md:=.any) (M:=M) (C:=C) h1 (fun c a w hq=>hq) s (Array.replicate l.length false) a w.drew h3 (closed_start _) (fun _=>hC) (h _ hC);rw [h2] at this
 simpa using this.any
end
section
variable {P:Program} {ops:Array Oper} {Q:Exit→Act→World→Prop} {C:World→Prop} {s:List Mv} {a:Act} {w:World} {i:Nat} {o:Oper}
theorem sched_read_g (ho:ops[i]? = some o) (hw:Region.wanted o (yielded ops a.tmps)=true) {v:Value} (hv:∀ w',C w'→(execOp a.eval o).run P w'=.ok (.value v) w') (h:wpSched P ops Q C s (a.put o.dst v) w):wpSched P ops Q C (.r i::s) a w :=
 ⟨o,ho,by rw [if_pos hw];exact⟨v,hv,h⟩⟩
theorem sched_read_skip (ho:ops[i]? = some o) (hw:Region.wanted o (yielded ops a.tmps)=false) (h:wpSched P ops Q C s (a.put o.dst undef) w):wpSched P ops Q C (.r i::s) a w :=
 ⟨o,ho,by rw [hw];exact h⟩
theorem sched_pure_skip (ho:ops[i]? = some o) (hw:Region.wanted o (yielded ops a.tmps)=false) (h:wpSched P ops Q C s (a.put o.dst undef) w):wpSched P ops Q C (.p i::s) a w :=
 ⟨o,ho,by rw [hw];exact h⟩
theorem sched_pure_v (ho:ops[i]? = some o) (hw:Region.wanted o (yielded ops a.tmps)=true) {v:Value} (hv:∀ w',(execOp a.eval o).run P w'=.ok (.value v) w') (h:wpSched P ops Q C s (a.put o.dst v) w):wpSched P ops Q C (.p i::s) a w :=
 ⟨o,ho,by rw [if_pos hw];exact⟨v,hv,h⟩⟩
theorem wpOp_of_list {K:Act→World→Prop} (ho:ops[i]? = some o) (h:wpList P ops (Exit.then K Q) [o] a w) (hQ:∀ c a w,¬ Q (.panic c) a w):wpOp P ops Q i K a w:=by
 unfold wpOp;simp only [ho];simp only [wpList] at h
 split
 ·rename_i hw
  rw [if_pos hw] at h
  rcases h with h|h
  ·left
   unfold Oper.wp at *;generalize (execOp a.eval o).run P w=r at *;cases r with
   | ok n w' =>
    cases n <;> simp only [Oper.upon] at h ⊢ <;> exact h
   | halt x w'=>cases x <;> simp only [Oper.upon] at h ⊢ <;> exact h
  ·exact .inr h
 ·rename_i hw
  rw [if_neg hw] at h;exact h
theorem sched_ext (ho:ops[i]? = some o) (hQ:∀ c a w,¬ Q (.panic c) a w) (h:wpList P ops (Exit.then (fun a' w'=>C w'∧wpSched P ops Q C s a' w') Q) [o] a w):wpSched P ops Q C (.e i::s) a w:=wpOp_of_list ho h hQ
theorem sched_mut (ho:ops[i]? = some o) (hQ:∀ c a w,¬ Q (.panic c) a w) (h:wpList P ops (Exit.then (fun a' w'=>wpSched P ops Q C s a' w') Q) [o] a w):wpSched P ops Q C (.m i::s) a w:=wpOp_of_list ho h hQ
theorem sched_nil (h:Q .normal a w):wpSched P ops Q C [] a w:=h
end
end Go.Hp
namespace Go.Hp
open Go
section
variable {P:Program} {ops:Array Oper} {Q:Exit→Act→World→Prop} {rest:List Oper} {o:Oper} {a:Act} {w w0:World} {H:List Chunk} {K:Act→Prop} {s:List Mv} {i:Nat}
structure StpAny (P:Program) (o:Oper) (a:Act) (K:Act→Prop):Prop where
 ex:∃ v,(∀ w',(execOp a.eval o).run P w'=.ok (.value v) w')∧K (a.put o.dst v)
structure Stp (P:Program) (w0:World) (H:List Chunk) (o:Oper) (a:Act) (K:Act→Prop):Prop where
 ex:∃ v,(∀ w',Heap w0 w' H→(execOp a.eval o).run P w'=.ok (.value v) w')∧K (a.put o.dst v)
theorem wpList_want (hg:Region.wanted o (yielded ops a.tmps)=true) (h:∀ K:Act→World→Prop,(∀ a w,wpList P ops Q rest a w→K a w)→o.wp P a w K Q):wpList P ops Q (o::rest) a w :=
 wpList_step fun K hK=>by rw [if_pos hg];exact h K hK
theorem seq_run {v:Value} (hg:Region.wanted o (yielded ops a.tmps)=true) (hr:(execOp a.eval o).run P w=.ok (.value v) w) (hk:wpList P ops Q rest (a.put o.dst v) w):wpList P ops Q (o::rest) a w :=
 wpList_want hg fun K hK=>by unfold Oper.wp;rw [hr];exact hK _ _ hk
theorem seq_any (hg:Region.wanted o (yielded ops a.tmps)=true) (h:StpAny P o a (fun a'=>wpList P ops Q rest a' w)):wpList P ops Q (o::rest) a w :=
 let ⟨_,hr,hk⟩:=h.ex
 seq_run hg (hr w) hk
theorem seq_of (hS:Heap w0 w H) (hg:Region.wanted o (yielded ops a.tmps)=true) (h:Stp P w0 H o a (fun a'=>wpList P ops Q rest a' w)):wpList P ops Q (o::rest) a w :=
 let ⟨_,hr,hk⟩:=h.ex
 seq_run hg (hr w hS) hk
theorem sched_any {C:World→Prop} (ho:ops[i]? = some o) (hw:Region.wanted o (yielded ops a.tmps)=true) (h:StpAny P o a (fun a'=>wpSched P ops Q C s a' w)):wpSched P ops Q C (.p i::s) a w :=
 let ⟨_,hr,hk⟩:=h.ex
 sched_pure_v ho hw hr hk
theorem sched_of (ho:ops[i]? = some o) (hw:Region.wanted o (yielded ops a.tmps)=true) (h:Stp P w0 H o a (fun a'=>wpSched P ops Q (fun w=>Heap w0 w H) s a' w)):wpSched P ops Q (fun w=>Heap w0 w H) (.r i::s) a w :=
 let ⟨_,hr,hk⟩:=h.ex
 sched_read_g ho hw hr hk
variable {dst:Option Tmp} {ty T E:TypeId} {pos:String} {aft:Array Edge} {g:Option (Nat × Bool)} {x ix:Operand} {wr:World} {S:Nat→Prop} {k n:Nat} {v:Value} {cs:List Value}
theorem any_index (hu:P.underlying T=some (.slice E)) (hz:∀ w,(sizeOf E).run P w=.ok k w) {i:Int} (hx:a.eval x=v) (hi:a.eval ix=.int .i64 i) (hv:SlC wr S k v n cs) (hlo:0≤i) (hhi:i<n) (hk0:0<k)
 (hk:∀ b off,CellsAt wr S ⟨b,off,none⟩ ((cs.drop (i.toNat*k)).take k)→K (a.put dst (.pointer (some ⟨b,off,none⟩)))):StpAny P ⟨dst,.indexAddr T x ix,ty,pos,aft,g⟩ a K:=by
 obtain⟨h1,ad,cap,rfl,h2,h3,h4,h5⟩:=hv;cases ad with
 | none=>have:=(h4 rfl).1;omega
 | some ad =>
  obtain⟨b,off,sp⟩:=ad;have hc:=h5 _ rfl;have hlt:i.toNat<n:=by omega
  have hle:i.toNat*k+k≤cs.length:=by
   rw [h1]
   calc i.toNat*k+k=(i.toNat+1)*k:=by rw [Nat.add_mul,Nat.one_mul]
    _≤n*k:=Nat.mul_le_mul_right _ hlt
  have hsp:sp=none:=hc.spot (by intro e;subst e;simp at hle;omega);subst hsp;have hadd:(⟨b,off,none⟩:Addr).add (i.toNat*k)=⟨b,off+i.toNat*k,none⟩:=by unfold Addr.add;split <;> simp_all
  refine⟨⟨.pointer (some ⟨b,off+i.toNat*k,none⟩),fun w'=>?_,hk b _ ⟨fun _=>rfl,fun _=>hc.inS (by intro e;subst e;simp at hle;omega),fun j u hu=>?_⟩⟩⟩
  ·generalize a.eval=ρ at hx hi
   simp [execOp,hx,hi,Instr.indexAt,asIntOf,go_sem,run_underlying hu,hlo,hhi,hz,hadd]
  ·rw [List.getElem?_take] at hu
   split at hu
   ·rw [List.getElem?_drop] at hu
    rw [show off+i.toNat*k+j=off+(i.toNat*k+j) by omega];exact hc.cell _ _ hu
   ·cases hu
theorem eval_addr {b off j:Nat}:(⟨b,off,none⟩:Addr).add j=⟨b,off+j,none⟩:=by unfold Addr.add;split <;> simp_all
theorem stp_load {b off:Nat} {u:Value} (hna:∀ w,(isAgg T).run P w=.ok false w) (hx:a.eval x=.pointer (some ⟨b,off,none⟩)) (hc:CellsAt wr S ⟨b,off,none⟩ cs) (hm:Chunk.frz S wr ∈ H) (h0:cs[0]? = some u)
 (hk:K (a.put dst u)):Stp P w0 H ⟨dst,.load T x,ty,pos,aft,g⟩ a K:=by
 refine⟨⟨u,fun w' hS=>?_,hk⟩⟩;have h1:w'.cell? ⟨b,off,none⟩=some u:=by simpa using (hc.later hS hm).cell 0 u h0
 generalize a.eval=ρ at hx;simp [execOp,hx,Instr.loadAt,Instr.sureAddr,loadVar,hna,go_sem,h1]
theorem stp_loadj {b off:Nat} {u:Value} (j:Nat) (hna:∀ w,(isAgg T).run P w=.ok false w) (hx:a.eval x=.pointer (some ⟨b,off+j,none⟩)) (hc:CellsAt wr S ⟨b,off,none⟩ cs) (hm:Chunk.frz S wr ∈ H) (h0:cs[j]? = some u)
 (hk:K (a.put dst u)):Stp P w0 H ⟨dst,.load T x,ty,pos,aft,g⟩ a K:=by
 refine⟨⟨u,fun w' hS=>?_,hk⟩⟩;have h1:w'.cell? ⟨b,off+j,none⟩=some u:=(hc.later hS hm).cell j u h0;generalize a.eval=ρ at hx;simp [execOp,hx,Instr.loadAt,Instr.sureAddr,loadVar,hna,go_sem,h1]
theorem run_loadVar_agg {ad:Addr} {w':World} {l:Array Value} (hag:∀ w,(isAgg T).run P w=.ok true w) (hz:∀ w,(sizeOf T).run P w=.ok k w) (h:(loadCells ad k).run P w'=.ok l w'):(loadVar T ad).run P w'=.ok (.agg l) w':=by
 unfold loadVar;simp only [Sem.run_bind,hag,Result.andThen_ok,if_true,hz,h,Sem.run_pure]
theorem stp_loadk {b off:Nat} (hag:∀ w,(isAgg T).run P w=.ok true w) (hz:∀ w,(sizeOf T).run P w=.ok k w) (hx:a.eval x=.pointer (some ⟨b,off,none⟩)) (hc:CellsAt wr S ⟨b,off,none⟩ cs) (hm:Chunk.frz S wr ∈ H) (h0:cs.length=k)
 (hk:K (a.put dst (.agg cs.toArray))):Stp P w0 H ⟨dst,.load T x,ty,pos,aft,g⟩ a K:=by
 refine⟨⟨_,fun w' hS=>?_,hk⟩⟩;subst h0;have h1:=run_loadCells_list (P:=P) w' ⟨b,off,none⟩ cs (fun j u hu=>by rw [eval_addr];exact (hc.later hS hm).cell j u hu);generalize a.eval=ρ at hx;simp only [execOp,hx,Instr.loadAt,Instr.sureAddr,Sem.run_bind,Sem.run_pure,Result.andThen_ok,run_loadVar_agg hag hz h1]
theorem stp_load_blk {b off:Nat} {arr:Array Value} {Tb:TypeId} {fr:Nat × Nat} {u:Value} (j:Nat) (hna:∀ w,(isAgg T).run P w=.ok false w) (hx:a.eval x=.pointer (some ⟨b,off,none⟩)) (hj:H[j]? = some (Chunk.blk b (.cells arr Tb fr))) (h0:arr[off]? = some u)
 (hk:K (a.put dst u)):Stp P w0 H ⟨dst,.load T x,ty,pos,aft,g⟩ a K:=by
 refine⟨⟨u,fun w' hS=>?_,hk⟩⟩;have h1:w'.cell? ⟨b,off,none⟩=some u:=by rw [cell_of_row w' b off arr Tb fr (hS.blk (List.mem_of_getElem? hj))];exact h0
 generalize a.eval=ρ at hx;simp [execOp,hx,Instr.loadAt,Instr.sureAddr,loadVar,hna,go_sem,h1]
theorem stp_loadk_blk {b off:Nat} {arr:Array Value} {Tb:TypeId} {fr:Nat × Nat} (j:Nat) (hag:∀ w,(isAgg T).run P w=.ok true w) (hz:∀ w,(sizeOf T).run P w=.ok k w) (hx:a.eval x=.pointer (some ⟨b,off,none⟩)) (hj:H[j]? = some (Chunk.blk b (.cells arr Tb fr))) (h0:off+k≤arr.size)
 (hk:K (a.put dst (.agg ((arr.toList.drop off).take k).toArray))):Stp P w0 H ⟨dst,.load T x,ty,pos,aft,g⟩ a K:=by
 refine⟨⟨_,fun w' hS=>?_,hk⟩⟩
 have h1:=run_loadCells_list (P:=P) w' ⟨b,off,none⟩ ((arr.toList.drop off).take k) (fun j u hu=>by
  rw [eval_addr,cell_of_row w' b (off+j) arr Tb fr (hS.blk (List.mem_of_getElem? hj))];rw [List.getElem?_take] at hu
  split at hu
  ·rw [List.getElem?_drop] at hu;simpa using hu
  ·cases hu)
 have hl:((arr.toList.drop off).take k).length=k:=by simp;omega
 rw [hl] at h1;generalize a.eval=ρ at hx;simp only [execOp,hx,Instr.loadAt,Instr.sureAddr,Sem.run_bind,Sem.run_pure,Result.andThen_ok,run_loadVar_agg hag hz h1]
theorem stp_load_all {b:Nat} {arr:Array Value} {Tb:TypeId} {fr:Nat × Nat} (j:Nat) (hag:∀ w,(isAgg T).run P w=.ok true w) (hz:∀ w,(sizeOf T).run P w=.ok k w) (hx:a.eval x=.pointer (some ⟨b,0,none⟩)) (hj:H[j]? = some (Chunk.blk b (.cells arr Tb fr))) (hsz:arr.size=k)
 (hk:K (a.put dst (.agg arr))):Stp P w0 H ⟨dst,.load T x,ty,pos,aft,g⟩ a K :=
 stp_loadk_blk (k:=k) j hag hz hx hj (by omega) (by rw [List.drop_zero,← hsz,show arr.size=arr.toList.length by simp,List.take_length];exact hk)
theorem run_loadVar_blk {b:Nat} {arr:Array Value} {Tb:TypeId} {fr:Nat × Nat} (j:Nat) (hS:Heap w0 w H) (hj:H[j]? = some (Chunk.blk b (.cells arr Tb fr))) (hag:∀ w,(isAgg T).run P w=.ok true w) (hz:∀ w,(sizeOf T).run P w=.ok k w) (hsz:arr.size=k):(loadVar T ⟨b,0,none⟩).run P w=.ok (.agg arr) w:=by
 have h1:=run_loadCells_list (P:=P) w ⟨b,0,none⟩ arr.toList (fun j u hu=>by
  rw [eval_addr,cell_of_row w b (0+j) arr Tb fr (hS.blk (List.mem_of_getElem? hj))]
  simpa using hu)
 rw [Array.length_toList,hsz] at h1
 simpa using run_loadVar_agg hag hz h1
theorem seq_heap {v:Value} {w':World} (hg:Region.wanted o (yielded ops a.tmps)=true) (hr:(execOp a.eval o).run P w=.ok (.value v) w') (hk:wpList P ops Q rest (a.put o.dst v) w'):wpList P ops Q (o::rest) a w :=
 wpList_want hg fun K hK=>by unfold Oper.wp;rw [hr];exact hK _ _ hk
theorem seq_skip {w':World} (hg:Region.wanted o (yielded ops a.tmps)=true) (hr:(execOp a.eval o).run P w=.ok .skip w') (hk:wpList P ops Q rest (a.put o.dst undef) w'):wpList P ops Q (o::rest) a w :=
 wpList_want hg fun K hK=>by unfold Oper.wp;rw [hr];exact hK _ _ hk
theorem seq_alloc {z:Value} (hS:Heap w0 w H) (hz:∀ w,(zeroValue T).run P w=.ok z w)
 (hk:∀ b w',Heap w0 w' (H++[.blk b (.cells z.cells T (0,0))])→wpList P ops Q rest (a.put dst (.pointer (some ⟨b,0,none⟩))) w'):wpList P ops Q (⟨dst,.alloc T,ty,pos,aft,none⟩::rest) a w:=by
 refine seq_heap (w':=w.alloc (.cells z.cells T (0,0))) (v:=.pointer (some ⟨w.heap.size,0,none⟩)) rfl ?_ (hk _ _ (hS.alloc _));simp [execOp,Instr.alloc,newVar,newRow,go_sem,hz]
theorem seq_box {v:Value} (hS:Heap w0 w H) (hx:a.eval x=v)
 (hk:∀ b w',Heap w0 w' (H++[.blk b (.cells v.cells T (0,0))])→wpList P ops Q rest (a.put dst (.pointer (some ⟨b,0,none⟩))) w'):wpList P ops Q (⟨dst,.box T x,ty,pos,aft,none⟩::rest) a w:=by
 refine seq_heap (w':=w.alloc (.cells v.cells T (0,0))) (v:=.pointer (some ⟨w.heap.size,0,none⟩)) rfl ?_ (hk _ _ (hS.alloc _));generalize a.eval=ρ at hx;simp [execOp,Instr.box,newVar,newRow,go_sem,hx]
theorem seq_buildSlice {E:TypeId} {parts:Array (Nat × Operand)} {z:Value} {len:Nat} {cells:Array Value} (hS:Heap w0 w H) (hu:P.underlying T=some (.slice E)) (hsz:∀ w,(sizeOf E).run P w=.ok k w) (hz:∀ w,(zeroValue E).run P w=.ok z w)
 (hl:len*k≤16777216) (h0:0<len*k) (hf:Instr.fill (fun i=>some (i*k,k)) ((Array.range (len*k)).map (z.cells[· % z.cells.size]!)) (parts.toList.map fun p=>(p.1,a.eval p.2))=some cells)
 (hk:∀ b w',Heap w0 w' (H++[.blk b (.cells cells E (0,0))])→wpList P ops Q rest (a.put dst (.slice (some ⟨b,0,none⟩) len len)) w'):wpList P ops Q (⟨dst,.buildSlice T len parts,ty,pos,aft,none⟩::rest) a w:=by
 refine seq_heap (w':=w.alloc (.cells cells E (0,0))) (v:=.slice (some ⟨w.heap.size,0,none⟩) len len) rfl ?_ (hk _ _ (hS.alloc _));generalize a.eval=ρ at hf;have h1:¬ (16777216<len*k):=by omega
 have h2:¬ (len*k=0):=by omega
 have h3:Array.toList (Array.map (fun x:Nat × Operand=>(x.1,ρ x.2)) parts)=parts.toList.map fun p=>(p.1,ρ p.2):=by simp
 simp only [execOp,Instr.buildSlice,Sem.run_bind,run_underlying hu,hsz,Result.andThen_ok,gt_iff_lt,Nat.reducePow,h1,if_false,h2,hz,Sem.run_pure,h3,hf]
 rfl
theorem Heap.addNil (hS:Heap w0 w H) (E:TypeId) (k:Nat):Heap w0 w (H++[.row (.slice none 0 0) E k 0 []]):=by
 refine⟨hS.os,hS.tape,hS.output,hS.drawn,hS.size,?_,pairwise_snoc hS.apart fun c _ b _ hn=>by simp [Chunk.has,Value.ownBlock] at hn⟩;intro c hc
 rcases List.mem_append.1 hc with hc|hc
 ·exact hS.ok c hc
 ·simp at hc;subst hc
  exact World.ownsRow_nil w 0 E k
theorem run_append_row {t ty e:TypeId} {i:TypeInfo} {z:Value} {size bytes:Nat} (ht:P.underlying t=some (.slice e)) (hi:P.info? e=some i) (hz:i.zero=some z)
 (hsize:i.size=size) (hby:i.bytes=bytes) (hzs:z.cells.size=size) (hsz:0<size)
 {v x:Value} {n m:Nat} {xs news:List Value} {S:Nat→Prop} (hown:w.ownsRow 0 e size v n xs) (hx:SlC w S size x m news) (h1:∀ u ∈ news,u.oneCell'=true) (hbytes:(n+m)*bytes≤140737488355328) (h63:n+m≤maxLen) :
 ∃ ad cap w',(Builtin.append_ #[t,t] ty #[v,x]).run P w=.ok (.slice ad (n+m) cap) w'∧w'.ownsRow 0 e size (.slice ad (n+m) cap) (n+m) (xs++news)∧w.grownBy w' v.ownBlock∧w.drawn≤w'.drawn ∧
  (∀ b,(Value.slice ad (n+m) cap).ownBlock=some b→v.ownBlock=some b∨w.heap.size≤b):=by
 obtain⟨hl,adx,capx,rfl,hmc,hcm',hnone,hcells⟩:=hx
 have shape:∀ (v':Value) (w':World),w'.ownsRow 0 e size v' (n+m) (xs++news)→∃ ad cap,v'=.slice ad (n+m) cap:=by
  intro v' w' h
  rcases h.2 with ⟨rfl,h0⟩|⟨g,cap,cur,rfl,_⟩
  ·exact⟨none,0,by rw [h0]⟩
  ·exact⟨_,cap,rfl⟩
 cases adx with
 | none =>
  obtain⟨rfl,rfl⟩:=hnone rfl;have hn:news=[]:=List.eq_nil_of_length_eq_zero (by simpa using hl);subst hn;have hr:=run_append_owned_none (P:=P) w 0 t ty e i size ht hi v n xs hown;have hown':w.ownsRow 0 e size v (n+0) (xs++[]):=by simpa using hown
  obtain⟨ad,cap,hv⟩:=shape v w hown';subst hv;exact⟨ad,cap,w,hr,hown',World.grownBy.refl w _,Nat.le_refl _,fun b hb=>.inl hb⟩
 | some ad =>
  obtain⟨bx,ox,sx⟩:=ad;have hc:=hcells _ rfl
  have hnews:∀ j u,news[j]? = some u→w.cell? ((⟨bx,ox,sx⟩:Addr).add j)=some u:=fun j u hu=>by
   have hsx:sx=none:=hc.spot (by intro e;subst e;simp at hu);subst hsx;rw [eval_addr];exact hc.cell j u hu
  obtain⟨v',w',hr,ho,hgr,hnil⟩:=run_append_own (P:=P) w 0 t ty e i z size bytes ht hi hz hsize hby hzs hsz v n xs hown _ m capx news hl hnews h1 h63 hbytes (Nat.zero_le _);obtain⟨ad',cap',hv'⟩:=shape v' w' ho;subst hv'
  have hdr:w.drawn≤w'.drawn:=by
   rcases hown.2 with ⟨rfl,rfl⟩|⟨g,cap,cur,rfl,hbg,hg,hnc,hcm,hcs,htake⟩
   ·have hxs:xs=[]:=List.eq_nil_of_length_eq_zero (by simpa using hown.1)
    by_cases hm0:m=0
    ·subst hm0
     have hn0:news=[]:=List.eq_nil_of_length_eq_zero (by simpa using hl);have hf:=run_firstCells_some (P:=P) w size 0 ⟨bx,ox,sx⟩ 0 capx [] (by simp) (by simp)
     have hr2:(Builtin.append_ #[t,t] ty #[.slice none 0 0,.slice (some ⟨bx,ox,sx⟩) 0 capx]).run P w=.ok (.slice none 0 0) w:=by
      subst hsize;simp [Builtin.append_,run_underlying ht,sizeOf,typeInfo,hi,Builtin.lenOf,hf]
     rw [hr] at hr2;simp only [Result.ok.injEq] at hr2;rw [hr2.2];exact Nat.le_refl _
    ·subst hsize
     subst hby;have hr2:=run_append_nil (P:=P) w t ty e i z ht hi hz ⟨bx,ox,sx⟩ m capx news hl hnews (by omega) (by simp only [maxLen] at h63;omega) (by rw [Nat.zero_add] at hbytes;omega);rw [hr] at hr2;simp only [Result.ok.injEq] at hr2;rw [hr2.2];exact Nat.le_succ _
   ·by_cases hroom:n+m≤cap
    ·subst hsize
     have hr2:=run_append_room (P:=P) w t ty e i ht hi g n cap cur hg ⟨bx,ox,sx⟩ m capx news hl hnews h1 hroom (by rw [hl,hcs,← Nat.add_mul];exact Nat.mul_le_mul_right _ hroom);rw [hr] at hr2;simp only [Result.ok.injEq] at hr2;rw [hr2.2];exact Nat.le_refl _
    ·subst hsize
     subst hby;have holds:∀ j u,xs[j]? = some u→w.cell? ((⟨g,0,none⟩:Addr).add j)=some u:=hown.cells (g:=g) rfl;have hr2:=run_append_grow (P:=P) w t ty e i z ht hi hz ⟨g,0,none⟩ n cap xs hown.1 holds _ m capx news hl hnews (by omega) (by simp only [maxLen] at h63;omega) (growslice_fits (by omega) hbytes);rw [hr] at hr2;simp only [Result.ok.injEq] at hr2;rw [hr2.2];exact Nat.le_succ _
  refine⟨ad',cap',w',hr,ho,hgr,hdr,fun b hb=>?_⟩
  rcases hown.2 with ⟨rfl,rfl⟩|⟨g,cap,cur,rfl,hbg,hg,hnc,hcm,hcs,htake⟩
  ·right
   have hown2:w.ownsRow w.heap.size e size (.slice none 0 0) 0 xs:=⟨hown.1,.inl ⟨rfl,rfl⟩⟩;obtain⟨v2,w2,hr2,ho2,_,_⟩:=run_append_own (P:=P) w w.heap.size t ty e i z size bytes ht hi hz hsize hby hzs hsz _ 0 xs hown2 _ m capx news hl hnews h1 h63 hbytes (Nat.le_refl _);rw [hr] at hr2;simp only [Result.ok.injEq] at hr2;obtain⟨rfl,rfl⟩:=hr2;exact (World.ownsRow.lt ho2 b hb).1
  ·by_cases hroom:n+m≤cap
   ·obtain⟨w2,hr2,ho2,_⟩:=run_append_fits (P:=P) w 0 t ty e i size ht hi hsize g n cap xs hown _ m capx news hl hnews h1 hroom
    rw [hr] at hr2;simp only [Result.ok.injEq] at hr2;obtain⟨h3,rfl⟩:=hr2;rw [h3] at hb;exact .inl hb
   ·right
    subst hsize;subst hby;have holds:∀ j u,xs[j]? = some u→w.cell? ((⟨g,0,none⟩:Addr).add j)=some u:=hown.cells (g:=g) rfl;have hr2:=run_append_grow (P:=P) w t ty e i z ht hi hz ⟨g,0,none⟩ n cap xs hown.1 holds _ m capx news hl hnews (by omega) (by simp only [maxLen] at h63;omega) (growslice_fits (by omega) hbytes);rw [hr] at hr2;simp only [Result.ok.injEq] at hr2;rw [hr2.1] at hb;simp only [Value.ownBlock,Option.some.injEq] at hb;omega
theorem run_append_op {ρ:Operand→Value} {t:TypeId} {y:Operand} (o:Oper) (ho:o.op=.call ⟨.builtin .append,#[x,y],#[t,t]⟩) {r:Value} {w':World} (h:(Builtin.append_ #[t,t] o.type #[ρ x,ρ y]).run P w=.ok r w') :
 (execOp ρ o).run P w=.ok (.value r) w':=by
 unfold execOp;simp only [ho,resolve,invoke,builtin,Sem.run_bind,Sem.run_pure,Result.andThen_ok,List.map_toArray,List.map_cons,List.map_nil,h]
theorem seq_append {t:TypeId} {y:Operand} {e:TypeId} {z:Value} {size bytes:Nat} {v xv:Value} {n m:Nat} {xs news:List Value} (j:Nat) (hS:Heap w0 w H) (ht:P.underlying t=some (.slice e)) (hinfo:(P.info? e).map (fun i=>(i.zero,i.size,i.bytes))=some (some z,size,bytes)) (hzs:z.cells.size=size) (hsz:0<size) (hx:a.eval x=v) (hy:a.eval y=xv) (hj:H[j]? = some (.row v e size n xs)) (hv:SlC wr S size xv m news) (hm:Chunk.frz S wr ∈ H) (h1:∀ u ∈ news,u.oneCell'=true)
 (hbytes:(n+m)*bytes≤140737488355328) (h63:n+m≤maxLen)
 (hk:∀ ad cap w',Heap w0 w' (H.set j (.row (.slice ad (n+m) cap) e size (n+m) (xs++news)))→wpList P ops Q rest (a.put dst (.slice ad (n+m) cap)) w') :
 wpList P ops Q (⟨dst,.call ⟨.builtin .append,#[x,y],#[t,t]⟩,ty,pos,aft,none⟩::rest) a w:=by
 obtain⟨i,hi,hz,hsize,hby⟩:=info_parts hinfo;have hown:=hS.ok _ (List.mem_of_getElem? hj);obtain⟨ad,cap,w',hr,ho,hgr,hdw,hb⟩:=run_append_row (w:=w) (ty:=ty) ht hi hz hsize hby hzs hsz hown (hv.later hS hm) h1 hbytes h63;refine seq_heap rfl (run_append_op _ rfl (by rw [hx,hy];exact hr)) (hk ad cap w' ?_);exact hS.turn j hj hgr.os hgr.tape hgr.output hdw hgr.size ho hb (fun k hk hnk=>hgr.block k hk (fun e=>hnk e.symm))
theorem seq_append_lit {t:TypeId} {y:Operand} {e:TypeId} {z:Value} {size bytes:Nat} {v:Value} {n m b:Nat} {xs:List Value} {arr:Array Value} {Tb:TypeId} (j:Nat) (hS:Heap w0 w (H++[.blk b (.cells arr Tb (0,0))])) (ht:P.underlying t=some (.slice e)) (hinfo:(P.info? e).map (fun i=>(i.zero,i.size,i.bytes))=some (some z,size,bytes)) (hzs:z.cells.size=size) (hsz:0<size) (hx:a.eval x=v) (hy:a.eval y=.slice (some ⟨b,0,none⟩) m m) (hj:H[j]? = some (.row v e size n xs)) (hl:arr.size=m*size) (h1:∀ u ∈ arr.toList,u.oneCell'=true)
 (hbytes:(n+m)*bytes≤140737488355328) (h63:n+m≤maxLen)
 (hk:∀ ad cap w',Heap w0 w' (H.set j (.row (.slice ad (n+m) cap) e size (n+m) (xs++arr.toList)))→wpList P ops Q rest (a.put dst (.slice ad (n+m) cap)) w') :
 wpList P ops Q (⟨dst,.call ⟨.builtin .append,#[x,y],#[t,t]⟩,ty,pos,aft,none⟩::rest) a w:=by
 obtain⟨i,hi,hz,hsize,hby⟩:=info_parts hinfo;have hS':Heap w0 w H:=hS.sub (List.sublist_append_left _ _);have hown:=hS'.ok _ (List.mem_of_getElem? hj)
 have hxc:SlC w (fun k=>k=b) size (.slice (some ⟨b,0,none⟩) m m) m arr.toList:=by
  refine⟨by simpa using hl,_,m,rfl,Nat.le_refl _,by omega,(fun e=>by cases e),fun ad e=>?_⟩;cases e;refine⟨fun _=>rfl,fun _=>rfl,fun j u hu=>?_⟩;rw [Nat.zero_add,cell_of_row w b j arr Tb (0,0) (hS.blk (by simp))]
  simpa using hu
 obtain⟨ad,cap,w',hr,ho,hgr,hdw,hb⟩:=run_append_row (w:=w) (ty:=ty) ht hi hz hsize hby hzs hsz hown hxc h1 hbytes h63;refine seq_heap rfl (run_append_op _ rfl (by rw [hx,hy];exact hr)) (hk ad cap w' ?_);exact hS'.turn j hj hgr.os hgr.tape hgr.output hdw hgr.size ho hb (fun k hk hnk=>hgr.block k hk (fun e=>hnk e.symm))
theorem run_store_blk {b off:Nat} {arr:Array Value} {Tb:TypeId} {u:Value} (hT:∀ w,(sizeOf T).run P w=.ok u.cells.size w) (hb:w.heap[b]? = some (.cells arr Tb (0,0))) (h1:u.cells.all (·.oneCell')=true) (hl:off+u.cells.size≤arr.size) :
 (storeVar T ⟨b,off,none⟩ u).run P w=.ok () (w.setRow b (arr.toList.take off++u.cells.toList++arr.toList.drop (off+u.cells.size)).toArray):=by
 have:=run_storeCells_at P b off Tb u.cells.toList 0 arr w hb (by simpa using hl) (fun v hv=>(Array.all_eq_true_iff_forall_mem.1 h1) v (by simpa using hv));simp only [storeVar,Sem.run_bind,hT,Result.andThen_ok,ne_eq,not_true_eq_false,if_false]
 simpa using this
theorem seq_store {b off:Nat} {arr:Array Value} {Tb:TypeId} {u:Value} {y:Operand} (j:Nat) (hS:Heap w0 w H) (hx:a.eval x=.pointer (some ⟨b,off,none⟩)) (hy:a.eval y=u) (hj:H[j]? = some (.blk b (.cells arr Tb (0,0))))
 (hT:∀ w,(sizeOf T).run P w=.ok u.cells.size w) (h1:u.cells.all (·.oneCell')=true) (hl:off+u.cells.size≤arr.size)
 (hk:∀ w',Heap w0 w' (H.set j (.blk b (.cells (arr.toList.take off++u.cells.toList++arr.toList.drop (off+u.cells.size)).toArray Tb (0,0))))→wpList P ops Q rest (a.put dst undef) w') :
 wpList P ops Q (⟨dst,.store T x y,ty,pos,aft,none⟩::rest) a w:=by
 have hb:=hS.blk (List.mem_of_getElem? hj);have hr:=run_store_blk (P:=P) (T:=T) hT hb h1 hl;refine seq_skip (w':=w.setRow b (arr.toList.take off++u.cells.toList++arr.toList.drop (off+u.cells.size)).toArray) rfl ?_ (hk _ ?_)
 ·generalize a.eval=ρ at hx hy
  simp only [execOp,hx,hy,Instr.storeAt,Instr.sureAddr,Sem.run_bind,Sem.run_pure,Result.andThen_ok,hr]
 ·exact hS.write j hj rfl rfl rfl (Nat.le_refl _) (by simp [World.setRow]) (setRow_heap w b arr _ Tb (0,0) hb) (fun k _ hne=>setRow_other w b k _ hne)
end
end Go.Hp
namespace Go.Hp
open Go
section
variable {P:Program} {a:Act} {K:Act→Prop} {dst:Option Tmp} {ty T E:TypeId} {pos:String} {aft:Array Edge} {g:Option (Nat × Bool)} {x ix:Operand} {wr:World} {S:Nat→Prop}
theorem ints_cell {xs:List Int} {i:Nat} (h:i<xs.length):((xs.map (Value.int .i64)).drop i).take 1=[.int .i64 (nth 0 xs i)]:=by
 rw [List.drop_eq_getElem_cons (by simpa using h)];simp [h,nth]
theorem any_index_int (hu:P.underlying T=some (.slice E)) (hz:∀ w,(sizeOf E).run P w=.ok 1 w) {i:Int} {ad:Option Addr} {n cap:Nat} {xs:List Int} (hx:a.eval x=.slice ad n cap) (hi:a.eval ix=.int .i64 i) (hv:Ints wr S (.slice ad n cap) xs) (hlo:0≤i) (hhi:i<n)
 (hk:∀ b off,CellsAt wr S ⟨b,off,none⟩ [.int .i64 (nth 0 xs i.toNat)]→K (a.put dst (.pointer (some ⟨b,off,none⟩)))):StpAny P ⟨dst,.indexAddr T x ix,ty,pos,aft,g⟩ a K :=
 any_index hu hz hx hi hv.1 hlo (by have:=hv.len;omega) (by omega) fun b off hc=>hk b off (by rw [Nat.mul_one,ints_cell (by have:=hv.len;omega)] at hc;exact hc)
theorem any_index_nat (hu:P.underlying T=some (.slice E)) (hz:∀ w,(sizeOf E).run P w=.ok 1 w) {i:Int} {ad:Option Addr} {n cap:Nat} {xs:List Nat} (hx:a.eval x=.slice ad n cap) (hi:a.eval ix=.int .i64 i) (hv:Nats wr S (.slice ad n cap) xs) (hlo:0≤i) (hhi:i<n)
 (hk:∀ b off,CellsAt wr S ⟨b,off,none⟩ [.int .i64 ((nth 0 xs i.toNat:Nat):Int)]→K (a.put dst (.pointer (some ⟨b,off,none⟩)))):StpAny P ⟨dst,.indexAddr T x ix,ty,pos,aft,g⟩ a K :=
 any_index_int hu hz hx hi hv hlo hhi fun b off hc=>hk b off (by rw [nth_zs] at hc;exact hc)
theorem Ints.getD {w:World} {v:Value} {xs:List Int} (h:Ints w S v xs) (i:Nat):InI (nth 0 xs i):=by
 unfold nth
 by_cases hi:i<xs.length
 ·rw [List.getD_eq_getElem?_getD,List.getElem?_eq_getElem hi]
  exact h.2 _ (List.getElem_mem hi)
 ·rw [List.getD_eq_getElem?_getD,List.getElem?_eq_none (by omega)]
  exact⟨by decide,by decide⟩
end
end Go.Hp
namespace Go.Hp
open Go
section
variable {P:Program} {ops:Array Oper} {Q:Exit→Act→World→Prop} {rest:List Oper} {a:Act} {w:World} {dst:Option Tmp} {ty T:TypeId} {pos:String} {aft:Array Edge} {g:Option (Nat × Bool)} {x y ix:Operand} {n:Nat} {parts:Array (Nat × Operand)} {as:Array Operand} {ts:Array TypeId}
theorem g_idx (h:wpList P ops Q (⟨dst,.indexAddr T x ix,ty,pos,aft,g⟩::rest) a w):wpList P ops Q (⟨dst,.indexAddr T x ix,ty,pos,aft,g⟩::rest) a w:=h
theorem g_load (h:wpList P ops Q (⟨dst,.load T x,ty,pos,aft,g⟩::rest) a w):wpList P ops Q (⟨dst,.load T x,ty,pos,aft,g⟩::rest) a w:=h
theorem g_bs (h:wpList P ops Q (⟨dst,.buildSlice T n parts,ty,pos,aft,g⟩::rest) a w):wpList P ops Q (⟨dst,.buildSlice T n parts,ty,pos,aft,g⟩::rest) a w:=h
theorem g_app (h:wpList P ops Q (⟨dst,.call ⟨.builtin .append,as,ts⟩,ty,pos,aft,g⟩::rest) a w):wpList P ops Q (⟨dst,.call ⟨.builtin .append,as,ts⟩,ty,pos,aft,g⟩::rest) a w:=h
theorem g_store (h:wpList P ops Q (⟨dst,.store T x y,ty,pos,aft,g⟩::rest) a w):wpList P ops Q (⟨dst,.store T x y,ty,pos,aft,g⟩::rest) a w:=h
end
end Go.Hp
namespace Go.Hp
open Go
theorem fill_row (off:Nat):∀ (l pre:List Value) (Z:Array Value) (rest:List Value) (i:Nat),Z.toList=pre++rest→pre.length=off+i→rest.length=l.length →
 ((l.zipIdx i).foldl (fun (cs:Array Value) (x:Value × Nat)=>cs.setIfInBounds (off+x.2) x.1) Z).toList=pre++l
 | [],pre,Z,rest,i,h,_,hr=>by
  have:rest=[]:=List.eq_nil_of_length_eq_zero (by simpa using hr);subst this
  simpa using h
 | c::l,pre,Z,rest,i,h,hp,hr=>by
  cases rest with
  | nil=>simp at hr
  | cons r rest =>
   simp only [List.zipIdx_cons,List.foldl_cons]
   have h1:(Z.setIfInBounds (off+i) c).toList=(pre++[c])++rest:=by
    rw [Array.toList_setIfInBounds,h,← hp,List.set_append_right _ _ (Nat.le_refl _)];simp
   have:=fill_row off l (pre++[c]) (Z.setIfInBounds (off+i) c) rest (i+1) h1 (by simp;omega) (by simpa using hr);rw [this];simp
section
variable {P:Program} {ops:Array Oper} {Q:Exit→Act→World→Prop} {rest:List Oper} {a:Act} {w w0:World} {H:List Chunk} {dst:Option Tmp} {ty T E:TypeId} {pos:String} {aft:Array Edge} {g:Option (Nat × Bool)} {x:Operand} {k:Nat}
theorem fill_one {z v:Value} (hz:z.cells.size=k) (hv:v.cells.size=k) (h0:0<k) :
 Instr.fill (fun i=>some (i*k,k)) ((Array.range (1*k)).map (z.cells[· % z.cells.size]!)) [(0,v)]=some v.cells:=by
 unfold Instr.fill;simp only [Nat.zero_mul,Nat.zero_add];have hs:((Array.range (1*k)).map (z.cells[· % z.cells.size]!)).size=k:=by simp
 rw [if_neg (by rw [hv,hs];simp)];simp only [Instr.fill]
 congr 1
 apply Array.ext';have:=fill_row 0 v.cells.toList [] ((Array.range (1*k)).map (z.cells[· % z.cells.size]!)) _ 0 (by simp only [List.nil_append];rfl) rfl (by rw [Array.length_toList,hs,Array.length_toList,hv]);simp only [Nat.zero_add,List.nil_append] at this;rw [← this,← Array.foldl_toList,Array.toList_zipIdx]
theorem seq_bs1 {z v:Value} (hS:Heap w0 w H) (hu:P.underlying T=some (.slice E)) (hsz:∀ w,(sizeOf E).run P w=.ok k w) (hz:∀ w,(zeroValue E).run P w=.ok z w)
 (hx:a.eval x=v) (hzs:z.cells.size=k) (hvs:v.cells.size=k) (h0:0<k) (hl:k≤16777216) (hg:Region.wanted ⟨dst,.buildSlice T 1 #[(0,x)],ty,pos,aft,g⟩ (yielded ops a.tmps)=true)
 (hk:∀ b w',Heap w0 w' (H++[.blk b (.cells v.cells E (0,0))])→wpList P ops Q rest (a.put dst (.slice (some ⟨b,0,none⟩) 1 1)) w'):wpList P ops Q (⟨dst,.buildSlice T 1 #[(0,x)],ty,pos,aft,g⟩::rest) a w:=by
 refine seq_heap (w':=w.alloc (.cells v.cells E (0,0))) (v:=.slice (some ⟨w.heap.size,0,none⟩) 1 1) hg ?_ (hk _ _ (hS.alloc _));have hf:=fill_one (z:=z) (v:=v) hzs hvs h0;generalize a.eval=ρ at hx;have h1:¬ (16777216<1*k):=by omega
 have h2:¬ (1*k=0):=by omega
 have h3:Array.toList (Array.map (fun y:Nat × Operand=>(y.1,ρ y.2)) #[(0,x)])=[(0,v)]:=by simp [hx]
 simp only [execOp,Instr.buildSlice,Sem.run_bind,run_underlying hu,hsz,Result.andThen_ok,gt_iff_lt,Nat.reducePow,h1,if_false,h2,hz,Sem.run_pure,h3,hf]
 rfl
end
end Go.Hp
namespace Go.Hp
open Go
section
variable {P:Program} {ops:Array Oper} {Q:Exit→Act→World→Prop} {C:World→Prop} {s:List Mv} {a:Act} {w:World} {i:Nat}
theorem ext_at {dst:Option Tmp} {op:Op} {ty:TypeId} {pos:String} {aft:Array Edge} {g:Option (Nat × Bool)} (ho:ops[i]? = some ⟨dst,op,ty,pos,aft,g⟩) (h:wpList P ops (Exit.then (fun a' w'=>C w'∧wpSched P ops (NoPanic Q) C s a' w') (NoPanic Q)) [⟨dst,op,ty,pos,aft,g⟩] a w):wpSched P ops (NoPanic Q) C (.e i::s) a w:=sched_ext ho (fun _ _ _ h=>h) h
theorem mut_at {dst:Option Tmp} {op:Op} {ty:TypeId} {pos:String} {aft:Array Edge} {g:Option (Nat × Bool)} (ho:ops[i]? = some ⟨dst,op,ty,pos,aft,g⟩) (h:wpList P ops (Exit.then (fun a' w'=>wpSched P ops (NoPanic Q) C s a' w') (NoPanic Q)) [⟨dst,op,ty,pos,aft,g⟩] a w):wpSched P ops (NoPanic Q) C (.m i::s) a w:=sched_mut ho (fun _ _ _ h=>h) h
theorem ext_end {K:Act→World→Prop} {Q':Exit→Act→World→Prop} (hC:C w) (h:K a w):wpList P ops (Exit.then (fun a' w'=>C w'∧K a' w') Q') [] a w:=⟨hC,h⟩
theorem mut_end {K:Act→World→Prop} {Q':Exit→Act→World→Prop} (h:K a w):wpList P ops (Exit.then (fun a' w'=>K a' w') Q') [] a w:=h
theorem m_pure (h:wpSched P ops Q C (.p i::s) a w):wpSched P ops Q C (.p i::s) a w:=h
theorem m_read (h:wpSched P ops Q C (.r i::s) a w):wpSched P ops Q C (.r i::s) a w:=h
end
end Go.Hp
namespace Go.Hp
open Go
def WithK (Q:Exit→Act→World→Prop) (K:Act→World→Prop):Exit→Act→World→Prop
 | .normal,a,w=>K a w
 | e,a,w=>Q e a w
section
variable {P:Program} {ops:Array Oper} {Q:Exit→Act→World→Prop} {md:Region.Mode} {C:World→Prop} {M:List Nat}
theorem withK_out (Q:Exit→Act→World→Prop) (K:Act→World→Prop):LetsOut (NoPanic (WithK Q K))→LetsOut (NoPanic Q):=fun ⟨a,w,h⟩=>⟨a,w,h⟩
theorem wpOp_withK {K:Act→World→Prop} {K2:Act→World→Prop} {i:Nat} {a:Act} {w:World} (h:wpOp P ops (NoPanic (WithK Q K2)) i K a w):wpOp P ops (NoPanic Q) i K a w:=by
 unfold wpOp at *
 split
 ·rename_i hn
  simpa [hn] using h
 ·rename_i o ho
  simp only [ho] at h
  split
  ·rename_i hw
   rw [if_pos hw] at h
   rcases h with h|⟨h1,h2⟩
   ·left
    unfold Oper.wp at *;generalize (execOp a.eval o).run P w=r at *;cases r with
    | ok n w' =>
     cases n <;> simp only [Oper.upon] at h ⊢ <;>
      first
       | exact h
       | exact Calls.mono h (fun e w'' he=>by cases e <;> first|exact he|exact he.elim|exact withK_out _ _ he)
    | halt x w'=>cases x <;> simp only [Oper.upon] at h ⊢ <;> first|exact h|exact h.elim
   ·exact .inr ⟨h1,withK_out _ _ h2⟩
  ·rename_i hw
   rw [if_neg hw] at h;exact h
def after:List Mv→Array Bool→Array Bool
 | [],listed=>listed
 | .p i::s,listed=>after s (listed.setIfInBounds i true)
 | .r i::s,listed=>after s (listed.setIfInBounds i true)
 | .e i::s,listed=>after s (listed.setIfInBounds i true)
 | .m i::s,listed=>after s (listed.setIfInBounds i true)
def schedPre (md:Region.Mode) (ops:Array Oper) (M:List Nat):List Mv→Array Bool→Bool
 | [],listed=>true
 | .p i::s,listed=>(Region.ready md ops listed).contains i && Region.free md ops listed i && !M.contains i && schedPre md ops M s (listed.setIfInBounds i true)
 | .r i::s,listed=>(Region.ready md ops listed).contains i && Region.free md ops listed i && !M.contains i && (M.all fun m=>(anc md ops ops.size m).contains i) && schedPre md ops M s (listed.setIfInBounds i true)
 | .e i::s,listed=>(Region.ready md ops listed == [i]) && schedPre md ops M s (listed.setIfInBounds i true)
 | .m _::_,_=>false
theorem wpG_seq (hsel:Region.noSelect ops=true) (K:Act→World→Prop) (n:Nat):∀ (s:List Mv) (listed:Array Bool) (a:Act) (w:World),schedPre md ops M s listed=true→Closed md ops listed→Keeps M C listed w →
 wpSched P ops (NoPanic (WithK Q K)) C s a w→(∀ a w,Closed md ops (after s listed)→Keeps M C (after s listed) w→K a w→wpG P md ops (NoPanic Q) M C n (after s listed) a w)→wpG P md ops (NoPanic Q) M C (s.length+n) listed a w:=by
 intro s;have hQ:∀ c a w,¬ NoPanic Q (.panic c) a w:=fun c a w h=>h
 induction s with
 | nil =>
  intro listed a w hok hcl hk h hend;rw [List.length_nil,Nat.zero_add];exact hend a w hcl hk h
 | cons m s ih =>
  intro listed a w hok hcl hk h hend;rw [List.length_cons,Nat.succ_add];cases m with
  | p i =>
   simp only [schedPre,Bool.and_eq_true,Bool.not_eq_true'] at hok;obtain⟨⟨⟨h1,h2⟩,h3⟩,h4⟩:=hok;have hiM:i ∉ M:=by simpa using h3
   have hr:i ∈ Region.ready md ops listed:=by simpa using h1
   obtain⟨o,ho,h⟩:=h
   have hk':Keeps M C (listed.setIfInBounds i true) w:=by
    intro hm;refine hk fun m hmM=>?_
    have him:i≠m:=fun e=>by subst e;exact hiM hmM
    have:=hm m hmM
    rwa [getD_set_ne false him] at this
   split at h
   ·rename_i hw
    obtain⟨v,hv,h⟩:=h;exact wpG.first (S:=fun _=>True) ho (Region.noSelect_spec hsel) hQ hiM (fun _ _ _ _ _=>trivial) (s.length+n) listed a w hcl hk (Region.free_spec ho h2) hr (.inl ⟨hw,fun w' _=>hv w'⟩) (ih _ _ _ h4 (hcl.set hr) hk' h hend)
   ·rename_i hw
    exact wpG.first (S:=fun _=>True) ho (Region.noSelect_spec hsel) hQ hiM (fun _ _ _ _ _=>trivial) (s.length+n) listed a w hcl hk (Region.free_spec ho h2) hr (.inr ⟨by simpa using hw,rfl⟩) (ih _ _ _ h4 (hcl.set hr) hk' h hend)
  | r i =>
   simp only [schedPre,Bool.and_eq_true,Bool.not_eq_true'] at hok;obtain⟨⟨⟨⟨h1,h2⟩,h3⟩,h5⟩,h4⟩:=hok;have hiM:i ∉ M:=by simpa using h3
   have hr:i ∈ Region.ready md ops listed:=by simpa using h1
   obtain⟨o,ho,h⟩:=h
   have hk':Keeps M C (listed.setIfInBounds i true) w:=by
    intro hm;refine hk fun m hmM=>?_
    have him:i≠m:=fun e=>by subst e;exact hiM hmM
    have:=hm m hmM
    rwa [getD_set_ne false him] at this
   have hSG:∀ (listed:Array Bool) (w:World),Closed md ops listed→listed.getD i true=false→Keeps M C listed w→C w:=by
    intro l' w' hc hu hkk;refine hkk fun m hmM=>?_
    cases hl:l'.getD m false with
    | false=>rfl
    | true =>
     have h6:=List.all_eq_true.1 h5 m hmM;have h7:i ∈ anc md ops ops.size m:=by simpa using h6
     have h8:=hc.anc _ m hl i h7;rw [unlisted_of hu] at h8;cases h8
   split at h
   ·rename_i hw
    obtain⟨v,hv,h⟩:=h;exact wpG.first (S:=C) ho (Region.noSelect_spec hsel) hQ hiM hSG (s.length+n) listed a w hcl hk (Region.free_spec ho h2) hr (.inl ⟨hw,hv⟩) (ih _ _ _ h4 (hcl.set hr) hk' h hend)
   ·rename_i hw
    exact wpG.first (S:=C) ho (Region.noSelect_spec hsel) hQ hiM hSG (s.length+n) listed a w hcl hk (Region.free_spec ho h2) hr (.inr ⟨by simpa using hw,rfl⟩) (ih _ _ _ h4 (hcl.set hr) hk' h hend)
  | e i =>
   simp only [schedPre,Bool.and_eq_true,beq_iff_eq] at hok;obtain⟨h1,h4⟩:=hok;refine⟨fun h0=>(by rw [h1] at h0;cases h0),fun j hj=>?_⟩;have hr:=hj;rw [h1] at hj;simp only [List.mem_singleton] at hj;subst hj;exact wpOp_mono (fun a' w' h'=>⟨fun _=>h'.1,ih _ _ _ h4 (hcl.set hr) (fun _=>h'.1) h'.2 hend⟩) (wpOp_withK h)
  | m i=>simp [schedPre] at hok
inductive Tr where
 | line (s:List Mv)
 | fork (s:List Mv) (i:Nat) (t:Tr) (j:Nat) (u:Tr)
def Tr.len:Tr→Nat
 | .line s=>s.length
 | .fork s _ t _ _=>s.length+(t.len+1)
def wpTr (P:Program) (ops:Array Oper) (Q:Exit→Act→World→Prop) (C:World→Prop):Tr→Act→World→Prop
 | .line s,a,w=>wpSched P ops (NoPanic Q) C s a w
 | .fork s i t j u,a,w=>wpSched P ops (NoPanic (WithK Q fun a w=>wpOp P ops (NoPanic Q) i (fun a' w'=>C w'∧wpTr P ops Q C t a' w') a w∧wpOp P ops (NoPanic Q) j (fun a' w'=>C w'∧wpTr P ops Q C u a' w') a w)) C s a w
def trOk (md:Region.Mode) (ops:Array Oper) (M:List Nat):Tr→Array Bool→Bool
 | .line s,listed=>schedOk md ops M s listed
 | .fork s i t j u,listed=>schedPre md ops M s listed && (Region.ready md ops (after s listed) == [i,j]) && (t.len == u.len) && trOk md ops M t ((after s listed).setIfInBounds i true) && trOk md ops M u ((after s listed).setIfInBounds j true)
theorem wpG_of_tr (hsel:Region.noSelect ops=true):∀ (t:Tr) (listed:Array Bool) (a:Act) (w:World),trOk md ops M t listed=true→Closed md ops listed→Keeps M C listed w →
 wpTr P ops Q C t a w→wpG P md ops (NoPanic Q) M C t.len listed a w
 | .line s,listed,a,w,hok,hcl,hk,h=>wpG_of_sched hsel (fun c a w h=>h) s listed a w hok hcl hk h
 | .fork s i t j u,listed,a,w,hok,hcl,hk,h=>by
  simp only [trOk,Bool.and_eq_true,beq_iff_eq] at hok;obtain⟨⟨⟨⟨h1,h2⟩,h3⟩,h4⟩,h5⟩:=hok;refine wpG_seq hsel _ (t.len+1) s listed a w h1 hcl hk h fun a' w' hcl' hk' ⟨hi,hj⟩=>?_
  refine⟨fun h0=>(by rw [h2] at h0;cases h0),fun k hk2=>?_⟩;have hr:=hk2;rw [h2] at hk2;simp only [List.mem_cons,List.not_mem_nil,or_false] at hk2
  rcases hk2 with rfl|rfl
  ·exact wpOp_mono (fun a'' w'' h'=>⟨fun _=>h'.1,wpG_of_tr hsel t _ _ _ h4 (hcl'.set hr) (fun _=>h'.1) h'.2⟩) hi
  ·refine wpOp_mono (fun a'' w'' h'=>⟨fun _=>h'.1,?_⟩) hj
   rw [h3];exact wpG_of_tr hsel u _ _ _ h5 (hcl'.set hr) (fun _=>h'.1) h'.2
theorem wp_region_tr {Q:Exit→Act→World→Prop} {id:Nat} {a:Act} {w:World} {l:List Oper} (t:Tr) (M:List Nat) (C:World→Prop) (hm:P.follows .mixedOrders=true)
 (hok:(Region.noSelect l.toArray && (t.len == l.length) && trOk .any l.toArray M t (Array.replicate l.length false))=true) (hC:C w.drew)
 (h:∀ w',C w'→wpTr P l.toArray Q C t a w'):(Code.region id l.toArray true).wp P Q a w:=by
 simp only [Bool.and_eq_true,beq_iff_eq] at hok;obtain⟨⟨h1,h2⟩,h3⟩:=hok;refine wp_mono (Q:=NoPanic Q) (wp_region_any hm ?_) (fun e a w hq=>by cases e <;> first|exact hq|exact hq.elim);have:=wpG_of_tr (P:=P) (Q:=Q) (md:=.any) (M:=M) (C:=C) h1 t (Array.replicate l.length false) a w.drew h3 (closed_start _) (fun _=>hC) (h _ hC);rw [h2] at this
 simpa using this.any
theorem tr_line {s:List Mv} {a:Act} {w:World} (h:wpSched P ops (NoPanic Q) C s a w):wpTr P ops Q C (.line s) a w:=h
theorem tr_fork {s:List Mv} {i j:Nat} {t u:Tr} {a:Act} {w:World} (h:wpSched P ops (NoPanic (WithK Q fun a w=>wpOp P ops (NoPanic Q) i (fun a' w'=>C w'∧wpTr P ops Q C t a' w') a w∧wpOp P ops (NoPanic Q) j (fun a' w'=>C w'∧wpTr P ops Q C u a' w') a w)) C s a w):wpTr P ops Q C (.fork s i t j u) a w:=h
theorem fork_op {dst:Option Tmp} {op:Op} {ty:TypeId} {pos:String} {aft:Array Edge} {g:Option (Nat × Bool)} {i:Nat} {t:Tr} {a:Act} {w:World} (ho:ops[i]? = some ⟨dst,op,ty,pos,aft,g⟩) (h:wpList P ops (Exit.then (fun a' w'=>C w'∧wpTr P ops Q C t a' w') (NoPanic Q)) [⟨dst,op,ty,pos,aft,g⟩] a w):wpOp P ops (NoPanic Q) i (fun a' w'=>C w'∧wpTr P ops Q C t a' w') a w :=
 wpOp_of_list ho h (fun _ _ _ h=>h)
end
end Go.Hp
namespace Go.Hp
def touch (of:List Nat) (a b:Nat) (e:Tri):Prop:=(nth 0 of e.1.toNat=a∧nth 0 of e.2.1.toNat=b)∨(nth 0 of e.1.toNat=b∧nth 0 of e.2.1.toNat=a)
instance (of:List Nat) (a b:Nat) (e:Tri):Decidable (touch of a b e):=by unfold touch;infer_instance
structure Str where
 face:Nat
 a:Nat
 b:Nat
 into:Nat
 deriving DecidableEq
end Go.Hp
namespace Go.Hp
open Go
section
variable {κ:Type} [DecidableEq κ] {ν:Type}
def look (k:κ):List κ→List MapEntry→Nat→Option (Nat × Value)
 | x::ks,e::es,i=>if k=x then some (i,e.val) else look k ks es (i+1)
 | _,_,_=>none
structure KeyOk (P:Program) (T:TypeId) (ek:κ→Value):Prop where
 chk:∀ (e:Bool) (k:κ) (w:World),(Instr.checkKey e 10000 T (ek k)).run P w=.ok () w
 find:∀ (k:κ) (ks:List κ) (es:List MapEntry) (w:World),es.map (·.key)=ks.map ek→(Instr.findKey T (ek k) es).run P w=.ok (look k ks es 0) w
 stays:∀ (k:κ) (w:World),(Instr.keyThatStays (ek k) (ek k)).run P w=.ok (ek k) w
structure MapIs (ek:κ→Value) (ev:ν→Value) (o:Obj) (l:List (κ × ν)):Prop where
 ex:∃ es clock,o=.map es clock∧es.toList.map (fun e=>(e.key,e.val))=l.map (fun p=>(ek p.1,ev p.2))∧es.toList.Pairwise (fun a b=>a.born<b.born)∧∀ e ∈ es.toList,e.born<clock
 nodup:(l.map (·.1)).Nodup
def getL (l:List (κ × ν)) (k:κ):Option ν:=(l.find? (fun p=>decide (p.1=k))).map (·.2)
def putL:List (κ × ν)→κ→ν→List (κ × ν)
 | [],k,v=>[(k,v)]
 | (x,u)::l,k,v=>if x=k then (x,v)::l else (x,u)::putL l k v
theorem getL_nil (k:κ):getL ([]:List (κ × ν)) k=none:=rfl
theorem getL_cons (x:κ) (u:ν) (l:List (κ × ν)) (k:κ):getL ((x,u)::l) k=if x=k then some u else getL l k:=by
 unfold getL
 by_cases h:x=k <;> simp [h]
theorem getL_putL (l:List (κ × ν)) (k j:κ) (v:ν):getL (putL l k v) j=if k=j then some v else getL l j:=by
 induction l with
 | nil=>simp [putL,getL_cons,getL_nil]
 | cons p l ih =>
  obtain⟨x,u⟩:=p;simp only [putL]
  by_cases h:x=k
  ·rw [if_pos h,getL_cons,getL_cons,h]
   by_cases hj:k=j <;> simp [hj]
  ·rw [if_neg h,getL_cons,getL_cons,ih]
   by_cases hx:x=j
   ·have:k≠j:=fun e=>h (by rw [hx,e])
    simp [hx,this]
   ·simp [hx]
theorem keys_putL_mem (l:List (κ × ν)) (k:κ) (v:ν) (x:κ):x ∈ (putL l k v).map (·.1)↔x=k∨x ∈ l.map (·.1):=by
 induction l with
 | nil=>simp [putL]
 | cons p l ih =>
  obtain⟨y,u⟩:=p;simp only [putL]
  by_cases h:y=k
  ·rw [if_pos h];simp only [List.map_cons,List.mem_cons];rw [h]
   constructor
   ·rintro (h|h) <;> simp [h]
   ·rintro (h|h|h) <;> simp [h]
  ·rw [if_neg h]
   simp only [List.map_cons,List.mem_cons,ih]
   constructor
   ·rintro (h|h|h) <;> simp [h]
   ·rintro (h|h|h) <;> simp [h]
theorem nodup_putL {l:List (κ × ν)} (h:(l.map (·.1)).Nodup) (k:κ) (v:ν):((putL l k v).map (·.1)).Nodup:=by
 induction l with
 | nil=>simp [putL]
 | cons p l ih =>
  obtain⟨x,u⟩:=p;simp only [List.map_cons,List.nodup_cons] at h;simp only [putL]
  split
  ·simpa using h
  ·rename_i hx
   simp only [List.map_cons,List.nodup_cons];refine⟨fun hm=>?_,ih h.2⟩
   rcases (keys_putL_mem l k v x).1 hm with h'|h'
   ·exact hx h'
   ·exact h.1 h'
theorem getL_mem {l:List (κ × ν)} {k:κ} {v:ν} (h:getL l k=some v):(k,v) ∈ l:=by
 unfold getL at h;simp only [Option.map_eq_some_iff] at h;obtain⟨p,hp,rfl⟩:=h;have h1:=List.mem_of_find?_eq_some hp;have h2:=List.find?_some hp;simp only [decide_eq_true_eq] at h2;rw [← h2];exact h1
theorem getL_of_mem {l:List (κ × ν)} (hn:(l.map (·.1)).Nodup) {k:κ} {v:ν} (h:(k,v) ∈ l):getL l k=some v:=by
 induction l with
 | nil=>simp at h
 | cons p l ih =>
  obtain⟨x,u⟩:=p;simp only [List.map_cons,List.nodup_cons] at hn;rw [getL_cons]
  rcases List.mem_cons.1 h with h'|h'
  ·simp only [Prod.mk.injEq] at h'
   rw [if_pos h'.1.symm,h'.2]
  ·rw [if_neg,ih hn.2 h']
   intro e;subst e;exact hn.1 (List.mem_map.2 ⟨_,h',rfl⟩)
theorem getL_none {l:List (κ × ν)} {k:κ} (h:k ∉ l.map (·.1)):getL l k=none:=by
 unfold getL;rw [Option.map_eq_none_iff,List.find?_eq_none];intro p hp hk;simp only [decide_eq_true_eq] at hk;exact h (List.mem_map.2 ⟨p,hp,hk⟩)
 omit [DecidableEq κ] in
theorem MapIs.empty (ek:κ→Value) (ev:ν→Value):MapIs ek ev (.map #[] 0) []:=⟨⟨#[],0,rfl,rfl,by simp,by simp⟩,by simp⟩
theorem look_spec (ev:ν→Value) (ek:κ→Value) (k:κ):∀ (l:List (κ × ν)) (es:List MapEntry) (i:Nat),es.map (fun e=>(e.key,e.val))=l.map (fun p=>(ek p.1,ev p.2)) →
 (getL l k=none∧look k (l.map (·.1)) es i=none)∨(∃ j v,getL l k=some v∧look k (l.map (·.1)) es i=some (i+j,ev v)∧j<l.length∧(l[j]?).map (·.1)=some k∧∀ a,putL l k a=l.set j (k,a))
 | [],es,i,h=>by
  left
  exact⟨rfl,by simp [look]⟩
 | p::l,[],i,h=>by simp at h
 | (x,u)::l,e::es,i,h=>by
  simp only [List.map_cons,List.cons.injEq,Prod.mk.injEq] at h;obtain⟨⟨h1,h2⟩,h3⟩:=h
  by_cases hk:x=k
  ·right
   refine⟨0,u,by rw [getL_cons,if_pos hk],?_,by simp,by simp [hk],fun a=>by simp [putL,hk]⟩;simp [look,hk,h2]
  ·rcases look_spec ev ek k l es (i+1) h3 with ⟨h4,h5⟩|⟨j,v,h4,h5,h6,h7,h8⟩
   ·left
    exact⟨by rw [getL_cons,if_neg hk];exact h4,by simp only [List.map_cons,look];rw [if_neg (fun e=>hk e.symm)];exact h5⟩
   ·right
    refine⟨j+1,v,by rw [getL_cons,if_neg hk];exact h4,?_,by simp;omega,by simpa using h7,fun a=>by simp only [putL];rw [if_neg hk,h8];rfl⟩;simp only [List.map_cons,look];rw [if_neg (fun e=>hk e.symm),h5]
    congr 2
    omega
theorem putL_new {l:List (κ × ν)} {k:κ} (h:getL l k=none) (v:ν):putL l k v=l++[(k,v)]:=by
 induction l with
 | nil=>rfl
 | cons p l ih =>
  obtain⟨x,u⟩:=p;rw [getL_cons] at h
  by_cases hx:x=k
  ·rw [if_pos hx] at h;cases h
  ·rw [if_neg hx] at h
   simp only [putL];rw [if_neg hx,ih h]
   rfl
variable {P:Program} {T E Tm:TypeId} {ek:κ→Value} {ev:ν→Value} {w:World} {b:Nat} {o:Obj} {l:List (κ × ν)}
 omit [DecidableEq κ] in
theorem keys_of {es:List MapEntry} (h:es.map (fun e=>(e.key,e.val))=l.map (fun p=>(ek p.1,ev p.2))):es.map (·.key)=(l.map (·.1)).map ek:=by
  have:=congrArg (List.map Prod.fst) h
  simpa [List.map_map,Function.comp_def] using this
theorem run_lookup_is {z:ν} (hu:P.underlying Tm=some (.map T E)) (hz:∀ w,(zeroValue E).run P w=.ok (ev z) w) (K:KeyOk P T ek) (hb:w.heap[b]? = some o) (hm:MapIs ek ev o l) (k:κ) :
 (Instr.lookup Tm (.map (some b)) (ek k) false).run P w=.ok (ev ((getL l k).getD z)) w:=by
 obtain⟨⟨es,clock,rfl,hes,hp,hc⟩,hn⟩:=hm;have hg:=MapKept.run_getObj_map (P:=P) hb;have hf:=K.find k (l.map (·.1)) es.toList w (keys_of hes);unfold Instr.lookup;simp only [Sem.run_bind,run_underlying hu,Result.andThen_ok,hg,Sem.run_pure,K.chk,hf]
 rcases look_spec ev ek k l es.toList 0 hes with ⟨h1,h2⟩|⟨j,v,h1,h2,_⟩
 ·simp [h1,h2,hz]
 ·simp [h1,h2]
def BornAt (ek:κ→Value) (o:Obj) (k:κ) (s:Nat):Prop:=∃ (es:Array MapEntry) (clock j:Nat),o=.map es clock∧(∃ e:MapEntry,es[j]? = some e∧e.key=ek k∧e.born=s)
theorem array_modify_toList {α:Type} (a:Array α) (i:Nat) (f:α→α):(a.modify i f).toList=a.toList.modify i f:=by simp
 omit [DecidableEq κ] in
theorem pairs_modify {es:List MapEntry} {l:List (κ × ν)} (h:es.map (fun e=>(e.key,e.val))=l.map (fun p=>(ek p.1,ev p.2))) {j:Nat} {k:κ} (hj:(l[j]?).map (·.1)=some k) (v:ν) :
  (es.modify j (fun e=>{ e with key:=ek k,val:=ev v })).map (fun e=>(e.key,e.val))=(l.set j (k,v)).map (fun p=>(ek p.1,ev p.2)):=by
  induction es generalizing l j with
  | nil =>
   cases l with
   | nil=>simp
   | cons p l=>simp at h
  | cons e es ih =>
   cases l with
   | nil=>simp at h
   | cons p l =>
    simp only [List.map_cons,List.cons.injEq] at h;cases j with
    | zero=>simp [h.2]
    | succ j =>
     simp only [List.modify_succ_cons,List.map_cons,List.set_cons_succ,h.1,ih h.2 (by simpa using hj)]
theorem born_modify (f:MapEntry→MapEntry) (hf:∀ e,(f e).born=e.born):∀ (es:List MapEntry) (j:Nat),(es.modify j f).map (·.born)=es.map (·.born)
 | [],j=>by simp
 | e::es,0=>by simp [hf]
 | e::es,j+1=>by simp [born_modify f hf es j]
theorem pairwise_born {es es':List MapEntry} (h:es'.map (·.born)=es.map (·.born)) (hp:es.Pairwise (fun a b=>a.born<b.born)):es'.Pairwise (fun a b=>a.born<b.born):=by
 have h1:(es.map (·.born)).Pairwise (· < ·):=List.pairwise_map.2 hp;rw [← h] at h1;exact List.pairwise_map.1 h1
theorem all_born {es es':List MapEntry} {c:Nat} (h:es'.map (·.born)=es.map (·.born)) (hp:∀ e ∈ es,e.born<c):∀ e ∈ es',e.born<c:=by
 intro e he;have:e.born ∈ es'.map (·.born):=List.mem_map.2 ⟨e,he,rfl⟩;rw [h] at this;obtain⟨e',he',heq⟩:=List.mem_map.1 this;rw [← heq];exact hp e' he'
theorem run_mapUpdate_is (hu:P.underlying Tm=some (.map T E)) (K:KeyOk P T ek) (hb:w.heap[b]? = some o) (hm:MapIs ek ev o l) (k:κ) (v:ν) :
 ∃ o',(Instr.mapUpdate Tm (.map (some b)) (ek k) (ev v)).run P w=.ok () { w with heap:=w.heap.setIfInBounds b o' }∧MapIs ek ev o' (putL l k v):=by
 obtain⟨⟨es,clock,rfl,hes,hp,hc⟩,hn⟩:=hm;have hg:=MapKept.run_getObj_map (P:=P) hb;have hf:=K.find k (l.map (·.1)) es.toList w (keys_of hes);unfold Instr.mapUpdate;simp only [Sem.run_bind,run_underlying hu,Result.andThen_ok,hg,Sem.run_pure,K.chk,hf]
 rcases look_spec ev ek k l es.toList 0 hes with ⟨h1,h2⟩|⟨j,v0,h1,h2,hjl,hjk,hput⟩
 ·simp only [h2]
  refine⟨_,MapKept.run_setObj_map (P:=P) _ hb,⟨⟨_,_,rfl,?_,?_,?_⟩,nodup_putL hn k v⟩⟩
  ·rw [putL_new h1];simp [hes]
  ·simp only [Array.toList_push]
   exact pairwise_snoc hp fun e he=>hc e he
  ·intro e he
   simp only [Array.toList_push,List.mem_append,List.mem_singleton] at he
   rcases he with he|rfl
   ·have:=hc e he;omega
   ·simp
 ·simp only [h2,Nat.zero_add]
  have hkey:((es[j]?).map (·.key)).getD (ek k)=ek k:=by
   have h3:es.toList.map (·.key)=(l.map (·.1)).map ek:=keys_of hes;have h4:=congrArg (fun l=>l[j]?) h3;simp only [List.getElem?_map,Array.getElem?_toList] at h4;rw [h4];cases hl:l[j]? with
   | none=>rw [hl] at hjk;cases hjk
   | some p=>rw [hl] at hjk;simp only [Option.map_some,Option.some.injEq] at hjk ⊢;simp [hjk]
  simp only [hkey,Sem.run_bind,K.stays,Result.andThen_ok];refine⟨_,MapKept.run_setObj_map (P:=P) _ hb,⟨⟨_,_,rfl,?_,?_,?_⟩,nodup_putL hn k v⟩⟩
  ·rw [array_modify_toList,hput v]
   exact pairs_modify hes hjk v
  ·rw [array_modify_toList]
   exact pairwise_born (born_modify (fun e=>{ e with key:=ek k,val:=ev v }) (fun _=>rfl) es.toList j) hp
  ·rw [array_modify_toList]
   exact all_born (born_modify (fun e=>{ e with key:=ek k,val:=ev v }) (fun _=>rfl) es.toList j) hc
theorem run_mapEntry_is {z:ν} (hu:P.underlying Tm=some (.map T E)) (hz:∀ w,(zeroValue E).run P w=.ok (ev z) w) (K:KeyOk P T ek) (hb:w.heap[b]? = some o) (hm:MapIs ek ev o l) (k:κ) :
 ∃ o' s,(Instr.mapEntry Tm (.map (some b)) (ek k)).run P w=.ok (.tuple #[ev ((getL l k).getD z),.int .i64 (s:Nat)]) { w with heap:=w.heap.setIfInBounds b o' }∧MapIs ek ev o' (putL l k ((getL l k).getD z))∧BornAt ek o' k s:=by
 obtain⟨⟨es,clock,rfl,hes,hp,hc⟩,hn⟩:=hm;have hg:=MapKept.run_getObj_map (P:=P) hb;have hf:=K.find k (l.map (·.1)) es.toList w (keys_of hes);have hgen:∀ o':Obj,(setObj b o').run P w=.ok () { w with heap:=w.heap.setIfInBounds b o' }:=fun o'=>MapKept.run_setObj_map (P:=P) o' hb
 unfold Instr.mapEntry;simp only [Sem.run_bind,run_underlying hu,Result.andThen_ok,hg,Sem.run_pure,K.chk,hf]
 rcases look_spec ev ek k l es.toList 0 hes with ⟨h1,h2⟩|⟨j,v0,h1,h2,hjl,hjk,hput⟩
 ·refine⟨.map (es.push { key:=ek k,val:=ev z,born:=clock }) (clock+1),clock,?_,⟨⟨_,_,rfl,?_,?_,?_⟩,nodup_putL hn k _⟩,⟨_,_,es.size,rfl,{ key:=ek k,val:=ev z,born:=clock },by simp,rfl,rfl⟩⟩
  ·simp [h1,h2,hz,hgen,goInt]
  ·rw [putL_new h1,h1];simp [hes]
  ·simp only [Array.toList_push]
   exact pairwise_snoc hp fun e he=>hc e he
  ·intro e he
   simp only [Array.toList_push,List.mem_append,List.mem_singleton] at he
   rcases he with he|rfl
   ·have:=hc e he;omega
   ·simp
 ·have hlen:es.toList.length=l.length:=by have:=congrArg List.length hes;simpa using this
  have hj':j<es.size:=by rw [Array.length_toList] at hlen;omega
  have hkey:(es[j]).key=ek k:=by
   have h3:es.toList.map (·.key)=(l.map (·.1)).map ek:=keys_of hes;have h4:=congrArg (fun l=>l[j]?) h3;simp only [List.getElem?_map,Array.getElem?_toList] at h4;rw [Array.getElem?_eq_getElem hj'] at h4;cases hl:l[j]? with
   | none=>rw [hl] at hjk;cases hjk
   | some p=>rw [hl] at hjk h4;simp only [Option.map_some,Option.some.injEq] at hjk h4;rw [h4,hjk]
  have hval:(es[j]).val=ev v0:=by
   have h4:=congrArg (fun l=>l[j]?) hes;simp only [List.getElem?_map,Array.getElem?_toList] at h4;rw [Array.getElem?_eq_getElem hj'] at h4
   have hv:l[j]? = some (k,v0):=by
    cases hl:l[j]? with
    | none=>rw [hl] at hjk;cases hjk
    | some p =>
     rw [hl] at hjk;simp only [Option.map_some,Option.some.injEq] at hjk;have:=getL_of_mem hn (List.mem_of_getElem? hl);rw [hjk,h1] at this;simp only [Option.some.injEq] at this;rw [← hjk,this]
   rw [hv] at h4;simp only [Option.map_some,Option.some.injEq,Prod.mk.injEq] at h4;exact h4.2
  refine⟨.map (es.modify j fun e=>{ e with key:=ek k }) clock,(es[j]).born,?_,⟨⟨_,_,rfl,?_,?_,?_⟩,nodup_putL hn k _⟩,⟨_,_,j,rfl,{ es[j] with key:=ek k },?_,rfl,rfl⟩⟩
  ·simp [h1,h2,hj',hkey,K.stays,hgen,goInt]
  ·rw [array_modify_toList,h1,Option.getD_some,hput v0]
   rw [← pairs_modify hes hjk v0]
   congr 1
   apply List.ext_getElem?;intro i;simp only [List.getElem?_modify]
   by_cases hi:j=i
   ·subst hi
    simp only [if_true,Array.getElem?_toList,Array.getElem?_eq_getElem hj'];exact congrArg some (by dsimp only;rw [hval])
   ·simp [hi]
  ·rw [array_modify_toList]
   exact pairwise_born (born_modify (fun e=>{ e with key:=ek k }) (fun _=>rfl) es.toList j) hp
  ·rw [array_modify_toList]
   exact all_born (born_modify (fun e=>{ e with key:=ek k }) (fun _=>rfl) es.toList j) hc
  ·rw [Array.getElem?_eq_getElem (by simpa using hj'),Array.getElem_modify];simp
theorem findIdx_born {es:Array MapEntry} {j:Nat} {e:MapEntry} (hp:es.toList.Pairwise (fun a b=>a.born<b.born)) (hj:es[j]? = some e):es.findIdx? (fun x=>(x.born:Int) == (e.born:Int))=some j:=by
 obtain⟨hlt,he⟩:=Array.getElem?_eq_some_iff.1 hj;rw [Array.findIdx?_eq_some_iff_getElem];refine⟨hlt,by simp [he],fun i hi=>?_⟩;have:=List.pairwise_iff_getElem.1 hp i j (by simp;omega) (by simpa using hlt) hi;simp only [Array.getElem_toList,he] at this;simp only [beq_iff_eq];omega
theorem run_entryStore_is (hb:w.heap[b]? = some o) (hm:MapIs ek ev o l) {k:κ} {v0:ν} (hk:getL l k=some v0) (hinj:∀ x y,ek x=ek y→x=y) {s:Nat} (hs:BornAt ek o k s) (v:ν) :
 ∃ o',(Instr.entryStore Tm (.map (some b)) (.int .i64 (s:Nat)) (ev v)).run P w=.ok () { w with heap:=w.heap.setIfInBounds b o' }∧MapIs ek ev o' (putL l k v):=by
 obtain⟨⟨es,clock,rfl,hes,hp,hc⟩,hn⟩:=hm;obtain⟨es',clock',j,ho,e,hj,hek,rfl⟩:=hs;simp only [Obj.map.injEq] at ho;obtain⟨rfl,rfl⟩:=ho;have hg:=MapKept.run_getObj_map (P:=P) hb;have hf:=findIdx_born hp hj;obtain⟨hlt,hje⟩:=Array.getElem?_eq_some_iff.1 hj
 have hlj:(l[j]?).map (·.1)=some k:=by
  have h3:es.toList.map (·.key)=(l.map (·.1)).map ek:=keys_of hes;have h4:=congrArg (fun l=>l[j]?) h3;simp only [List.getElem?_map,Array.getElem?_toList,hj,Option.map_some,hek] at h4;cases hl:l[j]? with
  | none=>rw [hl] at h4;cases h4
  | some p=>rw [hl] at h4;simp only [Option.map_some,Option.some.injEq] at h4 ⊢;exact (hinj _ _ h4).symm
 have hput:putL l k v=l.set j (k,v):=by
  rcases look_spec ev ek k l es.toList 0 hes with ⟨h1,h2⟩|⟨i,v1,h1,h2,hil,hik,hput⟩
  ·rw [hk] at h1;cases h1
  ·rw [hput v]
   have:i=j:=by
    have hnd:=List.pairwise_iff_getElem.1 hn
    have hjl:j<l.length:=by
     cases hl:l[j]? with
     | none=>rw [hl] at hlj;cases hlj
     | some p=>exact (List.getElem?_eq_some_iff.1 hl).1
    have e1:(l.map (·.1))[i]'(by simpa using hil)=k:=by
     have:=hik;rw [List.getElem?_eq_getElem hil] at this;simpa using this
    have e2:(l.map (·.1))[j]'(by simpa using hjl)=k:=by
     have:=hlj;rw [List.getElem?_eq_getElem hjl] at this;simpa using this
    rcases Nat.lt_trichotomy i j with h|h|h
    ·exact absurd (e1.trans e2.symm) (hnd i j (by simpa using hil) (by simpa using hjl) h)
    ·exact h
    ·exact absurd (e2.trans e1.symm) (hnd j i (by simpa using hjl) (by simpa using hil) h)
   rw [this]
 refine⟨.map (es.modify j fun e=>{ e with val:=ev v }) clock,?_,⟨⟨_,_,rfl,?_,?_,?_⟩,nodup_putL hn k _⟩⟩
 ·unfold Instr.entryStore
  have ha:(asInt (.int .i64 (e.born:Int))).run P w=.ok (e.born:Int) w:=rfl;simp only [Sem.run_bind,hg,Result.andThen_ok,ha,hf];exact MapKept.run_setObj_map (P:=P) _ hb
 ·rw [array_modify_toList,hput,← pairs_modify hes hlj v]
  congr 1
  apply List.ext_getElem?;intro i;simp only [List.getElem?_modify]
  by_cases hi:j=i
  ·subst hi
   simp only [if_true,Array.getElem?_toList,hj,← hek]
   rfl
  ·simp [hi]
 ·rw [array_modify_toList]
  exact pairwise_born (born_modify (fun e=>{ e with val:=ev v }) (fun _=>rfl) es.toList j) hp
 ·rw [array_modify_toList]
  exact all_born (born_modify (fun e=>{ e with val:=ev v }) (fun _=>rfl) es.toList j) hc
end
end Go.Hp
namespace Go.Hp
open Go
def ItIs {κ ν:Type} (ek:κ→Value) (ev:ν→Value) (b:Nat) (o oi:Obj) (l d:List (κ × ν)):Prop :=
 ∃ (es:Array MapEntry) (clock:Nat) (f:κ→Nat),o=.map es clock∧oi=.mapIter (some b) clock (d.map (fun p=>f p.1)).toArray clock ∧
  (∀ p ∈ l,∃ e ∈ es.toList,e.key=ek p.1∧e.val=ev p.2∧e.born=f p.1)∧(∀ e ∈ es.toList,∃ p ∈ l,e.key=ek p.1∧e.val=ev p.2∧e.born=f p.1) ∧
  (∀ p ∈ l,∀ q ∈ l,f p.1=f q.1→p=q)∧(∀ p ∈ d,p ∈ l)∧(d.map (·.1)).Nodup∧(l.map (·.1)).Nodup∧(∀ e ∈ es.toList,e.born<clock)∧(es.toList.map (·.born)).Nodup
section
variable {κ:Type} [DecidableEq κ] {ν:Type} {ek:κ→Value} {ev:ν→Value} {P:Program} {w w0:World} {b bi:Nat} {o oi:Obj} {l d:List (κ × ν)} {H:List Chunk}
theorem ItIs.start (hm:MapIs ek ev o l) (b:Nat):∃ es clock,o=.map es clock∧ItIs ek ev b o (.mapIter (some b) clock #[] clock) l []:=by
 obtain⟨⟨es,clock,rfl,hes,hp,hc⟩,hn⟩:=hm;refine⟨es,clock,rfl,es,clock,fun k=>((es.toList[(l.map (·.1)).idxOf k]?).map (·.born)).getD 0,rfl,rfl,?_,?_,?_,by simp,by simp,hn,hc,?_⟩
 all_goals
  have hlen:es.toList.length=l.length:=by have:=congrArg List.length hes;simpa using this
  have hat:∀ j (hj:j<l.length),(l.map (·.1)).idxOf (l[j]).1=j:=by
   intro j hj;have h1:=hn.idxOf_getElem j (by simpa using hj)
   simpa using h1
  have hej:∀ j (hj:j<l.length),(es.toList[j]'(by omega)).key=ek (l[j]).1∧(es.toList[j]'(by omega)).val=ev (l[j]).2:=by
   intro j hj;have h4:=congrArg (fun l=>l[j]?) hes;simp only [List.getElem?_map] at h4;rw [List.getElem?_eq_getElem hj,List.getElem?_eq_getElem (by omega:j<es.toList.length)] at h4
   simpa using h4
 ·intro p hp'
  obtain⟨j,hj,rfl⟩:=List.mem_iff_getElem.1 hp';refine⟨es.toList[j]'(by omega),List.getElem_mem _,(hej j hj).1,(hej j hj).2,?_⟩;dsimp only;rw [hat j hj,List.getElem?_eq_getElem (by omega:j<es.toList.length)]
  rfl
 ·intro e he
  obtain⟨j,hj,rfl⟩:=List.mem_iff_getElem.1 he;have hj':j<l.length:=by omega
  refine⟨l[j],List.getElem_mem _,(hej j hj').1,(hej j hj').2,?_⟩;dsimp only;rw [hat j hj',List.getElem?_eq_getElem hj]
  rfl
 ·intro p hp' q hq' hpq
  obtain⟨i,hi,rfl⟩:=List.mem_iff_getElem.1 hp';obtain⟨j,hj,rfl⟩:=List.mem_iff_getElem.1 hq';dsimp only at hpq;rw [hat i hi,hat j hj,List.getElem?_eq_getElem (by omega:i<es.toList.length),List.getElem?_eq_getElem (by omega:j<es.toList.length)] at hpq;simp only [Option.map_some,Option.getD_some] at hpq;have hpw:=List.pairwise_iff_getElem.1 hp
  have:i=j:=by
   rcases Nat.lt_trichotomy i j with h|h|h
   ·have:=hpw i j (by omega) (by omega) h;omega
   ·exact h
   ·have:=hpw j i (by omega) (by omega) h;omega
  subst this
  rfl
 ·have h1:(es.toList.map (·.born)).Pairwise (· < ·):=List.pairwise_map.2 hp
  exact h1.imp (fun h=>Nat.ne_of_lt h)
 omit [DecidableEq κ] in
theorem perm_of_subset {l d:List (κ × ν)} (hl:(l.map (·.1)).Nodup) (hd:(d.map (·.1)).Nodup) (h1:∀ p ∈ d,p ∈ l) (h2:∀ p ∈ l,p ∈ d):d.Perm l:=by
  have n1:l.Nodup:=by
   have:l.Pairwise (fun a b=>a.1≠b.1):=List.pairwise_map.1 hl;exact this.imp (fun h e=>h (by rw [e]))
  have n2:d.Nodup:=by
   have:d.Pairwise (fun a b=>a.1≠b.1):=List.pairwise_map.1 hd;exact this.imp (fun h e=>h (by rw [e]))
  exact (List.perm_ext_iff_of_nodup n2 n1).2 fun a=>⟨h1 a,h2 a⟩
 omit [DecidableEq κ] in
theorem run_next_is (hr:w.heap[bi]? = some oi) (hb:w.heap[b]? = some o) (h:ItIs ek ev b o oi l d) (ty:TypeId) :
  (d.Perm l∧(Instr.next (.pointer (some ⟨bi,0,none⟩)) false ty).run P w=.ok (.tuple #[.bool false]) w) ∨
  ∃ k v oi' w1,(w1=w∨w1=w.drew)∧(k,v) ∈ l∧k ∉ d.map (·.1)∧ItIs ek ev b o oi' l (d++[(k,v)])∧(Instr.next (.pointer (some ⟨bi,0,none⟩)) false ty).run P w=.ok (.tuple #[.bool true,ek k,ev v]) { w1 with heap:=w1.heap.setIfInBounds bi oi' }:=by
  obtain⟨es,clock,f,rfl,rfl,hlp,hep,hinj,hdl,hdn,hln,hc,hbn⟩:=h
  rcases run_next_at (P:=P) w ty bi b clock clock _ es clock hr hb hc (Nat.le_refl _) with ⟨h0,hrun⟩|⟨e,he,w1,hw1,hrun⟩
  ·left
   refine⟨perm_of_subset hln hdn hdl fun p hp=>?_,hrun⟩;obtain⟨e,hee,h1,h2,h3⟩:=hlp p hp
   have hnot:e ∉ (leftOf es (d.map (fun p=>f p.1)).toArray).toList:=by
    have:leftOf es (d.map (fun p=>f p.1)).toArray=#[]:=Array.eq_empty_of_size_eq_zero h0;rw [this];simp
   have hin:e.born ∈ d.map (fun p=>f p.1):=by
    rcases Decidable.em (e.born ∈ d.map (fun p=>f p.1)) with hx|hx
    ·exact hx
    ·exact absurd (by simp [leftOf];exact⟨by simpa using hee,fun a b hab hf=>hx (List.mem_map.2 ⟨(a,b),hab,hf⟩)⟩) hnot
   obtain⟨q,hq,hqe⟩:=List.mem_map.1 hin;have:=hinj q (hdl q hq) p hp (by rw [hqe,h3]);rw [← this];exact hq
  ·right
   have hes:e ∈ es.toList∧e.born ∉ d.map (fun p=>f p.1):=by
    simp [leftOf] at he;refine⟨by simpa using he.1,fun hx=>?_⟩;obtain⟨q,hq,hqe⟩:=List.mem_map.1 hx;exact he.2 q.1 q.2 hq hqe
   obtain⟨p,hp,h1,h2,h3⟩:=hep e hes.1
   have hnk:p.1 ∉ d.map (·.1):=by
    intro hx;obtain⟨q,hq,hqe⟩:=List.mem_map.1 hx;exact hes.2 (List.mem_map.2 ⟨q,hq,by rw [h3,hqe]⟩)
   refine⟨p.1,p.2,_,w1,hw1,hp,hnk,⟨es,clock,f,rfl,rfl,hlp,hep,hinj,?_,?_,hln,hc,hbn⟩,?_⟩
   ·intro q hq
    rcases List.mem_append.1 hq with hq|hq
    ·exact hdl q hq
    ·simp at hq;rw [hq];exact hp
   ·rw [List.map_append,List.map_cons,List.map_nil]
    exact List.nodup_append.2 ⟨hdn,by simp,fun a ha b hb=>by simp at hb;subst hb;intro e;subst e;exact hnk ha⟩
   ·rw [hrun,h1,h2]
    simp [Go.ChangeMaps.setBlock,h3]
 omit [DecidableEq κ] in
theorem run_entry_is (hr:w.heap[bi]? = some oi) (hb:w.heap[b]? = some o) {k:κ} {v:ν} (h:ItIs ek ev b o oi l (d++[(k,v)])):(Instr.entry (.pointer (some ⟨bi,0,none⟩))).run P w=.ok (.tuple #[ek k,ev v]) w:=by
  obtain⟨es,clock,f,rfl,rfl,hlp,hep,hinj,hdl,hdn,hln,hc,hbn⟩:=h;obtain⟨e,he,h1,h2,h3⟩:=hlp (k,v) (hdl _ (by simp));have:=run_entry_at (P:=P) w bi b clock (d.map (fun p=>f p.1)).toArray es clock e (by rw [hr,h3];simp) hb he hbn;rw [this,h1,h2]
end
section
variable {κ:Type} [DecidableEq κ] {ν:Type} {ek:κ→Value} {ev:ν→Value}
variable {P:Program} {ops:Array Oper} {Q:Exit→Act→World→Prop} {rest:List Oper} {a:Act} {w w0:World} {H:List Chunk} {K:Act→Prop}
variable {dst:Option Tmp} {ty T E Tm:TypeId} {pos:String} {aft:Array Edge} {g:Option (Nat × Bool)} {x y ix:Operand} {b bi:Nat} {o oi:Obj} {l d:List (κ × ν)}
theorem Heap.setObj {o':Obj} (j:Nat) (hS:Heap w0 w H) (hj:H[j]? = some (.blk b o)):Heap w0 { w with heap:=w.heap.setIfInBounds b o' } (H.set j (.blk b o')):=by
 have hb:=hS.blk (List.mem_of_getElem? hj);have hlt:=(Array.getElem?_eq_some_iff.1 hb).1;exact hS.write j hj rfl rfl rfl (Nat.le_refl _) (by simp) (by simp [hlt]) (fun k _ hne=>by simp [Array.getElem?_setIfInBounds_ne (Ne.symm hne)])
theorem seq_makeMap (hS:Heap w0 w H) (hk:∀ b w',Heap w0 w' (H++[.blk b (.map #[] 0)])→wpList P ops Q rest (a.put dst (.map (some b))) w'):wpList P ops Q (⟨dst,.makeMap T none,ty,pos,aft,none⟩::rest) a w :=
 seq_heap (w':=w.alloc (.map #[] 0)) (v:=.map (some w.heap.size)) rfl rfl (hk _ _ (hS.alloc _))
theorem stp_lookup {z:ν} {k:κ} (j:Nat) (hu:P.underlying Tm=some (.map T E)) (hz:∀ w,(zeroValue E).run P w=.ok (ev z) w) (Kk:KeyOk P T ek) (hx:a.eval x=.map (some b)) (hi:a.eval ix=ek k) (hj:H[j]? = some (.blk b o)) (hm:MapIs ek ev o l)
 (hk:K (a.put dst (ev ((getL l k).getD z)))):Stp P w0 H ⟨dst,.lookup Tm x ix false,ty,pos,aft,g⟩ a K:=by
 refine⟨⟨_,fun w' hS=>?_,hk⟩⟩;have hr:=run_lookup_is (P:=P) (Tm:=Tm) hu hz Kk (hS.blk (List.mem_of_getElem? hj)) hm k;generalize a.eval=ρ at hx hi;simp only [execOp,hx,hi,Sem.run_bind,hr,Result.andThen_ok,Sem.run_pure]
theorem seq_mapUpdate {k:κ} {v:ν} (j:Nat) (hS:Heap w0 w H) (hu:P.underlying Tm=some (.map T E)) (Kk:KeyOk P T ek) (hx:a.eval x=.map (some b)) (hi:a.eval ix=ek k) (hy:a.eval y=ev v) (hj:H[j]? = some (.blk b o)) (hm:MapIs ek ev o l)
 (hg:Region.wanted ⟨dst,.mapUpdate Tm x ix y,ty,pos,aft,g⟩ (yielded ops a.tmps)=true)
 (hk:∀ o' w',MapIs ek ev o' (putL l k v)→Heap w0 w' (H.set j (.blk b o'))→wpList P ops Q rest (a.put dst undef) w'):wpList P ops Q (⟨dst,.mapUpdate Tm x ix y,ty,pos,aft,g⟩::rest) a w:=by
 obtain⟨o',hr,hm'⟩:=run_mapUpdate_is (P:=P) (Tm:=Tm) hu Kk (hS.blk (List.mem_of_getElem? hj)) hm k v;refine seq_skip hg ?_ (hk o' _ hm' (hS.setObj j hj));generalize a.eval=ρ at hx hi hy;simp only [execOp,hx,hi,hy,Sem.run_bind,hr,Result.andThen_ok,Sem.run_pure]
theorem seq_mapEntry {z:ν} {k:κ} (j:Nat) (hS:Heap w0 w H) (hu:P.underlying Tm=some (.map T E)) (hz:∀ w,(zeroValue E).run P w=.ok (ev z) w) (Kk:KeyOk P T ek) (hx:a.eval x=.map (some b)) (hi:a.eval ix=ek k) (hj:H[j]? = some (.blk b o)) (hm:MapIs ek ev o l)
 (hg:Region.wanted ⟨dst,.mapEntry Tm x ix,ty,pos,aft,g⟩ (yielded ops a.tmps)=true)
 (hk:∀ o' w' (st:Nat),MapIs ek ev o' (putL l k ((getL l k).getD z))→BornAt ek o' k st→Heap w0 w' (H.set j (.blk b o'))→wpList P ops Q rest (a.put dst (.tuple #[ev ((getL l k).getD z),.int .i64 st])) w'):wpList P ops Q (⟨dst,.mapEntry Tm x ix,ty,pos,aft,g⟩::rest) a w:=by
 obtain⟨o',st,hr,hm',hs⟩:=run_mapEntry_is (P:=P) (Tm:=Tm) hu hz Kk (hS.blk (List.mem_of_getElem? hj)) hm k;refine seq_heap hg ?_ (hk o' _ st hm' hs (hS.setObj j hj));generalize a.eval=ρ at hx hi;simp only [execOp,hx,hi,Sem.run_bind,hr,Result.andThen_ok,Sem.run_pure]
theorem putL_putL (l:List (κ × ν)) (k:κ) (u v:ν):putL (putL l k u) k v=putL l k v:=by
 induction l with
 | nil=>simp [putL]
 | cons p l ih =>
  obtain⟨x,t⟩:=p;simp only [putL]
  split
  ·rename_i h;simp [putL,h]
  ·rename_i h;simp [putL,h,ih]
theorem seq_entryStore {u:ν} {v:ν} {k:κ} {st:Nat} (j:Nat) (hS:Heap w0 w H) (hinj:∀ x y,ek x=ek y→x=y) (hx:a.eval x=.map (some b)) (hi:a.eval ix=.int .i64 st) (hy:a.eval y=ev v) (hj:H[j]? = some (.blk b o)) (hm:MapIs ek ev o (putL l k u)) (hst:BornAt ek o k st)
 (hg:Region.wanted ⟨dst,.entryStore Tm x ix y,ty,pos,aft,g⟩ (yielded ops a.tmps)=true)
 (hk:∀ o' w',MapIs ek ev o' (putL l k v)→Heap w0 w' (H.set j (.blk b o'))→wpList P ops Q rest (a.put dst undef) w'):wpList P ops Q (⟨dst,.entryStore Tm x ix y,ty,pos,aft,g⟩::rest) a w:=by
 obtain⟨o',hr,hm'⟩:=run_entryStore_is (P:=P) (Tm:=Tm) (hS.blk (List.mem_of_getElem? hj)) hm (k:=k) (v0:=u) (by rw [getL_putL,if_pos rfl]) hinj hst v;rw [putL_putL] at hm';refine seq_skip hg ?_ (hk o' _ hm' (hS.setObj j hj));generalize a.eval=ρ at hx hi hy;simp only [execOp,hx,hi,hy,Sem.run_bind,hr,Result.andThen_ok,Sem.run_pure]
theorem seq_range (j:Nat) (hS:Heap w0 w H) (hu:P.underlying Tm=some (.map T E)) (hx:a.eval x=.map (some b)) (hj:H[j]? = some (.blk b o)) (hm:MapIs ek ev o l)
 (hg:Region.wanted ⟨dst,.range Tm x,ty,pos,aft,g⟩ (yielded ops a.tmps)=true)
 (hk:∀ bi oi w',ItIs ek ev b o oi l []→Heap w0 w' (H++[.blk bi oi])→wpList P ops Q rest (a.put dst (.pointer (some ⟨bi,0,none⟩))) w'):wpList P ops Q (⟨dst,.range Tm x,ty,pos,aft,g⟩::rest) a w:=by
 obtain⟨es,clock,ho,hit⟩:=ItIs.start hm b;subst ho;have hb:=hS.blk (List.mem_of_getElem? hj);refine seq_heap (w':=w.alloc (.mapIter (some b) clock #[] clock)) (v:=.pointer (some ⟨w.heap.size,0,none⟩)) hg ?_ (hk _ _ _ hit (hS.alloc _));generalize a.eval=ρ at hx;simp only [execOp,hx,Instr.range,Sem.run_bind,run_underlying hu,Result.andThen_ok,MapKept.run_getObj_map hb,Sem.run_pure]
 rfl
 omit [DecidableEq κ] in
theorem seq_next (j ji:Nat) (hS:Heap w0 w H) (hx:a.eval x=.pointer (some ⟨bi,0,none⟩)) (hj:H[j]? = some (.blk b o)) (hji:H[ji]? = some (.blk bi oi)) (hit:ItIs ek ev b o oi l d)
  (hg:Region.wanted ⟨dst,.next x false,ty,pos,aft,g⟩ (yielded ops a.tmps)=true)
  (hover:d.Perm l→wpList P ops Q rest (a.put dst (.tuple #[.bool false])) w)
  (hk:∀ k v oi' w',(k,v) ∈ l→k ∉ d.map (·.1)→ItIs ek ev b o oi' l (d++[(k,v)])→Heap w0 w' (H.set ji (.blk bi oi'))→wpList P ops Q rest (a.put dst (.tuple #[.bool true,ek k,ev v])) w'):wpList P ops Q (⟨dst,.next x false,ty,pos,aft,g⟩::rest) a w:=by
  rcases run_next_is (P:=P) (hS.blk (List.mem_of_getElem? hji)) (hS.blk (List.mem_of_getElem? hj)) hit ty with ⟨hp,hr⟩|⟨k,v,oi',w1,hw1,hkl,hkd,hit',hr⟩
  ·refine seq_heap hg ?_ (hover hp)
   generalize a.eval=ρ at hx;simp only [execOp,hx,Sem.run_bind,hr,Result.andThen_ok,Sem.run_pure]
  ·have hS1:Heap w0 w1 H:=by rcases hw1 with rfl|rfl <;> first|exact hS|exact hS.drew
   refine seq_heap hg ?_ (hk k v oi' _ hkl hkd hit' (hS1.setObj ji hji));generalize a.eval=ρ at hx;simp only [execOp,hx,Sem.run_bind,hr,Result.andThen_ok,Sem.run_pure]
 omit [DecidableEq κ] in
theorem stp_entry {k:κ} {v:ν} (j ji:Nat) (hx:a.eval x=.pointer (some ⟨bi,0,none⟩)) (hj:H[j]? = some (.blk b o)) (hji:H[ji]? = some (.blk bi oi)) (hit:ItIs ek ev b o oi l (d++[(k,v)]))
  (hk:K (a.put dst (.tuple #[ek k,ev v]))):Stp P w0 H ⟨dst,.entry x,ty,pos,aft,g⟩ a K:=by
  refine⟨⟨_,fun w' hS=>?_,hk⟩⟩;have hr:=run_entry_is (P:=P) (hS.blk (List.mem_of_getElem? hji)) (hS.blk (List.mem_of_getElem? hj)) hit;generalize a.eval=ρ at hx;simp only [execOp,hx,Sem.run_bind,hr,Result.andThen_ok,Sem.run_pure]
theorem g_mm (h:wpList P ops Q (⟨dst,.makeMap T none,ty,pos,aft,g⟩::rest) a w):wpList P ops Q (⟨dst,.makeMap T none,ty,pos,aft,g⟩::rest) a w:=h
theorem g_mu (h:wpList P ops Q (⟨dst,.mapUpdate T x ix y,ty,pos,aft,g⟩::rest) a w):wpList P ops Q (⟨dst,.mapUpdate T x ix y,ty,pos,aft,g⟩::rest) a w:=h
theorem g_me (h:wpList P ops Q (⟨dst,.mapEntry T x ix,ty,pos,aft,g⟩::rest) a w):wpList P ops Q (⟨dst,.mapEntry T x ix,ty,pos,aft,g⟩::rest) a w:=h
theorem g_es (h:wpList P ops Q (⟨dst,.entryStore T x ix y,ty,pos,aft,g⟩::rest) a w):wpList P ops Q (⟨dst,.entryStore T x ix y,ty,pos,aft,g⟩::rest) a w:=h
theorem g_rng (h:wpList P ops Q (⟨dst,.range T x,ty,pos,aft,g⟩::rest) a w):wpList P ops Q (⟨dst,.range T x,ty,pos,aft,g⟩::rest) a w:=h
theorem g_nxt (h:wpList P ops Q (⟨dst,.next x false,ty,pos,aft,g⟩::rest) a w):wpList P ops Q (⟨dst,.next x false,ty,pos,aft,g⟩::rest) a w:=h
theorem g_ent (h:wpList P ops Q (⟨dst,.entry x,ty,pos,aft,g⟩::rest) a w):wpList P ops Q (⟨dst,.entry x,ty,pos,aft,g⟩::rest) a w:=h
end
def ik (k:Int):Value:=.int .i64 k
theorem keyOk_int {P:Program} {T:TypeId} (hu:P.underlying T=some (.int .i64)):KeyOk P T ik:=by
 refine⟨fun e k w=>?_,?_,fun k w=>?_⟩
 ·rw [show (10000:Nat)=9999+1 from rfl]
  unfold Instr.checkKey;simp [ik,run_underlying hu]
 ·intro k ks es w h
  have hgen:∀ (ks:List Int) (es:List MapEntry) (i:Nat),es.map (·.key)=ks.map ik→Instr.findNow (.int .i64) (ik k) es i=some (look k ks es i):=by
   intro ks
   induction ks with
   | nil =>
    intro es i h;have:es=[]:=by simpa using h
    subst this
    rfl
   | cons x ks ih =>
    intro es i h;cases es with
    | nil=>simp at h
    | cons e es =>
     simp only [List.map_cons,List.cons.injEq] at h;simp only [Instr.findNow,h.1,ik,Instr.sameNow,if_true,look]
     by_cases hk:k=x
     ·simp [hk]
     ·have:(k == x)=false:=by simpa using hk
      simp only [this,if_neg hk];exact ih es (i+1) h.2
  unfold Instr.findKey;simp only [Sem.run_bind,run_underlying hu,Result.andThen_ok,hgen ks es 0 h,Sem.run_pure]
 ·simp [Instr.keyThatStays,ik,Instr.sameBits]
theorem keyOk_agg {κ:Type} [DecidableEq κ] {P:Program} {T:TypeId} {d:TypeDesc} {ek:κ→Value} (hu:P.underlying T=some d) (hagg:∀ k,∃ cs,ek k=.agg cs) (hchk:∀ (e:Bool) (k:κ) (w:World),(Instr.checkKey e 10000 T (ek k)).run P w=.ok () w)
 (heq:∀ (k x:κ) (w:World),(Op.equal T (ek k) (ek x)).run P w=.ok (decide (k=x)) w) (hst:∀ k,Instr.sameBits 10000 (ek k) (ek k)=true):KeyOk P T ek:=by
 refine⟨hchk,?_,fun k w=>by simp [Instr.keyThatStays,hst k]⟩;intro k ks es w h
 have hask:∀ (ks:List κ) (es:List MapEntry) (i:Nat),es.map (·.key)=ks.map ek→(Instr.findAsking T (ek k) es i).run P w=.ok (look k ks es i) w:=by
  intro ks
  induction ks with
  | nil =>
   intro es i h;have:es=[]:=by simpa using h
   subst this
   rfl
  | cons x ks ih =>
   intro es i h;cases es with
   | nil=>simp at h
   | cons e es =>
    simp only [List.map_cons,List.cons.injEq] at h;simp only [Instr.findAsking,h.1,Sem.run_bind,heq,Result.andThen_ok,look]
    by_cases hk:k=x
    ·simp [hk]
    ·simp only [hk,decide_false,Bool.false_eq_true,if_false]
     exact ih es (i+1) h.2
 unfold Instr.findKey;simp only [Sem.run_bind,run_underlying hu,Result.andThen_ok];obtain⟨c1,hc1⟩:=hagg k;cases es with
 | nil =>
  have:ks=[]:=by cases ks with|nil=>rfl|cons x ks=>simp at h
  subst this;simp [Instr.findNow,look]
 | cons e es =>
  cases ks with
  | nil=>simp at h
  | cons x ks =>
   obtain⟨c2,hc2⟩:=hagg x
   have hnone:Instr.findNow d (ek k) (e::es) 0=none:=by
    simp only [List.map_cons,List.cons.injEq] at h;simp only [Instr.findNow,h.1,hc1,hc2];cases d <;> rfl
   simp only [hnone];exact hask (x::ks) (e::es) 0 h
end Go.Hp
namespace Go.Hp
open Go Go.RowKit
theorem inI_zs {xs:List Nat} (hb:∀ x ∈ xs,x≤9223372036854775807):∀ x ∈ zs xs,InI x:=by
 intro x hx;simp only [zs,List.mem_map] at hx;obtain⟨y,hy,rfl⟩:=hx;have:=hb y hy;exact⟨by omega,by omega⟩
section
variable {P:Program} {ops:Array Oper} {Q:Exit→Act→World→Prop} {rest:List Oper} {a:Act} {w w0:World} {H:List Chunk} {K:Act→Prop}
variable {dst:Option Tmp} {ty T E Tm:TypeId} {pos:String} {aft:Array Edge} {g:Option (Nat × Bool)} {x y ix:Operand}
variable {κ:Type} [DecidableEq κ] {ν:Type} {ek:κ→Value} {ev:ν→Value} {b bi:Nat} {o oi:Obj} {l d:List (κ × ν)}
end
def Rest (w:World) (B:List Chunk):Nat→Prop:=fun k=>k<w.heap.size∧∀ c ∈ B,¬ c.has k
theorem Heap.split {w0 w:World} {A B:List Chunk} (h:Heap w0 w (A++B)):Heap w w (.frz (Rest w B) w::B):=by
 have hap:=List.pairwise_append.1 h.apart;refine⟨rfl,rfl,rfl,Nat.le_refl _,Nat.le_refl _,?_,?_⟩
 ·intro c hc
  rcases List.mem_cons.1 hc with rfl|hc
  ·exact fun k hk=>⟨hk.1,rfl⟩
  ·exact h.ok c (by simp [hc])
 ·exact List.pairwise_cons.2 ⟨fun c hc k hk=>hk.2 c hc,hap.2.1⟩
theorem Heap.unsplit {w0 w w':World} {A B B':List Chunk} (h:Heap w0 w (A++B)) (h':Heap w w' (.frz (Rest w B) w::B')):Heap w0 w' (A++B'):=by
 have hap:=List.pairwise_append.1 h.apart;have hap':=List.pairwise_cons.1 h'.apart;have hR:=h'.ok (.frz (Rest w B) w) (by simp);have hA:∀ c ∈ A,∀ k,c.has k→Rest w B k:=fun c hc k hk=>⟨Chunk.lt (h.ok c (by simp [hc])) hk,fun d hd=>hap.2.2 c hc d hd k hk⟩
 refine⟨h'.os.trans h.os,h'.tape.trans h.tape,h'.output.trans h.output,Nat.le_trans h.drawn h'.drawn,Nat.le_trans h.size h'.size,?_,?_⟩
 ·intro c hc
  rcases List.mem_append.1 hc with hc|hc
  ·exact Chunk.ok_of (h.ok c (by simp [hc])) h'.size fun k hk=>(hR k (hA c hc k hk)).2
  ·exact h'.ok c (by simp [hc])
 ·exact List.pairwise_append.2 ⟨hap.1,hap'.2,fun c hc d hd k hk=>hap'.1 d hd k (hA c hc k hk)⟩
end Go.Hp
namespace Go.Hp
open Go
section
variable {P:Program} {ops:Array Oper} {Q:Exit→Act→World→Prop} {rest:List Oper} {a:Act} {w w0:World} {H:List Chunk} {K:Act→Prop} {C:World→Prop} {s:List Mv} {i:Nat}
variable {dst:Option Tmp} {ty T E Tb:TypeId} {pos:String} {aft:Array Edge} {gd:Option (Nat × Bool)} {x y ix:Operand} {g n c:Nat}
theorem Heap.rowAt {ad:Option Addr} {k:Nat} {cs:List Value} (hS:Heap w0 w H) (j:Nat) (hj:H[j]? = some (.row (.slice ad n c) Tb k n cs)) (hn:0<n):∃ g,ad=some ⟨g,0,none⟩:=by
 rcases (hS.ok _ (List.mem_of_getElem? hj)).2 with ⟨h1,h2⟩|⟨g,cap,cur,h1,_⟩
 ·omega
 ·simp only [Value.slice.injEq] at h1
  exact⟨g,h1.1⟩
theorem any_index_at {off:Nat} (hu:P.underlying T=some (.slice E)) (hz:∀ w,(sizeOf E).run P w=.ok 1 w) {i:Int} (hx:a.eval x=.slice (some ⟨g,off,none⟩) n c) (hi:a.eval ix=.int .i64 i) (hlo:0≤i) (hhi:i<n)
 (hk:K (a.put dst (.pointer (some ⟨g,off+i.toNat,none⟩)))):StpAny P ⟨dst,.indexAddr T x ix,ty,pos,aft,gd⟩ a K:=by
 have hadd:(⟨g,off,none⟩:Addr).add (i.toNat*1)=⟨g,off+i.toNat,none⟩:=by rw [Nat.mul_one];unfold Addr.add;split <;> simp_all
 refine⟨⟨.pointer (some ⟨g,off+i.toNat,none⟩),fun w'=>?_,hk⟩⟩;generalize a.eval=ρ at hx hi;simp [execOp,hx,hi,Instr.indexAt,asIntOf,go_sem,run_underlying hu,hlo,hhi,hz,hadd]
theorem stp_load_row {xs:List Int} {i:Nat} (j:Nat) (hna:∀ w,(isAgg T).run P w=.ok false w) (hx:a.eval x=.pointer (some ⟨g,i,none⟩)) (hj:H[j]? = some (.row (.slice (some ⟨g,0,none⟩) n c) Tb 1 n (iv xs))) (hi:i<n)
 (hk:K (a.put dst (.int .i64 (nth 0 xs i)))):Stp P w0 H ⟨dst,.load T x,ty,pos,aft,gd⟩ a K:=by
 refine⟨⟨_,fun w' hS=>?_,hk⟩⟩;obtain⟨hl,ho⟩:=hS.ok _ (List.mem_of_getElem? hj)
 rcases ho with ⟨h1,h2⟩|⟨g',cap,cur,h1,_,hg,_,_,hcs,htk⟩
 ·omega
 ·simp only [Value.slice.injEq,Option.some.injEq,Addr.mk.injEq] at h1
  obtain⟨⟨rfl,-⟩,-,rfl⟩:=h1;have hl2:i<xs.length:=by rw [iv_length] at hl;omega
  have h1:w'.cell? ⟨g,i,none⟩=some (.int .i64 (nth 0 xs i)):=by
   rw [cell_of_row w' g i cur Tb (0,0) hg];have h3:(cur.toList.take (n*1))[i]? = some (.int .i64 (nth 0 xs i)):=by rw [htk,iv,List.getElem?_map,List.getElem?_eq_getElem hl2,nth_eq 0 xs i hl2];rfl
   rw [List.getElem?_take,if_pos (by omega)] at h3
   simpa using h3
  generalize a.eval=ρ at hx;simp [execOp,hx,Instr.loadAt,Instr.sureAddr,loadVar,hna,go_sem,h1]
theorem seq_store_row {xs:List Int} {i:Nat} {v:Int} (j:Nat) (hS:Heap w0 w H) (hx:a.eval x=.pointer (some ⟨g,i,none⟩)) (hy:a.eval y=.int .i64 v) (hj:H[j]? = some (.row (.slice (some ⟨g,0,none⟩) n c) Tb 1 n (iv xs))) (hi:i<n)
 (hT:∀ w,(sizeOf T).run P w=.ok 1 w)
 (hk:∀ w',Heap w0 w' (H.set j (.row (.slice (some ⟨g,0,none⟩) n c) Tb 1 n (iv (xs.set i v))))→wpList P ops Q rest (a.put dst undef) w') :
 wpList P ops Q (⟨dst,.store T x y,ty,pos,aft,none⟩::rest) a w:=by
 obtain⟨hl,ho⟩:=hS.ok _ (List.mem_of_getElem? hj)
 rcases ho with ⟨h1,h2⟩|⟨g',cap,cur,h1,hb0,hg,hnc,hcm,hcs,htk⟩
 ·omega
 ·simp only [Value.slice.injEq,Option.some.injEq,Addr.mk.injEq] at h1
  obtain⟨⟨rfl,-⟩,-,rfl⟩:=h1;rw [iv_length] at hl;have hr:=run_store_blk (P:=P) (T:=T) (u:=.int .i64 v) (off:=i) hT hg (by simp [Value.cells,Value.oneCell']) (by simp [Value.cells];omega);refine seq_skip (w':=w.setRow g (cur.toList.take i++(Value.int .i64 v).cells.toList++cur.toList.drop (i+(Value.int .i64 v).cells.size)).toArray) rfl ?_ (hk _ ?_)
  ·generalize a.eval=ρ at hx hy
   simp only [execOp,hx,hy,Instr.storeAt,Instr.sureAddr,Sem.run_bind,Sem.run_pure,Result.andThen_ok,hr]
  ·have hset:(cur.toList.take i++(Value.int .i64 v).cells.toList++cur.toList.drop (i+(Value.int .i64 v).cells.size))=cur.toList.set i (.int .i64 v):=by
    rw [List.set_eq_take_append_cons_drop,if_pos (by rw [Array.length_toList];omega)];simp [Value.cells]
   rw [hset];refine hS.turn j hj rfl rfl rfl (Nat.le_refl _) (by simp [World.setRow]) ?_ (fun k hk=>.inl hk) (fun k _ hne=>setRow_other w g k _ (fun e=>hne (by simp [Chunk.has,Value.ownBlock,e])));refine⟨by rw [iv_length,List.length_set];omega,.inr ⟨g,c,_,rfl,hb0,setRow_heap w g cur _ Tb (0,0) hg,hnc,hcm,by simp [hcs],?_⟩⟩;rw [List.take_set,htk,iv,iv,List.map_set]
theorem wp_region_sched0 {id:Nat} {a:Act} {w:World} {l:List Oper} (s:List Mv) (M:List Nat) (C:World→Prop) (hm:P.follows .mixedOrders=true)
 (hok:(Region.noSelect l.toArray && (s.length == l.length) && schedOk .any l.toArray M s (Array.replicate l.length false))=true) (hC:C w.drew)
 (h:wpSched P l.toArray (NoPanic Q) C s a w.drew):(Code.region id l.toArray true).wp P Q a w:=by
 simp only [Bool.and_eq_true,beq_iff_eq] at hok;obtain⟨⟨h1,h2⟩,h3⟩:=hok;refine wp_mono (Q:=NoPanic Q) (wp_region_any hm ?_) (fun e a w hq=>by cases e <;> first|exact hq|exact hq.elim);have:=wpG_of_sched (P:=P) (Q:=NoPanic Q) (md:=.any) (M:=M) (C:=C) h1 (fun c a w hq=>hq) s (Array.replicate l.length false) a w.drew h3 (closed_start _) (fun _=>hC) h;rw [h2] at this
 simpa using this.any
end
end Go.Hp
