/- Texts for the walk of the law: Base1. -/
import Derived.WalkKit
import Derived.WalkSpells
import Derived.WalkLawsBesides
import Derived.Outline
import Derived.BigQuiet
import Derived.Lib.Hide
import Derived.Deep.QuietTactic
import Derived.Deep.DeepFit
import Derived.OrdersHeld
import Derived.Maps.RangeRun
set_option maxRecDepth 100000
set_option maxHeartbeats 16000000
set_option linter.unusedVariables false
set_option linter.unusedSimpArgs false
namespace Go.Hp
open Go Go.RowKit
theorem bW {α:Type _} {l:List α} {i:Nat} {a:α} (h:l[i]?=some a):a∈l:=List.mem_of_getElem? h
def bQ (x:Int):Prop:=-9223372036854775808≤x∧x≤9223372036854775807
def nth {α:Type} (d:α) (xs:List α) (i:Nat):α:=xs.getD i d
theorem bS {α:Type} (d:α) (xs:List α) (i:Nat) (h:i<xs.length):nth d xs i=xs[i]:=by simp [nth,List.getD_eq_getElem?_getD,h]
inductive Chunk where
 | aB (b:Nat) (o:Obj)
 | aH (S:Nat→Prop) (wr:World)
 | row (v:Value) (T:TypeId) (k n:Nat) (cs:List Value)
def Chunk.has:Chunk→Nat→Prop
 | .aB b _,k=>k=b
 | .aH S _,k=>S k
 | .row v _ _ _ _,k=>v.ownBlock=some k
def Chunk.ok (w:World):Chunk→Prop
 | .aB b o=>w.heap[b]? = some o
 | .aH S wr=>∀ k,S k→k<w.heap.size∧w.heap[k]? = wr.heap[k]?
 | .row v T k n cs=>w.ownsRow 0 T k v n cs
structure aA (w0 w:World) (H:List Chunk):Prop where
 os:w.os=w0.os
 tape:w.tape=w0.tape
 output:w.output=w0.output
 drawn:w0.drawn≤w.drawn
 size:w0.heap.size≤w.heap.size
 ok:∀ c ∈ H,c.ok w
 apart:H.Pairwise (fun c d=>∀ k,c.has k→¬ d.has k)
def Old (w:World):Nat→Prop:=fun k=>k<w.heap.size
def ja (w w':World):Nat→Prop:=fun k=>w.heap.size≤k∧k<w'.heap.size
theorem aA.start (w:World):aA w w [.aH (Old w) w] :=
 ⟨rfl,rfl,rfl,Nat.le_refl _,Nat.le_refl _,by intro c hc;simp at hc;subst hc;exact fun k hk=>⟨hk,rfl⟩,by simp⟩
theorem Chunk.lt {w:World} {c:Chunk} (h:c.ok w) {k:Nat} (hk:c.has k):k<w.heap.size:=by
 cases c with
 | aB b o=>simp only [Chunk.has] at hk;subst hk;exact (Array.getElem?_eq_some_iff.1 h).1
 | aH S wr=>exact (h k hk).1
 | row v T z n cs=>exact (World.ownsRow.lt h k hk).2
theorem Chunk.aAV {w w':World} {c:Chunk} (h:c.ok w) (hs:w.heap.size≤w'.heap.size) (hb:∀ k,c.has k→w'.heap[k]? = w.heap[k]?):c.ok w':=by
 cases c with
 | aB b o=>simp only [Chunk.ok] at *;rw [hb b rfl];exact h
 | aH S wr=>exact fun k hk=>⟨Nat.lt_of_lt_of_le (h k hk).1 hs,(hb k hk).trans (h k hk).2⟩
 | row v T z n cs =>
  obtain⟨h1,h2⟩:=h;refine⟨h1,?_⟩
  rcases h2 with h2|⟨g,cap,cur,rfl,hg,fD,hr⟩
  ·exact .inl h2
  ·exact .inr ⟨g,cap,cur,rfl,hg,(hb g rfl).trans fD,hr⟩
theorem aA.below {w0 w w':World} {H:List Chunk} (h:aA w0 w H) (hb:Below w.heap.size w w') (hd:w.drawn≤w'.drawn):aA w0 w' H :=
 ⟨hb.os.trans h.os,hb.tape.trans h.tape,hb.output.trans h.output,Nat.le_trans h.drawn hd,Nat.le_trans h.size hb.size,
  fun c hc=>Chunk.aAV (h.ok c hc) hb.size (fun k hk=>hb.block k (Chunk.lt (h.ok c hc) hk)),h.apart⟩
theorem a07 {α:Type} {R:α→α→Prop} {l:List α} {x:α} (h:l.Pairwise R) (hx:∀ y ∈ l,R y x):(l++[x]).Pairwise R :=
 List.pairwise_append.2 ⟨h,List.pairwise_singleton _ _,fun a ha b hb=>by simp at hb;subst hb;exact hx a ha⟩
theorem aA.call {w0 w w':World} {H:List Chunk} (h:aA w0 w H) (hb:Below w.heap.size w w') (hd:w.drawn≤w'.drawn):aA w0 w' (H++[.aH (ja w w') w']):=by
 have h':=h.below hb hd;refine⟨h'.os,h'.tape,h'.output,h'.drawn,h'.size,?_,?_⟩
 ·intro c hc
  rcases List.mem_append.1 hc with hc|hc
  ·exact h'.ok c hc
  ·simp at hc;subst hc
   exact fun k hk=>⟨hk.2,rfl⟩
 ·exact a07 h'.apart fun c hc k hk hn=>by
   have:=Chunk.lt (h.ok c hc) hk;have:=hn.1;omega
theorem aA.alloc {w0 w:World} {H:List Chunk} (h:aA w0 w H) (o:Obj):aA w0 (w.alloc o) (H++[.aB w.heap.size o]):=by
 have h':=h.below ((Below.refl w.heap.size w).alloc (Nat.le_refl _) o) (Nat.le_refl _);refine⟨h'.os,h'.tape,h'.output,h'.drawn,h'.size,?_,?_⟩
 ·intro c hc
  rcases List.mem_append.1 hc with hc|hc
  ·exact h'.ok c hc
  ·simp at hc;subst hc
   exact heap_alloc_new w o
 ·exact a07 h'.apart fun c hc k hk hn=>by
   have:=Chunk.lt (h.ok c hc) hk;simp only [Chunk.has] at hn;omega
theorem aA.drew {w0 w:World} {H:List Chunk} (h:aA w0 w H):aA w0 w.drew H:=h.below ((Below.refl _ w).drew) (Nat.le_succ _)
theorem aA.toBelow {w0 w:World} {H:List Chunk} (h:aA w0 w H) (hm:Chunk.aH (Old w0) w0 ∈ H):Below w0.heap.size w0 w :=
 ⟨h.os,h.tape,h.output,h.size,fun k hk=>(h.ok _ hm k hk).2⟩
theorem aA.sub {w0 w:World} {H H':List Chunk} (h:aA w0 w H) (hs:H'.Sublist H):aA w0 w H' :=
 ⟨h.os,h.tape,h.output,h.drawn,h.size,fun c hc=>h.ok c (hs.subset hc),h.apart.sublist hs⟩
theorem aA.perm {w0 w:World} {H H':List Chunk} (h:aA w0 w H) (hs:H'.Perm H):aA w0 w H' :=
 ⟨h.os,h.tape,h.output,h.drawn,h.size,fun c hc=>h.ok c (hs.mem_iff.1 hc),(hs.pairwise_iff (fun hR k hk hn=>hR k hn hk)).2 h.apart⟩
theorem aA.aB {w0 w:World} {H:List Chunk} (h:aA w0 w H) {b:Nat} {o:Obj} (hm:Chunk.aB b o ∈ H):w.heap[b]? = some o:=h.ok _ hm
theorem aA.aH {w0 w:World} {H:List Chunk} (h:aA w0 w H) {S:Nat→Prop} {wr:World} (hm:Chunk.aH S wr ∈ H) {k:Nat} (hk:S k):w.heap[k]? = wr.heap[k]?:=(h.ok _ hm k hk).2
theorem aA.sQ {w0 w w':World} {H:List Chunk} {c d:Chunk} (j:Nat) (h:aA w0 w H) (hj:H[j]? = some c) (cJ:w'.os=w.os) (ht:w'.tape=w.tape) (ry:w'.output=w.output)
 (jD:w.drawn≤w'.drawn) (dJ:w.heap.size≤w'.heap.size) (hd:d.ok w') (a3Y:∀ k,d.has k→c.has k∨w.heap.size≤k) (kF:∀ k,k<w.heap.size→¬ c.has k→w'.heap[k]? = w.heap[k]?):aA w0 w' (H.set j d):=by
 obtain⟨gX,vh⟩:=List.getElem?_eq_some_iff.1 hj;have lh:=List.pairwise_iff_getElem.1 h.apart
 have bG:∀ i (hi:i<H.length),i≠j→(H[i]).ok w'∧∀ k,(H[i]).has k→¬ d.has k:=by
  intro i hi fe;have aFJ:=h.ok H[i] (List.getElem_mem hi)
  have fU:∀ k,(H[i]).has k→¬ c.has k:=by
   intro k hk hc
   rcases Nat.lt_or_ge i j with aW|gB
   ·exact lh i j hi gX aW k hk (by rw [vh];exact hc)
   ·exact lh j i gX hi (by omega) k (by rw [vh];exact hc) hk
  refine⟨Chunk.aAV aFJ dJ fun k hk=>kF k (Chunk.lt aFJ hk) (fU k hk),fun k hk xd=>?_⟩
  rcases a3Y k xd with hc|hc
  ·exact fU k hk hc
  ·have:=Chunk.lt aFJ hk;omega
 refine⟨cJ.trans h.os,ht.trans h.tape,ry.trans h.output,Nat.le_trans h.drawn jD,Nat.le_trans h.size dJ,?_,?_⟩
 ·intro e he
  obtain⟨i,hi,rfl⟩:=List.mem_iff_getElem.1 he;rw [List.length_set] at hi;rw [List.getElem_set]
  split
  ·exact hd
  ·exact (bG i hi (fun e=>by subst e;contradiction)).1
 ·refine List.pairwise_iff_getElem.2 fun i l hi hl dj k=>?_
  rw [List.length_set] at hi hl;rw [List.getElem_set,List.getElem_set]
  split
  ·split
   ·omega
   ·exact fun hk hn=>(bG l hl (fun e=>by subst e;contradiction)).2 k hn hk
  ·split
   ·exact fun hk hn=>(bG i hi (fun e=>by subst e;contradiction)).2 k hk hn
   ·exact lh i l hi hl dj k
theorem aA.write {w0 w w':World} {H:List Chunk} {b:Nat} {o o':Obj} (j:Nat) (h:aA w0 w H) (hj:H[j]? = some (.aB b o)) (cJ:w'.os=w.os) (ht:w'.tape=w.tape) (ry:w'.output=w.output)
 (jD:w.drawn≤w'.drawn) (dJ:w.heap.size≤w'.heap.size) (hb:w'.heap[b]? = some o') (kF:∀ k,k<w.heap.size→k≠b→w'.heap[k]? = w.heap[k]?):aA w0 w' (H.set j (.aB b o')) :=
 h.sQ j hj cJ ht ry jD dJ hb (fun k hk=>.inl hk) kF
theorem aA.freeze {w0 w:World} {H:List Chunk} {c:Chunk} (j:Nat) (h:aA w0 w H) (hj:H[j]? = some c):aA w0 w (H.set j (.aH c.has w)) :=
 h.sQ j hj rfl rfl rfl (Nat.le_refl _) (Nat.le_refl _) (fun k hk=>⟨Chunk.lt (h.ok c (bW hj)) hk,rfl⟩) (fun k hk=>.inl hk) (fun _ _ _=>rfl)
theorem aA.join {w0 w:World} {H:List Chunk} {S T:Nat→Prop} {wr wt:World} (h:aA w0 w (.aH S wr::.aH T wt::H)):aA w0 w (.aH (fun k=>S k∨T k) w::H):=by
 have lh:=List.pairwise_cons.1 h.apart;have aID:=List.pairwise_cons.1 lh.2;have h1:=h.ok (.aH S wr) (by simp);have h2:=h.ok (.aH T wt) (by simp);refine⟨h.os,h.tape,h.output,h.drawn,h.size,?_,?_⟩
 ·intro c hc
  rcases List.mem_cons.1 hc with hc|hc
  ·subst hc
   rintro k (hk|hk)
   ·exact⟨(h1 k hk).1,rfl⟩
   ·exact⟨(h2 k hk).1,rfl⟩
  ·exact h.ok c (by simp [hc])
 ·refine List.pairwise_cons.2 ⟨fun c hc k hk=>?_,aID.2⟩
  rcases hk with hk|hk
  ·exact lh.1 c (by simp [hc]) k hk
  ·exact aID.1 c hc k hk
structure dM (w:World) (S:Nat→Prop) (ad:Addr) (cs:List Value):Prop where
 spot:cs≠[]→ad.spot=none
 tO:cs≠[]→S ad.block
 cell:∀ j u,cs[j]? = some u→w.cell? ⟨ad.block,ad.off+j,none⟩=some u
theorem dM.later {w0 w wr:World} {H:List Chunk} {S:Nat→Prop} {ad:Addr} {cs:List Value} (hc:dM wr S ad cs) (hS:aA w0 w H) (hm:Chunk.aH S wr ∈ H):dM w S ad cs :=
 ⟨hc.spot,hc.tO,fun j u hu=>by
  rw [World.cell?_of_block (w:=wr) (a:=⟨ad.block,ad.off+j,none⟩) (hS.aH hm (hc.tO (by intro e;subst e;simp at hu)))];exact hc.cell j u hu⟩
def bN (w:World) (S:Nat→Prop) (k:Nat) (v:Value) (n:Nat) (cs:List Value):Prop :=
 cs.length=n*k∧∃ a cap,v=.slice a n cap∧n≤cap∧cap≤maxLen∧(a=none→n=0∧cap=0)∧∀ ad,a=some ad→dM w S ad cs
theorem dM.weaken {w:World} {S T:Nat→Prop} {ad:Addr} {cs:List Value} (h:dM w S ad cs) (iU:∀ k,S k→T k):dM w T ad cs:=⟨h.spot,fun e=>iU _ (h.tO e),h.cell⟩
theorem bN.weaken {w:World} {S T:Nat→Prop} {k n:Nat} {v:Value} {cs:List Value} (h:bN w S k v n cs) (iU:∀ k,S k→T k):bN w T k v n cs:=by
 obtain⟨h1,a,cap,h2,h3,h4,h5,h6⟩:=h;exact⟨h1,a,cap,h2,h3,h4,h5,fun ad e=>(h6 ad e).weaken iU⟩
theorem bN.later {w0 w wr:World} {H:List Chunk} {S:Nat→Prop} {k n:Nat} {v:Value} {cs:List Value} (h:bN wr S k v n cs) (hS:aA w0 w H) (hm:Chunk.aH S wr ∈ H):bN w S k v n cs:=by
 obtain⟨h1,a,cap,h2,h3,h4,h5,h6⟩:=h;exact⟨h1,a,cap,h2,h3,h4,h5,fun ad e=>(h6 ad e).later hS hm⟩
theorem bN.nil (w:World) (S:Nat→Prop) (k:Nat):bN w S k (.slice none 0 0) 0 []:=⟨by simp,none,0,rfl,Nat.le_refl _,by simp [maxLen],fun _=>⟨rfl,rfl⟩,fun ad e=>by cases e⟩
theorem bN.ofRow {w:World} {T:TypeId} {k n:Nat} {v:Value} {cs:List Value} (h:w.ownsRow 0 T k v n cs):bN w (fun b=>v.ownBlock=some b) k v n cs:=by
 refine⟨h.1,?_⟩
 rcases h.2 with ⟨rfl,rfl⟩|⟨g,cap,cur,rfl,hg,fD,hn,hc,hs,ht⟩
 ·exact⟨none,0,rfl,Nat.le_refl _,by simp [maxLen],fun _=>⟨rfl,rfl⟩,fun ad e=>by cases e⟩
 ·refine⟨some ⟨g,0,none⟩,cap,rfl,hn,hc,(fun e=>by cases e),fun ad e=>?_⟩
  cases e;refine⟨fun _=>rfl,fun _=>rfl,fun j u hu=>?_⟩;rw [Nat.zero_add,cell_of_row w g j cur T (0,0) fD];rw [← ht,List.getElem?_take] at hu
  split at hu
  ·simpa using hu
  ·cases hu
theorem bN.le {w:World} {S:Nat→Prop} {k n:Nat} {v:Value} {cs:List Value} (h:bN w S k v n cs):n≤9223372036854775807:=by
 obtain⟨h1,a,cap,h2,h3,h4,h5,h6⟩:=h;simp only [maxLen] at h4;omega
theorem aUL {w w':World} (hb:Below w.heap.size w w') {a:Addr} {u:Value} (h:w.cell? a=some u):w'.cell? a=some u :=
 (hb.cell (World.block_lt_of_cell? w a h)).trans h
theorem bN.below {w w':World} {S:Nat→Prop} {k n:Nat} {v:Value} {cs:List Value} (h:bN w S k v n cs) (hb:Below w.heap.size w w'):bN w' S k v n cs:=by
 obtain⟨h1,a,cap,h2,h3,h4,h5,h6⟩:=h;exact⟨h1,a,cap,h2,h3,h4,h5,fun ad e=>⟨(h6 ad e).spot,(h6 ad e).tO,fun j u hu=>aUL hb ((h6 ad e).cell j u hu)⟩⟩
theorem bN.shape {w:World} {S:Nat→Prop} {k n:Nat} {v:Value} {cs:List Value} (h:bN w S k v n cs):∃ a cap,v=.slice a n cap:=by
 obtain⟨h1,a,cap,h2,h3⟩:=h;exact⟨a,cap,h2⟩
def Ints (w:World) (S:Nat→Prop) (v:Value) (xs:List Int):Prop:=bN w S 1 v xs.length (xs.map (Value.int .i64))∧∀ x ∈ xs,bQ x
theorem Ints.weaken {w:World} {S T:Nat→Prop} {v:Value} {xs:List Int} (h:Ints w S v xs) (iU:∀ k,S k→T k):Ints w T v xs:=⟨h.1.weaken iU,h.2⟩
theorem Ints.later {w0 w wr:World} {H:List Chunk} {S:Nat→Prop} {v:Value} {xs:List Int} (h:Ints wr S v xs) (hS:aA w0 w H) (hm:Chunk.aH S wr ∈ H):Ints w S v xs:=⟨h.1.later hS hm,h.2⟩
theorem Ints.below {w w':World} {S:Nat→Prop} {v:Value} {xs:List Int} (h:Ints w S v xs) (hb:Below w.heap.size w w'):Ints w' S v xs:=⟨h.1.below hb,h.2⟩
theorem bN.bj {w:World} {S:Nat→Prop} {k n:Nat} {v:Value} {cs:List Value} (h:bN w S k v n cs):bN w (Old w) k v n cs:=by
 obtain⟨h1,a,cap,h2,h3,h4,h5,h6⟩:=h;refine⟨h1,a,cap,h2,h3,h4,h5,fun ad e=>⟨(h6 ad e).spot,fun bJ=>?_,(h6 ad e).cell⟩⟩;cases cs with
 | nil=>exact absurd rfl bJ
 | cons u cs=>exact World.block_lt_of_cell? w ⟨ad.block,ad.off+0,none⟩ ((h6 ad e).cell 0 u (by simp))
theorem bN.arg {w0 w wr:World} {H:List Chunk} {S:Nat→Prop} {k n:Nat} {v:Value} {cs:List Value} (h:bN wr S k v n cs) (hS:aA w0 w H) (hm:Chunk.aH S wr ∈ H):bN w (Old w) k v n cs:=(h.later hS hm).bj
theorem Ints.arg {w0 w wr:World} {H:List Chunk} {S:Nat→Prop} {v:Value} {xs:List Int} (h:Ints wr S v xs) (hS:aA w0 w H) (hm:Chunk.aH S wr ∈ H):Ints w (Old w) v xs:=⟨h.1.arg hS hm,h.2⟩
theorem Ints.nil (w:World) (S:Nat→Prop):Ints w S (.slice none 0 0) []:=⟨bN.nil w S 1,by simp⟩
theorem Ints.len {w:World} {S:Nat→Prop} {a:Option Addr} {n c:Nat} {xs:List Int} (h:Ints w S (.slice a n c) xs):n=xs.length:=by
 obtain⟨⟨_,a',c',hv,_⟩,_⟩:=h;simp only [Value.slice.injEq] at hv;exact hv.2.1
theorem Ints.le {w:World} {S:Nat→Prop} {v:Value} {xs:List Int} (h:Ints w S v xs):xs.length≤9223372036854775807:=h.1.le
theorem aNE {α β:Type} (f:α→β) (d:α) (xs:List α) (i:Nat):nth (f d) (xs.map f) i=f (nth d xs i):=by
 simp only [nth,List.getD_eq_getElem?_getD,List.getElem?_map];cases xs[i]? <;> rfl
theorem qP {α:Type} (d:α) (xs:List α) (i:Nat) (h:xs.length≤i):nth d xs i=d:=by simp [nth,List.getD_eq_getElem?_getD,List.getElem?_eq_none h]
theorem cQ {α:Type} (d:α) (xs:List α) (i:Nat) (h:i<xs.length):nth d xs i ∈ xs:=by rw [bS d xs i h];exact List.getElem_mem h
theorem ju {α:Type} (d:α) (xs ys:List α) (i:Nat) (h:i<xs.length):nth d (xs++ys) i=nth d xs i:=by simp [nth,List.getD_eq_getElem?_getD,List.getElem?_append_left h]
theorem aHe {α:Type} (d:α) (xs ys:List α) (i:Nat) (h:xs.length≤i):nth d (xs++ys) i=nth d ys (i - xs.length):=by simp [nth,List.getD_eq_getElem?_getD,List.getElem?_append_right h]
theorem uE {α:Type} (d:α) (xs:List α) (x:α):nth d (xs++[x]) xs.length=x:=by simp [nth,List.getD_eq_getElem?_getD]
theorem yP {α:Type} (d:α) {xs ys:List α} (hl:xs.length=ys.length) (h:∀ i,i<xs.length→nth d xs i=nth d ys i):xs=ys:=by
 apply List.ext_getElem hl;intro i h1 h2;have:=h i h1
 rwa [bS d xs i h1,bS d ys i h2] at this
theorem nk {α:Type} (d:α) (xs:List α) (k:Nat) (h:k<xs.length):xs.take (k+1)=xs.take k++[nth d xs k]:=by
 rw [List.take_succ_eq_append_getElem h,bS d xs k h]
def iv (xs:List Int):List Value:=xs.map (Value.int .i64)
theorem aTm (xs:List Int) (x:Int):iv xs++[.int .i64 x]=iv (xs++[x]):=by simp [iv]
theorem tK (xs:List Int):(iv xs).length=xs.length:=by simp [iv]
theorem iv_one (xs:List Int):∀ u ∈ iv xs,u.oneCell'=true:=by
 intro u hu;simp only [iv,List.mem_map] at hu;obtain⟨x,_,rfl⟩:=hu
 rfl
def zs (xs:List Nat):List Int:=xs.map (fun (n:Nat)=>(n:Int))
theorem vC (xs:List Nat):(zs xs).length=xs.length:=by simp [zs]
theorem xj (xs:List Nat) (i:Nat):nth 0 (zs xs) i=((nth 0 xs i:Nat):Int):=aNE (fun n:Nat=>(n:Int)) 0 xs i
def jZ (w:World) (S:Nat→Prop) (v:Value) (xs:List Nat):Prop:=Ints w S v (zs xs)
theorem jZ.len {w:World} {S:Nat→Prop} {a:Option Addr} {n c:Nat} {xs:List Nat} (h:jZ w S (.slice a n c) xs):n=xs.length:=by rw [← vC xs];exact Ints.len h
theorem jZ.le {w:World} {S:Nat→Prop} {v:Value} {xs:List Nat} (h:jZ w S v xs):xs.length≤9223372036854775807:=by rw [← vC xs];exact Ints.le h
theorem jZ.arg {w0 w wr:World} {H:List Chunk} {S:Nat→Prop} {v:Value} {xs:List Nat} (h:jZ wr S v xs) (hS:aA w0 w H) (hm:Chunk.aH S wr ∈ H):jZ w (Old w) v xs:=Ints.arg h hS hm
theorem jZ.later {w0 w wr:World} {H:List Chunk} {S:Nat→Prop} {v:Value} {xs:List Nat} (h:jZ wr S v xs) (hS:aA w0 w H) (hm:Chunk.aH S wr ∈ H):jZ w S v xs:=Ints.later h hS hm
theorem jZ.below {w w':World} {S:Nat→Prop} {v:Value} {xs:List Nat} (h:jZ w S v xs) (hb:Below w.heap.size w w'):jZ w' S v xs:=Ints.below h hb
theorem jZ.weaken {w:World} {S T:Nat→Prop} {v:Value} {xs:List Nat} (h:jZ w S v xs) (iU:∀ k,S k→T k):jZ w T v xs:=Ints.weaken h iU
abbrev zN:=Int × Int × Int
def tz:zN:=(0,0,0)
def aKR (e:zN):List Value:=[.int .i64 e.1,.int .i64 e.2.1,.int .i64 e.2.2]
def tv (xs:List zN):List Value:=xs.flatMap aKR
theorem aWC (xs:List zN) (e:zN):tv xs++[.int .i64 e.1,.int .i64 e.2.1,.int .i64 e.2.2]=tv (xs++[e]):=by simp [tv,aKR]
inductive Mv where
 | p (i:Nat)
 | r (i:Nat)
 | e (i:Nat)
 | m (i:Nat)
section
variable {P:Program} {ops:Array Oper} {Q:Exit→Act→World→Prop} {md:Region.Mode} {C:World→Prop} {M:List Nat}
def oa (md:Region.Mode) (ops:Array Oper):Nat→Nat→List Nat
 | 0,_=>[]
 | n+1,i =>
  let d:=match ops[i]? with
   | some o=>(o.after.toList.filter (Region.binds md)).map (fun (e:Edge)=>e.on)
   | none=>[]
  d++d.flatMap (oa md ops n)
def lR (md:Region.Mode) (ops:Array Oper) (aY:Array Bool):Prop :=
 ∀ j oj,ops[j]? = some oj→aY.getD j false=true→∀ e ∈ oj.after,Region.binds md e=true→aY.getD e.on false=true
theorem lR.oa {aY:Array Bool} (h:lR md ops aY):∀ n i,aY.getD i false=true→∀ r ∈ oa md ops n i,aY.getD r false=true:=by
 intro n
 induction n with
 | zero=>intro i _ r hr;simp [Hp.oa] at hr
 | succ n ih =>
  intro i hi r hr;simp only [Hp.oa] at hr
  have hd:∀ x ∈ (match ops[i]? with|some o=>(o.after.toList.filter (Region.binds md)).map (fun (e:Edge)=>e.on)|none=>([]:List Nat)),aY.getD x false=true:=by
   intro x hx;cases ho:ops[i]? with
   | none=>simp [ho] at hx
   | some o =>
    simp only [ho,List.mem_map,List.mem_filter,Array.mem_toList_iff] at hx;obtain⟨e,⟨he,hb⟩,rfl⟩:=hx;exact h i o ho hi e he hb
  rcases List.mem_append.1 hr with hr|hr
  ·exact hd r hr
  ·obtain⟨x,hx,hrx⟩:=List.mem_flatMap.1 hr
   exact ih x (hd x hx) r hrx
theorem lR.set {aY:Array Bool} {i:Nat} (h:lR md ops aY) (hr:i ∈ Region.ready md ops aY):lR md ops (aY.setIfInBounds i true):=by
 intro j oj hj hl e he hb
 by_cases fe:i=j
 ·subst fe
  obtain⟨_,oi,hoi,a0U⟩:=mem_ready.1 hr;have:oj=oi:=Option.some.inj (hj.symm.trans hoi);subst this;exact getD_set_true (a0U e he hb)
 ·rw [getD_set_ne false fe] at hl
  exact getD_set_true (h j oj hj hl e he hb)
def mG (M:List Nat) (C:World→Prop) (aY:Array Bool) (w:World):Prop:=(∀ m ∈ M,aY.getD m false=false)→C w
def j5 (P:Program) (md:Region.Mode) (ops:Array Oper) (Q:Exit→Act→World→Prop) (M:List Nat) (C:World→Prop):Nat→Array Bool→Act→World→Prop
 | 0,aY,a,w=>Region.ready md ops aY=[]∧Q .normal a w
 | n+1,aY,a,w =>
  (Region.ready md ops aY=[]→Q .normal a w) ∧
  ∀ i ∈ Region.ready md ops aY,wpOp P ops Q i (fun a' w'=>mG M C (aY.setIfInBounds i true) w'∧j5 P md ops Q M C n (aY.setIfInBounds i true) a' w') a w
theorem j5.any:∀ (n:Nat) (aY:Array Bool) (a:Act) (w:World),j5 P md ops Q M C n aY a w→wpAny P md ops Q n aY a w
 | 0,_,_,_,h=>h
 | n+1,_,_,_,h=>⟨h.1,fun i hi=>wpOp_mono (fun a' w' h'=>j5.any n _ a' w' h'.2) (h.2 i hi)⟩
theorem a4A {aY:Array Bool} {i:Nat} (h:aY.getD i true=false):aY.getD i false=false:=by
 rcases Nat.lt_or_ge i aY.size with h'|h'
 ·simp [h'] at h ⊢;exact h
 ·simp [Array.getElem?_eq_none h'] at h
theorem j5.first {i:Nat} {oi:Oper} {v:Value} {S:World→Prop} (hi:ops[i]? = some oi) (ic:∀ (j:Nat) (o:Oper) cs b,ops[j]? = some o→o.op≠.select cs b)
 (hQ:∀ c a w,¬ Q (.panic c) a w) (jj:i ∉ M)
 (tG:∀ (aY:Array Bool) (w:World),lR md ops aY→aY.getD i true=false→mG M C aY w→S w) :
 ∀ (n:Nat) (aY:Array Bool) (a:Act) (w:World),lR md ops aY→mG M C aY w →
  (∀ j oj,ops[j]? = some oj→j≠i→aY.getD j true=false→(∀ e ∈ oj.after,Region.binds md e=true→e.on≠i)→oi.apart ops oj=true) →
  i ∈ Region.ready md ops aY→YieldsIf P ops S oi v a →
  j5 P md ops Q M C n (aY.setIfInBounds i true) (a.put oi.dst v) w→j5 P md ops Q M C (n+1) aY a w:=by
 have aIa:∀ (aY:Array Bool) (w:World),mG M C aY w→mG M C (aY.setIfInBounds i true) w:=by
  intro aY w hk hm;refine hk fun m kG=>?_
  have:=hm m kG
  by_cases rM:i=m
  ·subst rM;exact absurd kG jj
  ·rwa [getD_set_ne false rM] at this
 intro n
 induction n with
 | zero =>
  intro aY a w dK hk _ hr hy H;refine⟨fun h=>(by rw [h] at hr;cases hr),fun j hj=>?_⟩
  by_cases lL:j=i
  ·subst lL;exact hy.wpOp hi (tG aY w dK (mem_ready.1 hr).1 hk) ⟨aIa _ _ hk,H⟩
  ·have:=ready_mono hj lL
   rw [H.1] at this;cases this
 | succ n ih =>
  intro aY a w dK hk a8l hr hy H;have rW:=(mem_ready.1 hr).1;refine⟨fun h=>(by rw [h] at hr;cases hr),fun j hj=>?_⟩
  by_cases lL:j=i
  ·subst lL;exact hy.wpOp hi (tG aY w dK rW hk) ⟨aIa _ _ hk,H⟩
  ·have h1:=H.2 j (ready_mono hj lL)
   obtain⟨aDV,oj,hoj,a0U⟩:=mem_ready.1 hj
   have a0p:∀ e ∈ oj.after,Region.binds md e=true→e.on≠i:=fun e he hb heq=>by
    have h2:=a0U e he hb;rw [heq,a4A rW] at h2;cases h2
   have h2:=wpOp_putIf hoj (a8l j oj hoj lL aDV a0p) (fun cs b=>ic i oi cs b hi) (fun cs b=>ic j oj cs b hoj) (fun c a w h=>(hQ c _ w h).elim) hy h1;refine wpOp_mono (fun a' w' h3=>?_) h2;obtain⟨h3y,h3k,h3w⟩:=h3
   have iI:mG M C (aY.setIfInBounds j true) w':=by
    intro hm;refine h3k fun m kG=>?_
    have rM:i≠m:=fun e=>by subst e;exact jj kG
    by_cases xg:j=m
    ·subst xg
     have h4:=hm j kG
     rcases Nat.lt_or_ge j aY.size with h'|h'
     ·simp [h'] at h4
     ·simp [Array.getElem?_eq_none h'] at aDV
    ·rw [getD_set_ne false xg,getD_set_ne false rM]
     have:=hm m kG
     rwa [getD_set_ne false xg] at this
   refine⟨iI,ih (aY.setIfInBounds j true) a' w' (dK.set hj) iI ?_ (ready_mono hr (Ne.symm lL)) h3y ?_⟩
   ·intro k ok bG zL aRN lD
    refine a8l k ok bG zL ?_ lD
    by_cases gM:j=k
    ·subst gM;exact aDV
    ·rwa [getD_set_ne true gM] at aRN
   ·rw [Array.setIfInBounds_comm _ _ lL]
    exact h3w
def dN (P:Program) (ops:Array Oper) (Q:Exit→Act→World→Prop) (C:World→Prop):List Mv→Act→World→Prop
 | [],a,w=>Q .normal a w
 | .p i::s,a,w=>∃ o,ops[i]? = some o∧if Region.wanted o (yielded ops a.tmps) then ∃ v,(∀ w',(execOp a.eval o).run P w'=.ok (.value v) w')∧dN P ops Q C s (a.put o.dst v) w else dN P ops Q C s (a.put o.dst undef) w
 | .r i::s,a,w=>∃ o,ops[i]? = some o∧if Region.wanted o (yielded ops a.tmps) then ∃ v,(∀ w',C w'→(execOp a.eval o).run P w'=.ok (.value v) w')∧dN P ops Q C s (a.put o.dst v) w else dN P ops Q C s (a.put o.dst undef) w
 | .e i::s,a,w=>wpOp P ops Q i (fun a' w'=>C w'∧dN P ops Q C s a' w') a w
 | .m i::s,a,w=>wpOp P ops Q i (fun a' w'=>dN P ops Q C s a' w') a w
def p9 (md:Region.Mode) (ops:Array Oper) (M:List Nat):List Mv→Array Bool→Bool
 | [],aY=>(Region.ready md ops aY).isEmpty
 | .p i::s,aY=>(Region.ready md ops aY).contains i && Region.free md ops aY i && !M.contains i && p9 md ops M s (aY.setIfInBounds i true)
 | .r i::s,aY=>(Region.ready md ops aY).contains i && Region.free md ops aY i && !M.contains i && (M.all fun m=>(oa md ops ops.size m).contains i) && p9 md ops M s (aY.setIfInBounds i true)
 | .e i::s,aY=>(Region.ready md ops aY == [i]) && p9 md ops M s (aY.setIfInBounds i true)
 | .m i::s,aY=>(Region.ready md ops aY == [i]) && M.contains i && decide (i<aY.size) && p9 md ops M s (aY.setIfInBounds i true)
theorem aBh (ic:Region.noSelect ops=true) (hQ:∀ c a w,¬ Q (.panic c) a w):∀ (s:List Mv) (aY:Array Bool) (a:Act) (w:World),p9 md ops M s aY=true→lR md ops aY→mG M C aY w →
 dN P ops Q C s a w→j5 P md ops Q M C s.length aY a w:=by
 intro s
 induction s with
 | nil =>
  intro aY a w bG _ _ h;simp only [p9,List.isEmpty_iff] at bG;exact⟨bG,h⟩
 | cons m s ih =>
  intro aY a w bG dK hk h;cases m with
  | p i =>
   simp only [p9,Bool.and_eq_true,Bool.not_eq_true'] at bG;obtain⟨⟨⟨h1,h2⟩,h3⟩,h4⟩:=bG;have jj:i ∉ M:=by simpa using h3
   have hr:i ∈ Region.ready md ops aY:=by simpa using h1
   obtain⟨o,ho,h⟩:=h
   have iI:mG M C (aY.setIfInBounds i true) w:=by
    intro hm;refine hk fun m kG=>?_
    have rM:i≠m:=fun e=>by subst e;exact jj kG
    have:=hm m kG
    rwa [getD_set_ne false rM] at this
   split at h
   ·rename_i hw
    obtain⟨v,hv,h⟩:=h;exact j5.first (S:=fun _=>True) ho (Region.noSelect_spec ic) hQ jj (fun _ _ _ _ _=>trivial) s.length aY a w dK hk (Region.free_spec ho h2) hr (.inl ⟨hw,fun w' _=>hv w'⟩) (ih _ _ _ h4 (dK.set hr) iI h)
   ·rename_i hw
    exact j5.first (S:=fun _=>True) ho (Region.noSelect_spec ic) hQ jj (fun _ _ _ _ _=>trivial) s.length aY a w dK hk (Region.free_spec ho h2) hr (.inr ⟨by simpa using hw,rfl⟩) (ih _ _ _ h4 (dK.set hr) iI h)
  | r i =>
   simp only [p9,Bool.and_eq_true,Bool.not_eq_true'] at bG;obtain⟨⟨⟨⟨h1,h2⟩,h3⟩,h5⟩,h4⟩:=bG;have jj:i ∉ M:=by simpa using h3
   have hr:i ∈ Region.ready md ops aY:=by simpa using h1
   obtain⟨o,ho,h⟩:=h
   have iI:mG M C (aY.setIfInBounds i true) w:=by
    intro hm;refine hk fun m kG=>?_
    have rM:i≠m:=fun e=>by subst e;exact jj kG
    have:=hm m kG
    rwa [getD_set_ne false rM] at this
   have tG:∀ (aY:Array Bool) (w:World),lR md ops aY→aY.getD i true=false→mG M C aY w→C w:=by
    intro l' w' hc hu n9;refine n9 fun m kG=>?_
    cases hl:l'.getD m false with
    | false=>rfl
    | true =>
     have h6:=List.all_eq_true.1 h5 m kG;have h7:i ∈ oa md ops ops.size m:=by simpa using h6
     have h8:=hc.oa _ m hl i h7;rw [a4A hu] at h8;cases h8
   split at h
   ·rename_i hw
    obtain⟨v,hv,h⟩:=h;exact j5.first (S:=C) ho (Region.noSelect_spec ic) hQ jj tG s.length aY a w dK hk (Region.free_spec ho h2) hr (.inl ⟨hw,hv⟩) (ih _ _ _ h4 (dK.set hr) iI h)
   ·rename_i hw
    exact j5.first (S:=C) ho (Region.noSelect_spec ic) hQ jj tG s.length aY a w dK hk (Region.free_spec ho h2) hr (.inr ⟨by simpa using hw,rfl⟩) (ih _ _ _ h4 (dK.set hr) iI h)
  | e i =>
   simp only [p9,Bool.and_eq_true,beq_iff_eq] at bG;obtain⟨h1,h4⟩:=bG;refine⟨fun h0=>(by rw [h1] at h0;cases h0),fun j hj=>?_⟩;have hr:=hj;rw [h1] at hj;simp only [List.mem_singleton] at hj;subst hj;exact wpOp_mono (fun a' w' h'=>⟨fun _=>h'.1,ih _ _ _ h4 (dK.set hr) (fun _=>h'.1) h'.2⟩) h
  | m i =>
   simp only [p9,Bool.and_eq_true,beq_iff_eq,decide_eq_true_eq] at bG;obtain⟨⟨⟨h1,h3⟩,aW⟩,h4⟩:=bG;have jj:i ∈ M:=by simpa using h3
   refine⟨fun h0=>(by rw [h1] at h0;cases h0),fun j hj=>?_⟩;have hr:=hj;rw [h1] at hj;simp only [List.mem_singleton] at hj;subst hj
   have lD:∀ w',mG M C (aY.setIfInBounds j true) w':=fun w' hm=>by
    have:=hm j jj;simp [aW] at this
   exact wpOp_mono (fun a' w' h'=>⟨lD w',ih _ _ _ h4 (dK.set hr) (lD w') h'⟩) h
def di (Q:Exit→Act→World→Prop):Exit→Act→World→Prop
 | .panic _,_,_=>False
 | e,a,w=>Q e a w
theorem a6p (n:Nat):lR md ops (Array.replicate n false):=by
 intro j oj _ hl
 rcases Nat.lt_or_ge j n with h|h
 ·simp [h] at hl
 ·simp [h] at hl
theorem gI {id:Nat} {a:Act} {w:World} {l:List Oper} (s:List Mv) (M:List Nat) (C:World→Prop) (hm:P.follows .mixedOrders=true)
 (bG:(Region.noSelect l.toArray && (s.length == l.length) && p9 .any l.toArray M s (Array.replicate l.length false))=true) (hC:C w.drew)
 (h:∀ w',C w'→dN P l.toArray (di Q) C s a w'):(Code.region id l.toArray true).wp P Q a w:=by
 simp only [Bool.and_eq_true,beq_iff_eq] at bG;obtain⟨⟨h1,h2⟩,h3⟩:=bG;refine wp_mono (Q:=di Q) (wp_region_any hm ?_) (fun e a w hq=>by cases e <;> first|exact hq|exact hq.elim);have:=aBh (P:=P) (Q:=di Q) (md:=.any) (M:=M) (C:=C) h1 (fun c a w hq=>hq) s (Array.replicate l.length false) a w.drew h3 (a6p _) (fun _=>hC) (h _ hC);rw [h2] at this
 simpa using this.any
end
section
variable {P:Program} {ops:Array Oper} {Q:Exit→Act→World→Prop} {C:World→Prop} {s:List Mv} {a:Act} {w:World} {i:Nat} {o:Oper}
theorem aNV (ho:ops[i]? = some o) (hw:Region.wanted o (yielded ops a.tmps)=true) {v:Value} (hv:∀ w',C w'→(execOp a.eval o).run P w'=.ok (.value v) w') (h:dN P ops Q C s (a.put o.dst v) w):dN P ops Q C (.r i::s) a w :=
 ⟨o,ho,by rw [if_pos hw];exact⟨v,hv,h⟩⟩
theorem aWG (ho:ops[i]? = some o) (hw:Region.wanted o (yielded ops a.tmps)=false) (h:dN P ops Q C s (a.put o.dst undef) w):dN P ops Q C (.r i::s) a w :=
 ⟨o,ho,by rw [hw];exact h⟩
theorem aPk (ho:ops[i]? = some o) (hw:Region.wanted o (yielded ops a.tmps)=false) (h:dN P ops Q C s (a.put o.dst undef) w):dN P ops Q C (.p i::s) a w :=
 ⟨o,ho,by rw [hw];exact h⟩
theorem aLe (ho:ops[i]? = some o) (hw:Region.wanted o (yielded ops a.tmps)=true) {v:Value} (hv:∀ w',(execOp a.eval o).run P w'=.ok (.value v) w') (h:dN P ops Q C s (a.put o.dst v) w):dN P ops Q C (.p i::s) a w :=
 ⟨o,ho,by rw [if_pos hw];exact⟨v,hv,h⟩⟩
theorem a4N {K:Act→World→Prop} (ho:ops[i]? = some o) (h:wpList P ops (Exit.then K Q) [o] a w) (hQ:∀ c a w,¬ Q (.panic c) a w):wpOp P ops Q i K a w:=by
 unfold wpOp;simp only [ho];simp only [wpList] at h
 split
 ·rename_i hw
  rw [if_pos hw] at h
  rcases h with h|h
  ·left
   unfold Oper.wp at *;generalize (execOp a.eval o).run P w=r at *;cases r with
   | ok n w' =>
    cases n <;> simp only [Oper.upon] at h ⊢ <;> exact h
   | halt x w'=>cases x <;> simp only [Oper.upon] at h ⊢ <;> exact h
  ·exact .inr h
 ·rename_i hw
  rw [if_neg hw] at h;exact h
theorem aMz (ho:ops[i]? = some o) (hQ:∀ c a w,¬ Q (.panic c) a w) (h:wpList P ops (Exit.then (fun a' w'=>C w'∧dN P ops Q C s a' w') Q) [o] a w):dN P ops Q C (.e i::s) a w:=a4N ho h hQ
theorem aMy (ho:ops[i]? = some o) (hQ:∀ c a w,¬ Q (.panic c) a w) (h:wpList P ops (Exit.then (fun a' w'=>dN P ops Q C s a' w') Q) [o] a w):dN P ops Q C (.m i::s) a w:=a4N ho h hQ
theorem aLC (h:Q .normal a w):dN P ops Q C [] a w:=h
end
section
variable {P:Program} {ops:Array Oper} {Q:Exit→Act→World→Prop} {rest:List Oper} {o:Oper} {a:Act} {w w0:World} {H:List Chunk} {K:Act→Prop} {s:List Mv} {i:Nat}
structure oN (P:Program) (o:Oper) (a:Act) (K:Act→Prop):Prop where
 ex:∃ v,(∀ w',(execOp a.eval o).run P w'=.ok (.value v) w')∧K (a.put o.dst v)
structure nj (P:Program) (w0:World) (H:List Chunk) (o:Oper) (a:Act) (K:Act→Prop):Prop where
 ex:∃ v,(∀ w',aA w0 w' H→(execOp a.eval o).run P w'=.ok (.value v) w')∧K (a.put o.dst v)
theorem wpList_want (hg:Region.wanted o (yielded ops a.tmps)=true) (h:∀ K:Act→World→Prop,(∀ a w,wpList P ops Q rest a w→K a w)→o.wp P a w K Q):wpList P ops Q (o::rest) a w :=
 wpList_step fun K hK=>by rw [if_pos hg];exact h K hK
theorem aI2 {v:Value} (hg:Region.wanted o (yielded ops a.tmps)=true) (hr:(execOp a.eval o).run P w=.ok (.value v) w) (hk:wpList P ops Q rest (a.put o.dst v) w):wpList P ops Q (o::rest) a w :=
 wpList_want hg fun K hK=>by unfold Oper.wp;rw [hr];exact hK _ _ hk
theorem ck (hg:Region.wanted o (yielded ops a.tmps)=true) (h:oN P o a (fun a'=>wpList P ops Q rest a' w)):wpList P ops Q (o::rest) a w :=
 let ⟨_,hr,hk⟩:=h.ex
 aI2 hg (hr w) hk
theorem dI (hS:aA w0 w H) (hg:Region.wanted o (yielded ops a.tmps)=true) (h:nj P w0 H o a (fun a'=>wpList P ops Q rest a' w)):wpList P ops Q (o::rest) a w :=
 let ⟨_,hr,hk⟩:=h.ex
 aI2 hg (hr w hS) hk
theorem j3 {C:World→Prop} (ho:ops[i]? = some o) (hw:Region.wanted o (yielded ops a.tmps)=true) (h:oN P o a (fun a'=>dN P ops Q C s a' w)):dN P ops Q C (.p i::s) a w :=
 let ⟨_,hr,hk⟩:=h.ex
 aLe ho hw hr hk
theorem jh (ho:ops[i]? = some o) (hw:Region.wanted o (yielded ops a.tmps)=true) (h:nj P w0 H o a (fun a'=>dN P ops Q (fun w=>aA w0 w H) s a' w)):dN P ops Q (fun w=>aA w0 w H) (.r i::s) a w :=
 let ⟨_,hr,hk⟩:=h.ex
 aNV ho hw hr hk
variable {dst:Option Tmp} {ty T E:TypeId} {pos:String} {ak:Array Edge} {g:Option (Nat × Bool)} {x ix:Operand} {wr:World} {S:Nat→Prop} {k n:Nat} {v:Value} {cs:List Value}
theorem lI (hu:P.underlying T=some (.slice E)) (hz:∀ w,(sizeOf E).run P w=.ok k w) {i:Int} (hx:a.eval x=v) (hi:a.eval ix=.int .i64 i) (hv:bN wr S k v n cs) (dg:0≤i) (jU:i<n) (kE:0<k)
 (hk:∀ b off,dM wr S ⟨b,off,none⟩ ((cs.drop (i.toNat*k)).take k)→K (a.put dst (.pointer (some ⟨b,off,none⟩)))):oN P ⟨dst,.indexAddr T x ix,ty,pos,ak,g⟩ a K:=by
 obtain⟨h1,ad,cap,rfl,h2,h3,h4,h5⟩:=hv;cases ad with
 | none=>have:=(h4 rfl).1;omega
 | some ad =>
  obtain⟨b,off,sp⟩:=ad;have hc:=h5 _ rfl;have aW:i.toNat<n:=by omega
  have hle:i.toNat*k+k≤cs.length:=by
   rw [h1]
   calc i.toNat*k+k=(i.toNat+1)*k:=by rw [Nat.add_mul,Nat.one_mul]
    _≤n*k:=Nat.mul_le_mul_right _ aW
  have dw:sp=none:=hc.spot (by intro e;subst e;simp at hle;omega);subst dw;have xH:(⟨b,off,none⟩:Addr).add (i.toNat*k)=⟨b,off+i.toNat*k,none⟩:=by unfold Addr.add;split <;> simp_all
  refine⟨⟨.pointer (some ⟨b,off+i.toNat*k,none⟩),fun w'=>?_,hk b _ ⟨fun _=>rfl,fun _=>hc.tO (by intro e;subst e;simp at hle;omega),fun j u hu=>?_⟩⟩⟩
  ·generalize a.eval=ρ at hx hi
   simp [execOp,hx,hi,Instr.indexAt,asIntOf,go_sem,run_underlying hu,dg,jU,hz,xH]
  ·rw [List.getElem?_take] at hu
   split at hu
   ·rw [List.getElem?_drop] at hu
    rw [show off+i.toNat*k+j=off+(i.toNat*k+j) by omega];exact hc.cell _ _ hu
   ·cases hu
theorem xQ {b off j:Nat}:(⟨b,off,none⟩:Addr).add j=⟨b,off+j,none⟩:=by unfold Addr.add;split <;> simp_all
theorem a6w {b off:Nat} {u:Value} (fU:∀ w,(isAgg T).run P w=.ok false w) (hx:a.eval x=.pointer (some ⟨b,off,none⟩)) (hc:dM wr S ⟨b,off,none⟩ cs) (hm:Chunk.aH S wr ∈ H) (h0:cs[0]? = some u)
 (hk:K (a.put dst u)):nj P w0 H ⟨dst,.load T x,ty,pos,ak,g⟩ a K:=by
 refine⟨⟨u,fun w' hS=>?_,hk⟩⟩;have h1:w'.cell? ⟨b,off,none⟩=some u:=by simpa using (hc.later hS hm).cell 0 u h0
 generalize a.eval=ρ at hx;simp [execOp,hx,Instr.loadAt,Instr.sureAddr,loadVar,fU,go_sem,h1]
theorem gu {b off:Nat} {u:Value} (j:Nat) (fU:∀ w,(isAgg T).run P w=.ok false w) (hx:a.eval x=.pointer (some ⟨b,off+j,none⟩)) (hc:dM wr S ⟨b,off,none⟩ cs) (hm:Chunk.aH S wr ∈ H) (h0:cs[j]? = some u)
 (hk:K (a.put dst u)):nj P w0 H ⟨dst,.load T x,ty,pos,ak,g⟩ a K:=by
 refine⟨⟨u,fun w' hS=>?_,hk⟩⟩;have h1:w'.cell? ⟨b,off+j,none⟩=some u:=(hc.later hS hm).cell j u h0;generalize a.eval=ρ at hx;simp [execOp,hx,Instr.loadAt,Instr.sureAddr,loadVar,fU,go_sem,h1]
theorem a9K {ad:Addr} {w':World} {l:Array Value} (eT:∀ w,(isAgg T).run P w=.ok true w) (hz:∀ w,(sizeOf T).run P w=.ok k w) (h:(loadCells ad k).run P w'=.ok l w'):(loadVar T ad).run P w'=.ok (.agg l) w':=by
 unfold loadVar;simp only [Sem.run_bind,eT,Result.andThen_ok,if_true,hz,h,Sem.run_pure]
theorem a9E {b off:Nat} (eT:∀ w,(isAgg T).run P w=.ok true w) (hz:∀ w,(sizeOf T).run P w=.ok k w) (hx:a.eval x=.pointer (some ⟨b,off,none⟩)) (hc:dM wr S ⟨b,off,none⟩ cs) (hm:Chunk.aH S wr ∈ H) (h0:cs.length=k)
 (hk:K (a.put dst (.agg cs.toArray))):nj P w0 H ⟨dst,.load T x,ty,pos,ak,g⟩ a K:=by
 refine⟨⟨_,fun w' hS=>?_,hk⟩⟩;subst h0;have h1:=run_loadCells_list (P:=P) w' ⟨b,off,none⟩ cs (fun j u hu=>by rw [xQ];exact (hc.later hS hm).cell j u hu);generalize a.eval=ρ at hx;simp only [execOp,hx,Instr.loadAt,Instr.sureAddr,Sem.run_bind,Sem.run_pure,Result.andThen_ok,a9K eT hz h1]
theorem zD {b off:Nat} {arr:Array Value} {Tb:TypeId} {fr:Nat × Nat} {u:Value} (j:Nat) (fU:∀ w,(isAgg T).run P w=.ok false w) (hx:a.eval x=.pointer (some ⟨b,off,none⟩)) (hj:H[j]? = some (Chunk.aB b (.cells arr Tb fr))) (h0:arr[off]? = some u)
 (hk:K (a.put dst u)):nj P w0 H ⟨dst,.load T x,ty,pos,ak,g⟩ a K:=by
 refine⟨⟨u,fun w' hS=>?_,hk⟩⟩;have h1:w'.cell? ⟨b,off,none⟩=some u:=by rw [cell_of_row w' b off arr Tb fr (hS.aB (bW hj))];exact h0
 generalize a.eval=ρ at hx;simp [execOp,hx,Instr.loadAt,Instr.sureAddr,loadVar,fU,go_sem,h1]
theorem a6f {b off:Nat} {arr:Array Value} {Tb:TypeId} {fr:Nat × Nat} (j:Nat) (eT:∀ w,(isAgg T).run P w=.ok true w) (hz:∀ w,(sizeOf T).run P w=.ok k w) (hx:a.eval x=.pointer (some ⟨b,off,none⟩)) (hj:H[j]? = some (Chunk.aB b (.cells arr Tb fr))) (h0:off+k≤arr.size)
 (hk:K (a.put dst (.agg ((arr.toList.drop off).take k).toArray))):nj P w0 H ⟨dst,.load T x,ty,pos,ak,g⟩ a K:=by
 refine⟨⟨_,fun w' hS=>?_,hk⟩⟩
 have h1:=run_loadCells_list (P:=P) w' ⟨b,off,none⟩ ((arr.toList.drop off).take k) (fun j u hu=>by
  rw [xQ,cell_of_row w' b (off+j) arr Tb fr (hS.aB (bW hj))];rw [List.getElem?_take] at hu
  split at hu
  ·rw [List.getElem?_drop] at hu;simpa using hu
  ·cases hu)
 have hl:((arr.toList.drop off).take k).length=k:=by simp;omega
 rw [hl] at h1;generalize a.eval=ρ at hx;simp only [execOp,hx,Instr.loadAt,Instr.sureAddr,Sem.run_bind,Sem.run_pure,Result.andThen_ok,a9K eT hz h1]
theorem aCf {b:Nat} {arr:Array Value} {Tb:TypeId} {fr:Nat × Nat} (j:Nat) (eT:∀ w,(isAgg T).run P w=.ok true w) (hz:∀ w,(sizeOf T).run P w=.ok k w) (hx:a.eval x=.pointer (some ⟨b,0,none⟩)) (hj:H[j]? = some (Chunk.aB b (.cells arr Tb fr))) (dJ:arr.size=k)
 (hk:K (a.put dst (.agg arr))):nj P w0 H ⟨dst,.load T x,ty,pos,ak,g⟩ a K :=
 a6f (k:=k) j eT hz hx hj (by omega) (by rw [List.drop_zero,← dJ,show arr.size=arr.toList.length by simp,List.take_length];exact hk)
theorem a2F {b:Nat} {arr:Array Value} {Tb:TypeId} {fr:Nat × Nat} (j:Nat) (hS:aA w0 w H) (hj:H[j]? = some (Chunk.aB b (.cells arr Tb fr))) (eT:∀ w,(isAgg T).run P w=.ok true w) (hz:∀ w,(sizeOf T).run P w=.ok k w) (dJ:arr.size=k):(loadVar T ⟨b,0,none⟩).run P w=.ok (.agg arr) w:=by
 have h1:=run_loadCells_list (P:=P) w ⟨b,0,none⟩ arr.toList (fun j u hu=>by
  rw [xQ,cell_of_row w b (0+j) arr Tb fr (hS.aB (bW hj))]
  simpa using hu)
 rw [Array.length_toList,dJ] at h1
 simpa using a9K eT hz h1
theorem lx {v:Value} {w':World} (hg:Region.wanted o (yielded ops a.tmps)=true) (hr:(execOp a.eval o).run P w=.ok (.value v) w') (hk:wpList P ops Q rest (a.put o.dst v) w'):wpList P ops Q (o::rest) a w :=
 wpList_want hg fun K hK=>by unfold Oper.wp;rw [hr];exact hK _ _ hk
theorem a3j {w':World} (hg:Region.wanted o (yielded ops a.tmps)=true) (hr:(execOp a.eval o).run P w=.ok .skip w') (hk:wpList P ops Q rest (a.put o.dst undef) w'):wpList P ops Q (o::rest) a w :=
 wpList_want hg fun K hK=>by unfold Oper.wp;rw [hr];exact hK _ _ hk
theorem aUt {z:Value} (hS:aA w0 w H) (hz:∀ w,(zeroValue T).run P w=.ok z w)
 (hk:∀ b w',aA w0 w' (H++[.aB b (.cells z.cells T (0,0))])→wpList P ops Q rest (a.put dst (.pointer (some ⟨b,0,none⟩))) w'):wpList P ops Q (⟨dst,.alloc T,ty,pos,ak,none⟩::rest) a w:=by
 refine lx (w':=w.alloc (.cells z.cells T (0,0))) (v:=.pointer (some ⟨w.heap.size,0,none⟩)) rfl ?_ (hk _ _ (hS.alloc _));simp [execOp,Instr.alloc,newVar,newRow,go_sem,hz]
theorem aHO {v:Value} (hS:aA w0 w H) (hx:a.eval x=v)
 (hk:∀ b w',aA w0 w' (H++[.aB b (.cells v.cells T (0,0))])→wpList P ops Q rest (a.put dst (.pointer (some ⟨b,0,none⟩))) w'):wpList P ops Q (⟨dst,.box T x,ty,pos,ak,none⟩::rest) a w:=by
 refine lx (w':=w.alloc (.cells v.cells T (0,0))) (v:=.pointer (some ⟨w.heap.size,0,none⟩)) rfl ?_ (hk _ _ (hS.alloc _));generalize a.eval=ρ at hx;simp [execOp,Instr.box,newVar,newRow,go_sem,hx]
theorem nc {E:TypeId} {parts:Array (Nat × Operand)} {z:Value} {len:Nat} {cells:Array Value} (hS:aA w0 w H) (hu:P.underlying T=some (.slice E)) (dJ:∀ w,(sizeOf E).run P w=.ok k w) (hz:∀ w,(zeroValue E).run P w=.ok z w)
 (hl:len*k≤16777216) (h0:0<len*k) (hf:Instr.fill (fun i=>some (i*k,k)) ((Array.range (len*k)).map (z.cells[· % z.cells.size]!)) (parts.toList.map fun p=>(p.1,a.eval p.2))=some cells)
 (hk:∀ b w',aA w0 w' (H++[.aB b (.cells cells E (0,0))])→wpList P ops Q rest (a.put dst (.slice (some ⟨b,0,none⟩) len len)) w'):wpList P ops Q (⟨dst,.buildSlice T len parts,ty,pos,ak,none⟩::rest) a w:=by
 refine lx (w':=w.alloc (.cells cells E (0,0))) (v:=.slice (some ⟨w.heap.size,0,none⟩) len len) rfl ?_ (hk _ _ (hS.alloc _));generalize a.eval=ρ at hf;have h1:¬ (16777216<len*k):=by omega
 have h2:¬ (len*k=0):=by omega
 have h3:Array.toList (Array.map (fun x:Nat × Operand=>(x.1,ρ x.2)) parts)=parts.toList.map fun p=>(p.1,ρ p.2):=by simp
 simp only [execOp,Instr.buildSlice,Sem.run_bind,run_underlying hu,dJ,Result.andThen_ok,gt_iff_lt,Nat.reducePow,h1,if_false,h2,hz,Sem.run_pure,h3,hf]
 rfl
theorem aA.iB (hS:aA w0 w H) (E:TypeId) (k:Nat):aA w0 w (H++[.row (.slice none 0 0) E k 0 []]):=by
 refine⟨hS.os,hS.tape,hS.output,hS.drawn,hS.size,?_,a07 hS.apart fun c _ b _ hn=>by simp [Chunk.has,Value.ownBlock] at hn⟩;intro c hc
 rcases List.mem_append.1 hc with hc|hc
 ·exact hS.ok c hc
 ·simp at hc;subst hc
  exact World.ownsRow_nil w 0 E k
theorem aG8 {t ty e:TypeId} {i:TypeInfo} {z:Value} {size bytes:Nat} (ht:P.underlying t=some (.slice e)) (hi:P.info? e=some i) (hz:i.zero=some z)
 (tM:i.size=size) (jm:i.bytes=bytes) (iC:z.cells.size=size) (dJ:0<size)
 {v x:Value} {n m:Nat} {xs news:List Value} {S:Nat→Prop} (lW:w.ownsRow 0 e size v n xs) (hx:bN w S size x m news) (h1:∀ u ∈ news,u.oneCell'=true) (sk:(n+m)*bytes≤140737488355328) (uP:n+m≤maxLen) :
 ∃ ad cap w',(Builtin.append_ #[t,t] ty #[v,x]).run P w=.ok (.slice ad (n+m) cap) w'∧w'.ownsRow 0 e size (.slice ad (n+m) cap) (n+m) (xs++news)∧w.grownBy w' v.ownBlock∧w.drawn≤w'.drawn ∧
  (∀ b,(Value.slice ad (n+m) cap).ownBlock=some b→v.ownBlock=some b∨w.heap.size≤b):=by
 obtain⟨hl,adx,yM,rfl,s8,aXd,zo,aEP⟩:=hx
 have shape:∀ (v':Value) (w':World),w'.ownsRow 0 e size v' (n+m) (xs++news)→∃ ad cap,v'=.slice ad (n+m) cap:=by
  intro v' w' h
  rcases h.2 with ⟨rfl,h0⟩|⟨g,cap,cur,rfl,_⟩
  ·exact⟨none,0,by rw [h0]⟩
  ·exact⟨_,cap,rfl⟩
 cases adx with
 | none =>
  obtain⟨rfl,rfl⟩:=zo rfl;have hn:news=[]:=List.eq_nil_of_length_eq_zero (by simpa using hl);subst hn;have hr:=run_append_owned_none (P:=P) w 0 t ty e i size ht hi v n xs lW;have aJl:w.ownsRow 0 e size v (n+0) (xs++[]):=by simpa using lW
  obtain⟨ad,cap,hv⟩:=shape v w aJl;subst hv;exact⟨ad,cap,w,hr,aJl,World.grownBy.refl w _,Nat.le_refl _,fun b hb=>.inl hb⟩
 | some ad =>
  obtain⟨bx,ox,sx⟩:=ad;have hc:=aEP _ rfl
  have a1p:∀ j u,news[j]? = some u→w.cell? ((⟨bx,ox,sx⟩:Addr).add j)=some u:=fun j u hu=>by
   have uo:sx=none:=hc.spot (by intro e;subst e;simp at hu);subst uo;rw [xQ];exact hc.cell j u hu
  obtain⟨v',w',hr,ho,fy,aYi⟩:=run_append_own (P:=P) w 0 t ty e i z size bytes ht hi hz tM jm iC dJ v n xs lW _ m yM news hl a1p h1 uP sk (Nat.zero_le _);obtain⟨gD,a5H,hv'⟩:=shape v' w' ho;subst hv'
  have jD:w.drawn≤w'.drawn:=by
   rcases lW.2 with ⟨rfl,rfl⟩|⟨g,cap,cur,rfl,hbg,hg,mm,fg,hcs,a0Q⟩
   ·have lB:xs=[]:=List.eq_nil_of_length_eq_zero (by simpa using lW.1)
    by_cases wA:m=0
    ·subst wA
     have oh:news=[]:=List.eq_nil_of_length_eq_zero (by simpa using hl);have hf:=run_firstCells_some (P:=P) w size 0 ⟨bx,ox,sx⟩ 0 yM [] (by simp) (by simp)
     have cT:(Builtin.append_ #[t,t] ty #[.slice none 0 0,.slice (some ⟨bx,ox,sx⟩) 0 yM]).run P w=.ok (.slice none 0 0) w:=by
      subst tM;simp [Builtin.append_,run_underlying ht,sizeOf,typeInfo,hi,Builtin.lenOf,hf]
     rw [hr] at cT;simp only [Result.ok.injEq] at cT;rw [cT.2];exact Nat.le_refl _
    ·subst tM
     subst jm;have cT:=run_append_nil (P:=P) w t ty e i z ht hi hz ⟨bx,ox,sx⟩ m yM news hl a1p (by omega) (by simp only [maxLen] at uP;omega) (by rw [Nat.zero_add] at sk;omega);rw [hr] at cT;simp only [Result.ok.injEq] at cT;rw [cT.2];exact Nat.le_succ _
   ·by_cases xK:n+m≤cap
    ·subst tM
     have cT:=run_append_room (P:=P) w t ty e i ht hi g n cap cur hg ⟨bx,ox,sx⟩ m yM news hl a1p h1 xK (by rw [hl,hcs,← Nat.add_mul];exact Nat.mul_le_mul_right _ xK);rw [hr] at cT;simp only [Result.ok.injEq] at cT;rw [cT.2];exact Nat.le_refl _
    ·subst tM
     subst jm;have holds:∀ j u,xs[j]? = some u→w.cell? ((⟨g,0,none⟩:Addr).add j)=some u:=lW.cells (g:=g) rfl;have cT:=run_append_grow (P:=P) w t ty e i z ht hi hz ⟨g,0,none⟩ n cap xs lW.1 holds _ m yM news hl a1p (by omega) (by simp only [maxLen] at uP;omega) (growslice_fits (by omega) sk);rw [hr] at cT;simp only [Result.ok.injEq] at cT;rw [cT.2];exact Nat.le_succ _
  refine⟨gD,a5H,w',hr,ho,fy,jD,fun b hb=>?_⟩
  rcases lW.2 with ⟨rfl,rfl⟩|⟨g,cap,cur,rfl,hbg,hg,mm,fg,hcs,a0Q⟩
  ·right
   have aUT:w.ownsRow w.heap.size e size (.slice none 0 0) 0 xs:=⟨lW.1,.inl ⟨rfl,rfl⟩⟩;obtain⟨v2,w2,cT,wM,_,_⟩:=run_append_own (P:=P) w w.heap.size t ty e i z size bytes ht hi hz tM jm iC dJ _ 0 xs aUT _ m yM news hl a1p h1 uP sk (Nat.le_refl _);rw [hr] at cT;simp only [Result.ok.injEq] at cT;obtain⟨rfl,rfl⟩:=cT;exact (World.ownsRow.lt wM b hb).1
  ·by_cases xK:n+m≤cap
   ·obtain⟨w2,cT,wM,_⟩:=run_append_fits (P:=P) w 0 t ty e i size ht hi tM g n cap xs lW _ m yM news hl a1p h1 xK
    rw [hr] at cT;simp only [Result.ok.injEq] at cT;obtain⟨h3,rfl⟩:=cT;rw [h3] at hb;exact .inl hb
   ·right
    subst tM;subst jm;have holds:∀ j u,xs[j]? = some u→w.cell? ((⟨g,0,none⟩:Addr).add j)=some u:=lW.cells (g:=g) rfl;have cT:=run_append_grow (P:=P) w t ty e i z ht hi hz ⟨g,0,none⟩ n cap xs lW.1 holds _ m yM news hl a1p (by omega) (by simp only [maxLen] at uP;omega) (growslice_fits (by omega) sk);rw [hr] at cT;simp only [Result.ok.injEq] at cT;rw [cT.1] at hb;simp only [Value.ownBlock,Option.some.injEq] at hb;omega
theorem aIG {ρ:Operand→Value} {t:TypeId} {y:Operand} (o:Oper) (ho:o.op=.call ⟨.builtin .append,#[x,y],#[t,t]⟩) {r:Value} {w':World} (h:(Builtin.append_ #[t,t] o.type #[ρ x,ρ y]).run P w=.ok r w') :
 (execOp ρ o).run P w=.ok (.value r) w':=by
 unfold execOp;simp only [ho,resolve,invoke,builtin,Sem.run_bind,Sem.run_pure,Result.andThen_ok,List.map_toArray,List.map_cons,List.map_nil,h]
theorem uA {t:TypeId} {y:Operand} {e:TypeId} {z:Value} {size bytes:Nat} {v xv:Value} {n m:Nat} {xs news:List Value} (j:Nat) (hS:aA w0 w H) (ht:P.underlying t=some (.slice e)) (ky:(P.info? e).map (fun i=>(i.zero,i.size,i.bytes))=some (some z,size,bytes)) (iC:z.cells.size=size) (dJ:0<size) (hx:a.eval x=v) (hy:a.eval y=xv) (hj:H[j]? = some (.row v e size n xs)) (hv:bN wr S size xv m news) (hm:Chunk.aH S wr ∈ H) (h1:∀ u ∈ news,u.oneCell'=true)
 (sk:(n+m)*bytes≤140737488355328) (uP:n+m≤maxLen)
 (hk:∀ ad cap w',aA w0 w' (H.set j (.row (.slice ad (n+m) cap) e size (n+m) (xs++news)))→wpList P ops Q rest (a.put dst (.slice ad (n+m) cap)) w') :
 wpList P ops Q (⟨dst,.call ⟨.builtin .append,#[x,y],#[t,t]⟩,ty,pos,ak,none⟩::rest) a w:=by
 obtain⟨i,hi,hz,tM,jm⟩:=info_parts ky;have lW:=hS.ok _ (bW hj);obtain⟨ad,cap,w',hr,ho,fy,hdw,hb⟩:=aG8 (w:=w) (ty:=ty) ht hi hz tM jm iC dJ lW (hv.later hS hm) h1 sk uP;refine lx rfl (aIG _ rfl (by rw [hx,hy];exact hr)) (hk ad cap w' ?_);exact hS.sQ j hj fy.os fy.tape fy.output hdw fy.size ho hb (fun k hk tR=>fy.block k hk (fun e=>tR e.symm))
theorem fw {t:TypeId} {y:Operand} {e:TypeId} {z:Value} {size bytes:Nat} {v:Value} {n m b:Nat} {xs:List Value} {arr:Array Value} {Tb:TypeId} (j:Nat) (hS:aA w0 w (H++[.aB b (.cells arr Tb (0,0))])) (ht:P.underlying t=some (.slice e)) (ky:(P.info? e).map (fun i=>(i.zero,i.size,i.bytes))=some (some z,size,bytes)) (iC:z.cells.size=size) (dJ:0<size) (hx:a.eval x=v) (hy:a.eval y=.slice (some ⟨b,0,none⟩) m m) (hj:H[j]? = some (.row v e size n xs)) (hl:arr.size=m*size) (h1:∀ u ∈ arr.toList,u.oneCell'=true)
 (sk:(n+m)*bytes≤140737488355328) (uP:n+m≤maxLen)
 (hk:∀ ad cap w',aA w0 w' (H.set j (.row (.slice ad (n+m) cap) e size (n+m) (xs++arr.toList)))→wpList P ops Q rest (a.put dst (.slice ad (n+m) cap)) w') :
 wpList P ops Q (⟨dst,.call ⟨.builtin .append,#[x,y],#[t,t]⟩,ty,pos,ak,none⟩::rest) a w:=by
 obtain⟨i,hi,hz,tM,jm⟩:=info_parts ky;have fY:aA w0 w H:=hS.sub (List.sublist_append_left _ _);have lW:=fY.ok _ (bW hj)
 have hxc:bN w (fun k=>k=b) size (.slice (some ⟨b,0,none⟩) m m) m arr.toList:=by
  refine⟨by simpa using hl,_,m,rfl,Nat.le_refl _,by omega,(fun e=>by cases e),fun ad e=>?_⟩;cases e;refine⟨fun _=>rfl,fun _=>rfl,fun j u hu=>?_⟩;rw [Nat.zero_add,cell_of_row w b j arr Tb (0,0) (hS.aB (by simp))]
  simpa using hu
 obtain⟨ad,cap,w',hr,ho,fy,hdw,hb⟩:=aG8 (w:=w) (ty:=ty) ht hi hz tM jm iC dJ lW hxc h1 sk uP;refine lx rfl (aIG _ rfl (by rw [hx,hy];exact hr)) (hk ad cap w' ?_);exact fY.sQ j hj fy.os fy.tape fy.output hdw fy.size ho hb (fun k hk tR=>fy.block k hk (fun e=>tR e.symm))
theorem a7S {b off:Nat} {arr:Array Value} {Tb:TypeId} {u:Value} (hT:∀ w,(sizeOf T).run P w=.ok u.cells.size w) (hb:w.heap[b]? = some (.cells arr Tb (0,0))) (h1:u.cells.all (·.oneCell')=true) (hl:off+u.cells.size≤arr.size) :
 (storeVar T ⟨b,off,none⟩ u).run P w=.ok () (w.setRow b (arr.toList.take off++u.cells.toList++arr.toList.drop (off+u.cells.size)).toArray):=by
 have:=run_storeCells_at P b off Tb u.cells.toList 0 arr w hb (by simpa using hl) (fun v hv=>(Array.all_eq_true_iff_forall_mem.1 h1) v (by simpa using hv));simp only [storeVar,Sem.run_bind,hT,Result.andThen_ok,ne_eq,not_true_eq_false,if_false]
 simpa using this
theorem aAm {b off:Nat} {arr:Array Value} {Tb:TypeId} {u:Value} {y:Operand} (j:Nat) (hS:aA w0 w H) (hx:a.eval x=.pointer (some ⟨b,off,none⟩)) (hy:a.eval y=u) (hj:H[j]? = some (.aB b (.cells arr Tb (0,0))))
 (hT:∀ w,(sizeOf T).run P w=.ok u.cells.size w) (h1:u.cells.all (·.oneCell')=true) (hl:off+u.cells.size≤arr.size)
 (hk:∀ w',aA w0 w' (H.set j (.aB b (.cells (arr.toList.take off++u.cells.toList++arr.toList.drop (off+u.cells.size)).toArray Tb (0,0))))→wpList P ops Q rest (a.put dst undef) w') :
 wpList P ops Q (⟨dst,.store T x y,ty,pos,ak,none⟩::rest) a w:=by
 have hb:=hS.aB (bW hj);have hr:=a7S (P:=P) (T:=T) hT hb h1 hl;refine a3j (w':=w.setRow b (arr.toList.take off++u.cells.toList++arr.toList.drop (off+u.cells.size)).toArray) rfl ?_ (hk _ ?_)
 ·generalize a.eval=ρ at hx hy
  simp only [execOp,hx,hy,Instr.storeAt,Instr.sureAddr,Sem.run_bind,Sem.run_pure,Result.andThen_ok,hr]
 ·exact hS.write j hj rfl rfl rfl (Nat.le_refl _) (by simp [World.setRow]) (setRow_heap w b arr _ Tb (0,0) hb) (fun k _ bJ=>setRow_other w b k _ bJ)
end
section
variable {P:Program} {a:Act} {K:Act→Prop} {dst:Option Tmp} {ty T E:TypeId} {pos:String} {ak:Array Edge} {g:Option (Nat × Bool)} {x ix:Operand} {wr:World} {S:Nat→Prop}
theorem aNF {xs:List Int} {i:Nat} (h:i<xs.length):((xs.map (Value.int .i64)).drop i).take 1=[.int .i64 (nth 0 xs i)]:=by
 rw [List.drop_eq_getElem_cons (by simpa using h)];simp [h,nth]
theorem aCn (hu:P.underlying T=some (.slice E)) (hz:∀ w,(sizeOf E).run P w=.ok 1 w) {i:Int} {ad:Option Addr} {n cap:Nat} {xs:List Int} (hx:a.eval x=.slice ad n cap) (hi:a.eval ix=.int .i64 i) (hv:Ints wr S (.slice ad n cap) xs) (dg:0≤i) (jU:i<n)
 (hk:∀ b off,dM wr S ⟨b,off,none⟩ [.int .i64 (nth 0 xs i.toNat)]→K (a.put dst (.pointer (some ⟨b,off,none⟩)))):oN P ⟨dst,.indexAddr T x ix,ty,pos,ak,g⟩ a K :=
 lI hu hz hx hi hv.1 dg (by have:=hv.len;omega) (by omega) fun b off hc=>hk b off (by rw [Nat.mul_one,aNF (by have:=hv.len;omega)] at hc;exact hc)
theorem aNi (hu:P.underlying T=some (.slice E)) (hz:∀ w,(sizeOf E).run P w=.ok 1 w) {i:Int} {ad:Option Addr} {n cap:Nat} {xs:List Nat} (hx:a.eval x=.slice ad n cap) (hi:a.eval ix=.int .i64 i) (hv:jZ wr S (.slice ad n cap) xs) (dg:0≤i) (jU:i<n)
 (hk:∀ b off,dM wr S ⟨b,off,none⟩ [.int .i64 ((nth 0 xs i.toNat:Nat):Int)]→K (a.put dst (.pointer (some ⟨b,off,none⟩)))):oN P ⟨dst,.indexAddr T x ix,ty,pos,ak,g⟩ a K :=
 aCn hu hz hx hi hv dg jU fun b off hc=>hk b off (by rw [xj] at hc;exact hc)
theorem Ints.getD {w:World} {v:Value} {xs:List Int} (h:Ints w S v xs) (i:Nat):bQ (nth 0 xs i):=by
 unfold nth
 by_cases hi:i<xs.length
 ·rw [List.getD_eq_getElem?_getD,List.getElem?_eq_getElem hi]
  exact h.2 _ (List.getElem_mem hi)
 ·rw [List.getD_eq_getElem?_getD,List.getElem?_eq_none (by omega)]
  exact⟨by decide,by decide⟩
end
section
variable {P:Program} {ops:Array Oper} {Q:Exit→Act→World→Prop} {rest:List Oper} {a:Act} {w:World} {dst:Option Tmp} {ty T:TypeId} {pos:String} {ak:Array Edge} {g:Option (Nat × Bool)} {x y ix:Operand} {n:Nat} {parts:Array (Nat × Operand)} {as:Array Operand} {ts:Array TypeId}
theorem du (h:wpList P ops Q (⟨dst,.indexAddr T x ix,ty,pos,ak,g⟩::rest) a w):wpList P ops Q (⟨dst,.indexAddr T x ix,ty,pos,ak,g⟩::rest) a w:=h
theorem dq (h:wpList P ops Q (⟨dst,.load T x,ty,pos,ak,g⟩::rest) a w):wpList P ops Q (⟨dst,.load T x,ty,pos,ak,g⟩::rest) a w:=h
theorem g_box (h:wpList P ops Q (⟨dst,.box T x,ty,pos,ak,g⟩::rest) a w):wpList P ops Q (⟨dst,.box T x,ty,pos,ak,g⟩::rest) a w:=h
theorem dV (h:wpList P ops Q (⟨dst,.buildSlice T n parts,ty,pos,ak,g⟩::rest) a w):wpList P ops Q (⟨dst,.buildSlice T n parts,ty,pos,ak,g⟩::rest) a w:=h
theorem eG (h:wpList P ops Q (⟨dst,.call ⟨.builtin .append,as,ts⟩,ty,pos,ak,g⟩::rest) a w):wpList P ops Q (⟨dst,.call ⟨.builtin .append,as,ts⟩,ty,pos,ak,g⟩::rest) a w:=h
theorem gK (h:wpList P ops Q (⟨dst,.store T x y,ty,pos,ak,g⟩::rest) a w):wpList P ops Q (⟨dst,.store T x y,ty,pos,ak,g⟩::rest) a w:=h
end
theorem aH9 (off:Nat):∀ (l pre:List Value) (Z:Array Value) (rest:List Value) (i:Nat),Z.toList=pre++rest→pre.length=off+i→rest.length=l.length →
 ((l.zipIdx i).foldl (fun (cs:Array Value) (x:Value × Nat)=>cs.setIfInBounds (off+x.2) x.1) Z).toList=pre++l
 | [],pre,Z,rest,i,h,_,hr=>by
  have:rest=[]:=List.eq_nil_of_length_eq_zero (by simpa using hr);subst this
  simpa using h
 | c::l,pre,Z,rest,i,h,hp,hr=>by
  cases rest with
  | nil=>simp at hr
  | cons r rest =>
   simp only [List.zipIdx_cons,List.foldl_cons]
   have h1:(Z.setIfInBounds (off+i) c).toList=(pre++[c])++rest:=by
    rw [Array.toList_setIfInBounds,h,← hp,List.set_append_right _ _ (Nat.le_refl _)];simp
   have:=aH9 off l (pre++[c]) (Z.setIfInBounds (off+i) c) rest (i+1) h1 (by simp;omega) (by simpa using hr);rw [this];simp
section
variable {P:Program} {ops:Array Oper} {Q:Exit→Act→World→Prop} {rest:List Oper} {a:Act} {w w0:World} {H:List Chunk} {dst:Option Tmp} {ty T E:TypeId} {pos:String} {ak:Array Edge} {g:Option (Nat × Bool)} {x:Operand} {k:Nat}
theorem a9W {z v:Value} (hz:z.cells.size=k) (hv:v.cells.size=k) (h0:0<k) :
 Instr.fill (fun i=>some (i*k,k)) ((Array.range (1*k)).map (z.cells[· % z.cells.size]!)) [(0,v)]=some v.cells:=by
 unfold Instr.fill;simp only [Nat.zero_mul,Nat.zero_add];have hs:((Array.range (1*k)).map (z.cells[· % z.cells.size]!)).size=k:=by simp
 rw [if_neg (by rw [hv,hs];simp)];simp only [Instr.fill]
 congr 1
 apply Array.ext';have:=aH9 0 v.cells.toList [] ((Array.range (1*k)).map (z.cells[· % z.cells.size]!)) _ 0 (by simp only [List.nil_append];rfl) rfl (by rw [Array.length_toList,hs,Array.length_toList,hv]);simp only [Nat.zero_add,List.nil_append] at this;rw [← this,← Array.foldl_toList,Array.toList_zipIdx]
theorem fZ {z v:Value} (hS:aA w0 w H) (hu:P.underlying T=some (.slice E)) (dJ:∀ w,(sizeOf E).run P w=.ok k w) (hz:∀ w,(zeroValue E).run P w=.ok z w)
 (hx:a.eval x=v) (iC:z.cells.size=k) (hvs:v.cells.size=k) (h0:0<k) (hl:k≤16777216) (hg:Region.wanted ⟨dst,.buildSlice T 1 #[(0,x)],ty,pos,ak,g⟩ (yielded ops a.tmps)=true)
 (hk:∀ b w',aA w0 w' (H++[.aB b (.cells v.cells E (0,0))])→wpList P ops Q rest (a.put dst (.slice (some ⟨b,0,none⟩) 1 1)) w'):wpList P ops Q (⟨dst,.buildSlice T 1 #[(0,x)],ty,pos,ak,g⟩::rest) a w:=by
 refine lx (w':=w.alloc (.cells v.cells E (0,0))) (v:=.slice (some ⟨w.heap.size,0,none⟩) 1 1) hg ?_ (hk _ _ (hS.alloc _));have hf:=a9W (z:=z) (v:=v) iC hvs h0;generalize a.eval=ρ at hx;have h1:¬ (16777216<1*k):=by omega
 have h2:¬ (1*k=0):=by omega
 have h3:Array.toList (Array.map (fun y:Nat × Operand=>(y.1,ρ y.2)) #[(0,x)])=[(0,v)]:=by simp [hx]
 simp only [execOp,Instr.buildSlice,Sem.run_bind,run_underlying hu,dJ,Result.andThen_ok,gt_iff_lt,Nat.reducePow,h1,if_false,h2,hz,Sem.run_pure,h3,hf]
 rfl
end
section
variable {P:Program} {ops:Array Oper} {Q:Exit→Act→World→Prop} {C:World→Prop} {s:List Mv} {a:Act} {w:World} {i:Nat}
theorem run_pure {dst:Option Tmp} {op:Op} {ty:TypeId} {pos:String} {ak:Array Edge} {g:Option (Nat × Bool)} (ho:ops[i]? = some ⟨dst,op,ty,pos,ak,g⟩) (hw:Region.wanted ⟨dst,op,ty,pos,ak,g⟩ (yielded ops a.tmps)=true) (h:∀ K:Act→Prop,(∀ a,dN P ops Q C s a w→K a)→∃ v,(∀ w',(execOp a.eval ⟨dst,op,ty,pos,ak,g⟩).run P w'=.ok (.value v) w')∧K (a.put dst v)):dN P ops Q C (.p i::s) a w :=
 let ⟨v,hr,hk⟩:=h _ (fun _ h=>h)
 aLe ho hw hr hk
theorem aNe {dst:Option Tmp} {op:Op} {ty:TypeId} {pos:String} {ak:Array Edge} {g:Option (Nat × Bool)} (ho:ops[i]? = some ⟨dst,op,ty,pos,ak,g⟩) (h:wpList P ops (Exit.then (fun a' w'=>C w'∧dN P ops (di Q) C s a' w') (di Q)) [⟨dst,op,ty,pos,ak,g⟩] a w):dN P ops (di Q) C (.e i::s) a w:=aMz ho (fun _ _ _ h=>h) h
theorem aO6 {dst:Option Tmp} {op:Op} {ty:TypeId} {pos:String} {ak:Array Edge} {g:Option (Nat × Bool)} (ho:ops[i]? = some ⟨dst,op,ty,pos,ak,g⟩) (h:wpList P ops (Exit.then (fun a' w'=>dN P ops (di Q) C s a' w') (di Q)) [⟨dst,op,ty,pos,ak,g⟩] a w):dN P ops (di Q) C (.m i::s) a w:=aMy ho (fun _ _ _ h=>h) h
theorem aX {K:Act→World→Prop} {Q':Exit→Act→World→Prop} (hC:C w) (h:K a w):wpList P ops (Exit.then (fun a' w'=>C w'∧K a' w') Q') [] a w:=⟨hC,h⟩
theorem dD {K:Act→World→Prop} {Q':Exit→Act→World→Prop} (h:K a w):wpList P ops (Exit.then (fun a' w'=>K a' w') Q') [] a w:=h
theorem kM (h:dN P ops Q C (.p i::s) a w):dN P ops Q C (.p i::s) a w:=h
theorem l8 (h:dN P ops Q C (.r i::s) a w):dN P ops Q C (.r i::s) a w:=h
end
def a1n (Q:Exit→Act→World→Prop) (K:Act→World→Prop):Exit→Act→World→Prop
 | .normal,a,w=>K a w
 | e,a,w=>Q e a w
section
variable {P:Program} {ops:Array Oper} {Q:Exit→Act→World→Prop} {md:Region.Mode} {C:World→Prop} {M:List Nat}
theorem aG7 (Q:Exit→Act→World→Prop) (K:Act→World→Prop):LetsOut (di (a1n Q K))→LetsOut (di Q):=fun ⟨a,w,h⟩=>⟨a,w,h⟩
theorem aQJ {K:Act→World→Prop} {K2:Act→World→Prop} {i:Nat} {a:Act} {w:World} (h:wpOp P ops (di (a1n Q K2)) i K a w):wpOp P ops (di Q) i K a w:=by
 unfold wpOp at *
 split
 ·rename_i hn
  simpa [hn] using h
 ·rename_i o ho
  simp only [ho] at h
  split
  ·rename_i hw
   rw [if_pos hw] at h
   rcases h with h|⟨h1,h2⟩
   ·left
    unfold Oper.wp at *;generalize (execOp a.eval o).run P w=r at *;cases r with
    | ok n w' =>
     cases n <;> simp only [Oper.upon] at h ⊢ <;>
      first
       | exact h
       | exact Calls.mono h (fun e uG he=>by cases e <;> first|exact he|exact he.elim|exact aG7 _ _ he)
    | halt x w'=>cases x <;> simp only [Oper.upon] at h ⊢ <;> first|exact h|exact h.elim
   ·exact .inr ⟨h1,aG7 _ _ h2⟩
  ·rename_i hw
   rw [if_neg hw] at h;exact h
def after:List Mv→Array Bool→Array Bool
 | [],aY=>aY
 | .p i::s,aY=>after s (aY.setIfInBounds i true)
 | .r i::s,aY=>after s (aY.setIfInBounds i true)
 | .e i::s,aY=>after s (aY.setIfInBounds i true)
 | .m i::s,aY=>after s (aY.setIfInBounds i true)
def xy (md:Region.Mode) (ops:Array Oper) (M:List Nat):List Mv→Array Bool→Bool
 | [],aY=>true
 | .p i::s,aY=>(Region.ready md ops aY).contains i && Region.free md ops aY i && !M.contains i && xy md ops M s (aY.setIfInBounds i true)
 | .r i::s,aY=>(Region.ready md ops aY).contains i && Region.free md ops aY i && !M.contains i && (M.all fun m=>(oa md ops ops.size m).contains i) && xy md ops M s (aY.setIfInBounds i true)
 | .e i::s,aY=>(Region.ready md ops aY == [i]) && xy md ops M s (aY.setIfInBounds i true)
 | .m _::_,_=>false
theorem aQF (ic:Region.noSelect ops=true) (K:Act→World→Prop) (n:Nat):∀ (s:List Mv) (aY:Array Bool) (a:Act) (w:World),xy md ops M s aY=true→lR md ops aY→mG M C aY w →
 dN P ops (di (a1n Q K)) C s a w→(∀ a w,lR md ops (after s aY)→mG M C (after s aY) w→K a w→j5 P md ops (di Q) M C n (after s aY) a w)→j5 P md ops (di Q) M C (s.length+n) aY a w:=by
 intro s;have hQ:∀ c a w,¬ di Q (.panic c) a w:=fun c a w h=>h
 induction s with
 | nil =>
  intro aY a w bG dK hk h gq;rw [List.length_nil,Nat.zero_add];exact gq a w dK hk h
 | cons m s ih =>
  intro aY a w bG dK hk h gq;rw [List.length_cons,Nat.succ_add];cases m with
  | p i =>
   simp only [xy,Bool.and_eq_true,Bool.not_eq_true'] at bG;obtain⟨⟨⟨h1,h2⟩,h3⟩,h4⟩:=bG;have jj:i ∉ M:=by simpa using h3
   have hr:i ∈ Region.ready md ops aY:=by simpa using h1
   obtain⟨o,ho,h⟩:=h
   have iI:mG M C (aY.setIfInBounds i true) w:=by
    intro hm;refine hk fun m kG=>?_
    have rM:i≠m:=fun e=>by subst e;exact jj kG
    have:=hm m kG
    rwa [getD_set_ne false rM] at this
   split at h
   ·rename_i hw
    obtain⟨v,hv,h⟩:=h;exact j5.first (S:=fun _=>True) ho (Region.noSelect_spec ic) hQ jj (fun _ _ _ _ _=>trivial) (s.length+n) aY a w dK hk (Region.free_spec ho h2) hr (.inl ⟨hw,fun w' _=>hv w'⟩) (ih _ _ _ h4 (dK.set hr) iI h gq)
   ·rename_i hw
    exact j5.first (S:=fun _=>True) ho (Region.noSelect_spec ic) hQ jj (fun _ _ _ _ _=>trivial) (s.length+n) aY a w dK hk (Region.free_spec ho h2) hr (.inr ⟨by simpa using hw,rfl⟩) (ih _ _ _ h4 (dK.set hr) iI h gq)
  | r i =>
   simp only [xy,Bool.and_eq_true,Bool.not_eq_true'] at bG;obtain⟨⟨⟨⟨h1,h2⟩,h3⟩,h5⟩,h4⟩:=bG;have jj:i ∉ M:=by simpa using h3
   have hr:i ∈ Region.ready md ops aY:=by simpa using h1
   obtain⟨o,ho,h⟩:=h
   have iI:mG M C (aY.setIfInBounds i true) w:=by
    intro hm;refine hk fun m kG=>?_
    have rM:i≠m:=fun e=>by subst e;exact jj kG
    have:=hm m kG
    rwa [getD_set_ne false rM] at this
   have tG:∀ (aY:Array Bool) (w:World),lR md ops aY→aY.getD i true=false→mG M C aY w→C w:=by
    intro l' w' hc hu n9;refine n9 fun m kG=>?_
    cases hl:l'.getD m false with
    | false=>rfl
    | true =>
     have h6:=List.all_eq_true.1 h5 m kG;have h7:i ∈ oa md ops ops.size m:=by simpa using h6
     have h8:=hc.oa _ m hl i h7;rw [a4A hu] at h8;cases h8
   split at h
   ·rename_i hw
    obtain⟨v,hv,h⟩:=h;exact j5.first (S:=C) ho (Region.noSelect_spec ic) hQ jj tG (s.length+n) aY a w dK hk (Region.free_spec ho h2) hr (.inl ⟨hw,hv⟩) (ih _ _ _ h4 (dK.set hr) iI h gq)
   ·rename_i hw
    exact j5.first (S:=C) ho (Region.noSelect_spec ic) hQ jj tG (s.length+n) aY a w dK hk (Region.free_spec ho h2) hr (.inr ⟨by simpa using hw,rfl⟩) (ih _ _ _ h4 (dK.set hr) iI h gq)
  | e i =>
   simp only [xy,Bool.and_eq_true,beq_iff_eq] at bG;obtain⟨h1,h4⟩:=bG;refine⟨fun h0=>(by rw [h1] at h0;cases h0),fun j hj=>?_⟩;have hr:=hj;rw [h1] at hj;simp only [List.mem_singleton] at hj;subst hj;exact wpOp_mono (fun a' w' h'=>⟨fun _=>h'.1,ih _ _ _ h4 (dK.set hr) (fun _=>h'.1) h'.2 gq⟩) (aQJ h)
  | m i=>simp [xy] at bG
inductive Tr where
 | line (s:List Mv)
 | fork (s:List Mv) (i:Nat) (t:Tr) (j:Nat) (u:Tr)
def Tr.len:Tr→Nat
 | .line s=>s.length
 | .fork s _ t _ _=>s.length+(t.len+1)
def vL (P:Program) (ops:Array Oper) (Q:Exit→Act→World→Prop) (C:World→Prop):Tr→Act→World→Prop
 | .line s,a,w=>dN P ops (di Q) C s a w
 | .fork s i t j u,a,w=>dN P ops (di (a1n Q fun a w=>wpOp P ops (di Q) i (fun a' w'=>C w'∧vL P ops Q C t a' w') a w∧wpOp P ops (di Q) j (fun a' w'=>C w'∧vL P ops Q C u a' w') a w)) C s a w
def a3p (md:Region.Mode) (ops:Array Oper) (M:List Nat):Tr→Array Bool→Bool
 | .line s,aY=>p9 md ops M s aY
 | .fork s i t j u,aY=>xy md ops M s aY && (Region.ready md ops (after s aY) == [i,j]) && (t.len == u.len) && a3p md ops M t ((after s aY).setIfInBounds i true) && a3p md ops M u ((after s aY).setIfInBounds j true)
theorem aBP (ic:Region.noSelect ops=true):∀ (t:Tr) (aY:Array Bool) (a:Act) (w:World),a3p md ops M t aY=true→lR md ops aY→mG M C aY w →
 vL P ops Q C t a w→j5 P md ops (di Q) M C t.len aY a w
 | .line s,aY,a,w,bG,dK,hk,h=>aBh ic (fun c a w h=>h) s aY a w bG dK hk h
 | .fork s i t j u,aY,a,w,bG,dK,hk,h=>by
  simp only [a3p,Bool.and_eq_true,beq_iff_eq] at bG;obtain⟨⟨⟨⟨h1,h2⟩,h3⟩,h4⟩,h5⟩:=bG;refine aQF ic _ (t.len+1) s aY a w h1 dK hk h fun a' w' aLn iI ⟨hi,hj⟩=>?_
  refine⟨fun h0=>(by rw [h2] at h0;cases h0),fun k iE=>?_⟩;have hr:=iE;rw [h2] at iE;simp only [List.mem_cons,List.not_mem_nil,or_false] at iE
  rcases iE with rfl|rfl
  ·exact wpOp_mono (fun a'' uG h'=>⟨fun _=>h'.1,aBP ic t _ _ _ h4 (aLn.set hr) (fun _=>h'.1) h'.2⟩) hi
  ·refine wpOp_mono (fun a'' uG h'=>⟨fun _=>h'.1,?_⟩) hj
   rw [h3];exact aBP ic u _ _ _ h5 (aLn.set hr) (fun _=>h'.1) h'.2
theorem wp_region_tr {Q:Exit→Act→World→Prop} {id:Nat} {a:Act} {w:World} {l:List Oper} (t:Tr) (M:List Nat) (C:World→Prop) (hm:P.follows .mixedOrders=true)
 (bG:(Region.noSelect l.toArray && (t.len == l.length) && a3p .any l.toArray M t (Array.replicate l.length false))=true) (hC:C w.drew)
 (h:∀ w',C w'→vL P l.toArray Q C t a w'):(Code.region id l.toArray true).wp P Q a w:=by
 simp only [Bool.and_eq_true,beq_iff_eq] at bG;obtain⟨⟨h1,h2⟩,h3⟩:=bG;refine wp_mono (Q:=di Q) (wp_region_any hm ?_) (fun e a w hq=>by cases e <;> first|exact hq|exact hq.elim);have:=aBP (P:=P) (Q:=Q) (md:=.any) (M:=M) (C:=C) h1 t (Array.replicate l.length false) a w.drew h3 (a6p _) (fun _=>hC) (h _ hC);rw [h2] at this
 simpa using this.any
theorem aEs {s:List Mv} {a:Act} {w:World} (h:dN P ops (di Q) C s a w):vL P ops Q C (.line s) a w:=h
theorem aJb {s:List Mv} {i j:Nat} {t u:Tr} {a:Act} {w:World} (h:dN P ops (di (a1n Q fun a w=>wpOp P ops (di Q) i (fun a' w'=>C w'∧vL P ops Q C t a' w') a w∧wpOp P ops (di Q) j (fun a' w'=>C w'∧vL P ops Q C u a' w') a w)) C s a w):vL P ops Q C (.fork s i t j u) a w:=h
theorem a7L {dst:Option Tmp} {op:Op} {ty:TypeId} {pos:String} {ak:Array Edge} {g:Option (Nat × Bool)} {i:Nat} {t:Tr} {a:Act} {w:World} (ho:ops[i]? = some ⟨dst,op,ty,pos,ak,g⟩) (h:wpList P ops (Exit.then (fun a' w'=>C w'∧vL P ops Q C t a' w') (di Q)) [⟨dst,op,ty,pos,ak,g⟩] a w):wpOp P ops (di Q) i (fun a' w'=>C w'∧vL P ops Q C t a' w') a w :=
 a4N ho h (fun _ _ _ h=>h)
end
def weightTo (W:List Int) (of:List Nat) (g:Nat):Nat→Int
 | 0=>0
 | i+1=>weightTo W of g i+if nth 0 of i=g then nth 0 W i else 0
def weight (W:List Int) (of:List Nat) (g:Nat):Int:=weightTo W of g of.length
def ends (of:List Nat) (e:zN):Nat × Nat:=(nth 0 of e.1.toNat,nth 0 of e.2.1.toNat)
def aKi (of:List Nat) (a b:Nat) (e:zN):Prop:=(nth 0 of e.1.toNat=a∧nth 0 of e.2.1.toNat=b)∨(nth 0 of e.1.toNat=b∧nth 0 of e.2.1.toNat=a)
instance (of:List Nat) (a b:Nat) (e:zN):Decidable (aKi of a b e):=by unfold aKi;infer_instance
def commonTo (N:List zN) (of:List Nat) (a b:Nat):Nat→Int
 | 0=>0
 | i+1=>commonTo N of a b i+if aKi of a b (nth tz N i) then (nth tz N i).2.2 else 0
def common (N:List zN) (of:List Nat) (a b:Nat):Int:=commonTo N of a b N.length
def isNear (N:List zN) (of:List Nat) (g b:Nat):Bool:=decide (nth 0 of b=b∧b≠g∧b≠nth 0 of 0∧0<common N of g b)
def nears (N:List zN) (of:List Nat) (g:Nat):List Nat:=(List.range of.length).filter (isNear N of g)
structure Str where
 fK:Nat
 a:Nat
 b:Nat
 aXD:Nat
 deriving DecidableEq
def first (W:List Int) (N:List zN) (of:List Nat) (g:Nat) (most:Int):Option Str :=
 if nth 0 of g=g∧g≠nth 0 of 0∧weight W of g<most then
  match nears N of g with
  | [x,y]=>some ⟨g,x,y,if common N of g x<common N of g y then y else x⟩
  | _=>none
 else none
def nextFrom (W:List Int) (N:List zN) (of:List Nat) (most:Int):Nat→Nat→Option Str
 | 0,_=>none
 | k+1,i=>match first W N of i most with
  | some s=>some s
  | none=>nextFrom W N of most k (i+1)
def next (W:List Int) (N:List zN) (of:List Nat) (most:Int):Option Str:=nextFrom W N of most of.length 0
section
variable {κ:Type} [DecidableEq κ] {ν:Type}
def look (k:κ):List κ→List MapEntry→Nat→Option (Nat × Value)
 | x::ks,e::es,i=>if k=x then some (i,e.val) else look k ks es (i+1)
 | _,_,_=>none
structure tP (P:Program) (T:TypeId) (ek:κ→Value):Prop where
 s9:∀ (e:Bool) (k:κ) (w:World),(Instr.checkKey e 10000 T (ek k)).run P w=.ok () w
 find:∀ (k:κ) (ks:List κ) (es:List MapEntry) (w:World),es.map (·.key)=ks.map ek→(Instr.findKey T (ek k) es).run P w=.ok (look k ks es 0) w
 stays:∀ (k:κ) (w:World),(Instr.keyThatStays (ek k) (ek k)).run P w=.ok (ek k) w
structure gj (ek:κ→Value) (ev:ν→Value) (o:Obj) (l:List (κ × ν)):Prop where
 ex:∃ es clock,o=.map es clock∧es.toList.map (fun e=>(e.key,e.val))=l.map (fun p=>(ek p.1,ev p.2))∧es.toList.Pairwise (fun a b=>a.born<b.born)∧∀ e ∈ es.toList,e.born<clock
 nodup:(l.map (·.1)).Nodup
def eZ (l:List (κ × ν)) (k:κ):Option ν:=(l.find? (fun p=>decide (p.1=k))).map (·.2)
def fV:List (κ × ν)→κ→ν→List (κ × ν)
 | [],k,v=>[(k,v)]
 | (x,u)::l,k,v=>if x=k then (x,v)::l else (x,u)::fV l k v
theorem aMS (k:κ):eZ ([]:List (κ × ν)) k=none:=rfl
theorem tE (x:κ) (u:ν) (l:List (κ × ν)) (k:κ):eZ ((x,u)::l) k=if x=k then some u else eZ l k:=by
 unfold eZ
 by_cases h:x=k <;> simp [h]
theorem a1y (l:List (κ × ν)) (k j:κ) (v:ν):eZ (fV l k v) j=if k=j then some v else eZ l j:=by
 induction l with
 | nil=>simp [fV,tE,aMS]
 | cons p l ih =>
  obtain⟨x,u⟩:=p;simp only [fV]
  by_cases h:x=k
  ·rw [if_pos h,tE,tE,h]
   by_cases hj:k=j <;> simp [hj]
  ·rw [if_neg h,tE,tE,ih]
   by_cases hx:x=j
   ·have:k≠j:=fun e=>h (by rw [hx,e])
    simp [hx,this]
   ·simp [hx]
theorem a7q (l:List (κ × ν)) (k:κ) (v:ν) (x:κ):x ∈ (fV l k v).map (·.1)↔x=k∨x ∈ l.map (·.1):=by
 induction l with
 | nil=>simp [fV]
 | cons p l ih =>
  obtain⟨y,u⟩:=p;simp only [fV]
  by_cases h:y=k
  ·rw [if_pos h];simp only [List.map_cons,List.mem_cons];rw [h]
   constructor
   ·rintro (h|h) <;> simp [h]
   ·rintro (h|h|h) <;> simp [h]
  ·rw [if_neg h]
   simp only [List.map_cons,List.mem_cons,ih]
   constructor
   ·rintro (h|h|h) <;> simp [h]
   ·rintro (h|h|h) <;> simp [h]
theorem a6F {l:List (κ × ν)} (h:(l.map (·.1)).Nodup) (k:κ) (v:ν):((fV l k v).map (·.1)).Nodup:=by
 induction l with
 | nil=>simp [fV]
 | cons p l ih =>
  obtain⟨x,u⟩:=p;simp only [List.map_cons,List.nodup_cons] at h;simp only [fV]
  split
  ·simpa using h
  ·rename_i hx
   simp only [List.map_cons,List.nodup_cons];refine⟨fun hm=>?_,ih h.2⟩
   rcases (a7q l k v x).1 hm with h'|h'
   ·exact hx h'
   ·exact h.1 h'
theorem a6u {l:List (κ × ν)} {k:κ} {v:ν} (h:eZ l k=some v):(k,v) ∈ l:=by
 unfold eZ at h;simp only [Option.map_eq_some_iff] at h;obtain⟨p,hp,rfl⟩:=h;have h1:=List.mem_of_find?_eq_some hp;have h2:=List.find?_some hp;simp only [decide_eq_true_eq] at h2;rw [← h2];exact h1
theorem a4C {l:List (κ × ν)} (hn:(l.map (·.1)).Nodup) {k:κ} {v:ν} (h:(k,v) ∈ l):eZ l k=some v:=by
 induction l with
 | nil=>simp at h
 | cons p l ih =>
  obtain⟨x,u⟩:=p;simp only [List.map_cons,List.nodup_cons] at hn;rw [tE]
  rcases List.mem_cons.1 h with h'|h'
  ·simp only [Prod.mk.injEq] at h'
   rw [if_pos h'.1.symm,h'.2]
  ·rw [if_neg,ih hn.2 h']
   intro e;subst e;exact hn.1 (List.mem_map.2 ⟨_,h',rfl⟩)
theorem aC6 {l:List (κ × ν)} {k:κ} (h:k ∉ l.map (·.1)):eZ l k=none:=by
 unfold eZ;rw [Option.map_eq_none_iff,List.find?_eq_none];intro p hp hk;simp only [decide_eq_true_eq] at hk;exact h (List.mem_map.2 ⟨p,hp,hk⟩)
 omit [DecidableEq κ] in
theorem gj.empty (ek:κ→Value) (ev:ν→Value):gj ek ev (.map #[] 0) []:=⟨⟨#[],0,rfl,rfl,by simp,by simp⟩,by simp⟩
theorem a1T (ev:ν→Value) (ek:κ→Value) (k:κ):∀ (l:List (κ × ν)) (es:List MapEntry) (i:Nat),es.map (fun e=>(e.key,e.val))=l.map (fun p=>(ek p.1,ev p.2)) →
 (eZ l k=none∧look k (l.map (·.1)) es i=none)∨(∃ j v,eZ l k=some v∧look k (l.map (·.1)) es i=some (i+j,ev v)∧j<l.length∧(l[j]?).map (·.1)=some k∧∀ a,fV l k a=l.set j (k,a))
 | [],es,i,h=>by
  left
  exact⟨rfl,by simp [look]⟩
 | p::l,[],i,h=>by simp at h
 | (x,u)::l,e::es,i,h=>by
  simp only [List.map_cons,List.cons.injEq,Prod.mk.injEq] at h;obtain⟨⟨h1,h2⟩,h3⟩:=h
  by_cases hk:x=k
  ·right
   refine⟨0,u,by rw [tE,if_pos hk],?_,by simp,by simp [hk],fun a=>by simp [fV,hk]⟩;simp [look,hk,h2]
  ·rcases a1T ev ek k l es (i+1) h3 with ⟨h4,h5⟩|⟨j,v,h4,h5,h6,h7,h8⟩
   ·left
    exact⟨by rw [tE,if_neg hk];exact h4,by simp only [List.map_cons,look];rw [if_neg (fun e=>hk e.symm)];exact h5⟩
   ·right
    refine⟨j+1,v,by rw [tE,if_neg hk];exact h4,?_,by simp;omega,by simpa using h7,fun a=>by simp only [fV];rw [if_neg hk,h8];rfl⟩;simp only [List.map_cons,look];rw [if_neg (fun e=>hk e.symm),h5]
    congr 2
    omega
theorem a7t {l:List (κ × ν)} {k:κ} (h:eZ l k=none) (v:ν):fV l k v=l++[(k,v)]:=by
 induction l with
 | nil=>rfl
 | cons p l ih =>
  obtain⟨x,u⟩:=p;rw [tE] at h
  by_cases hx:x=k
  ·rw [if_pos hx] at h;cases h
  ·rw [if_neg hx] at h
   simp only [fV];rw [if_neg hx,ih h]
   rfl
variable {P:Program} {T E Tm:TypeId} {ek:κ→Value} {ev:ν→Value} {w:World} {b:Nat} {o:Obj} {l:List (κ × ν)}
 omit [DecidableEq κ] in
theorem a1k {es:List MapEntry} (h:es.map (fun e=>(e.key,e.val))=l.map (fun p=>(ek p.1,ev p.2))):es.map (·.key)=(l.map (·.1)).map ek:=by
  have:=congrArg (List.map Prod.fst) h
  simpa [List.map_map,Function.comp_def] using this
theorem aWJ {z:ν} (hu:P.underlying Tm=some (.map T E)) (hz:∀ w,(zeroValue E).run P w=.ok (ev z) w) (K:tP P T ek) (hb:w.heap[b]? = some o) (hm:gj ek ev o l) (k:κ) :
 (Instr.lookup Tm (.map (some b)) (ek k) false).run P w=.ok (ev ((eZ l k).getD z)) w:=by
 obtain⟨⟨es,clock,rfl,dW,hp,hc⟩,hn⟩:=hm;have hg:=MapKept.run_getObj_map (P:=P) hb;have hf:=K.find k (l.map (·.1)) es.toList w (a1k dW);unfold Instr.lookup;simp only [Sem.run_bind,run_underlying hu,Result.andThen_ok,hg,Sem.run_pure,K.s9,hf]
 rcases a1T ev ek k l es.toList 0 dW with ⟨h1,h2⟩|⟨j,v,h1,h2,_⟩
 ·simp [h1,h2,hz]
 ·simp [h1,h2]
def a7D (ek:κ→Value) (o:Obj) (k:κ) (s:Nat):Prop:=∃ (es:Array MapEntry) (clock j:Nat),o=.map es clock∧(∃ e:MapEntry,es[j]? = some e∧e.key=ek k∧e.born=s)
theorem xR {α:Type} (a:Array α) (i:Nat) (f:α→α):(a.modify i f).toList=a.toList.modify i f:=by simp
 omit [DecidableEq κ] in
theorem aCC {es:List MapEntry} {l:List (κ × ν)} (h:es.map (fun e=>(e.key,e.val))=l.map (fun p=>(ek p.1,ev p.2))) {j:Nat} {k:κ} (hj:(l[j]?).map (·.1)=some k) (v:ν) :
  (es.modify j (fun e=>{ e with key:=ek k,val:=ev v })).map (fun e=>(e.key,e.val))=(l.set j (k,v)).map (fun p=>(ek p.1,ev p.2)):=by
  induction es generalizing l j with
  | nil =>
   cases l with
   | nil=>simp
   | cons p l=>simp at h
  | cons e es ih =>
   cases l with
   | nil=>simp at h
   | cons p l =>
    simp only [List.map_cons,List.cons.injEq] at h;cases j with
    | zero=>simp [h.2]
    | succ j =>
     simp only [List.modify_succ_cons,List.map_cons,List.set_cons_succ,h.1,ih h.2 (by simpa using hj)]
theorem a0W (f:MapEntry→MapEntry) (hf:∀ e,(f e).born=e.born):∀ (es:List MapEntry) (j:Nat),(es.modify j f).map (·.born)=es.map (·.born)
 | [],j=>by simp
 | e::es,0=>by simp [hf]
 | e::es,j+1=>by simp [a0W f hf es j]
theorem aFv {es iy:List MapEntry} (h:iy.map (·.born)=es.map (·.born)) (hp:es.Pairwise (fun a b=>a.born<b.born)):iy.Pairwise (fun a b=>a.born<b.born):=by
 have h1:(es.map (·.born)).Pairwise (· < ·):=List.pairwise_map.2 hp;rw [← h] at h1;exact List.pairwise_map.1 h1
theorem aFb {es iy:List MapEntry} {c:Nat} (h:iy.map (·.born)=es.map (·.born)) (hp:∀ e ∈ es,e.born<c):∀ e ∈ iy,e.born<c:=by
 intro e he;have:e.born ∈ iy.map (·.born):=List.mem_map.2 ⟨e,he,rfl⟩;rw [h] at this;obtain⟨e',he',heq⟩:=List.mem_map.1 this;rw [← heq];exact hp e' he'
theorem aPQ (hu:P.underlying Tm=some (.map T E)) (K:tP P T ek) (hb:w.heap[b]? = some o) (hm:gj ek ev o l) (k:κ) (v:ν) :
 ∃ o',(Instr.mapUpdate Tm (.map (some b)) (ek k) (ev v)).run P w=.ok () { w with heap:=w.heap.setIfInBounds b o' }∧gj ek ev o' (fV l k v):=by
 obtain⟨⟨es,clock,rfl,dW,hp,hc⟩,hn⟩:=hm;have hg:=MapKept.run_getObj_map (P:=P) hb;have hf:=K.find k (l.map (·.1)) es.toList w (a1k dW);unfold Instr.mapUpdate;simp only [Sem.run_bind,run_underlying hu,Result.andThen_ok,hg,Sem.run_pure,K.s9,hf]
 rcases a1T ev ek k l es.toList 0 dW with ⟨h1,h2⟩|⟨j,v0,h1,h2,gX,gM,vz⟩
 ·simp only [h2]
  refine⟨_,MapKept.run_setObj_map (P:=P) _ hb,⟨⟨_,_,rfl,?_,?_,?_⟩,a6F hn k v⟩⟩
  ·rw [a7t h1];simp [dW]
  ·simp only [Array.toList_push]
   exact a07 hp fun e he=>hc e he
  ·intro e he
   simp only [Array.toList_push,List.mem_append,List.mem_singleton] at he
   rcases he with he|rfl
   ·have:=hc e he;omega
   ·simp
 ·simp only [h2,Nat.zero_add]
  have xV:((es[j]?).map (·.key)).getD (ek k)=ek k:=by
   have h3:es.toList.map (·.key)=(l.map (·.1)).map ek:=a1k dW;have h4:=congrArg (fun l=>l[j]?) h3;simp only [List.getElem?_map,Array.getElem?_toList] at h4;rw [h4];cases hl:l[j]? with
   | none=>rw [hl] at gM;cases gM
   | some p=>rw [hl] at gM;simp only [Option.map_some,Option.some.injEq] at gM ⊢;simp [gM]
  simp only [xV,Sem.run_bind,K.stays,Result.andThen_ok];refine⟨_,MapKept.run_setObj_map (P:=P) _ hb,⟨⟨_,_,rfl,?_,?_,?_⟩,a6F hn k v⟩⟩
  ·rw [xR,vz v]
   exact aCC dW gM v
  ·rw [xR]
   exact aFv (a0W (fun e=>{ e with key:=ek k,val:=ev v }) (fun _=>rfl) es.toList j) hp
  ·rw [xR]
   exact aFb (a0W (fun e=>{ e with key:=ek k,val:=ev v }) (fun _=>rfl) es.toList j) hc
theorem aUf {z:ν} (hu:P.underlying Tm=some (.map T E)) (hz:∀ w,(zeroValue E).run P w=.ok (ev z) w) (K:tP P T ek) (hb:w.heap[b]? = some o) (hm:gj ek ev o l) (k:κ) :
 ∃ o' s,(Instr.mapEntry Tm (.map (some b)) (ek k)).run P w=.ok (.tuple #[ev ((eZ l k).getD z),.int .i64 (s:Nat)]) { w with heap:=w.heap.setIfInBounds b o' }∧gj ek ev o' (fV l k ((eZ l k).getD z))∧a7D ek o' k s:=by
 obtain⟨⟨es,clock,rfl,dW,hp,hc⟩,hn⟩:=hm;have hg:=MapKept.run_getObj_map (P:=P) hb;have hf:=K.find k (l.map (·.1)) es.toList w (a1k dW);have zV:∀ o':Obj,(setObj b o').run P w=.ok () { w with heap:=w.heap.setIfInBounds b o' }:=fun o'=>MapKept.run_setObj_map (P:=P) o' hb
 unfold Instr.mapEntry;simp only [Sem.run_bind,run_underlying hu,Result.andThen_ok,hg,Sem.run_pure,K.s9,hf]
 rcases a1T ev ek k l es.toList 0 dW with ⟨h1,h2⟩|⟨j,v0,h1,h2,gX,gM,vz⟩
 ·refine⟨.map (es.push { key:=ek k,val:=ev z,born:=clock }) (clock+1),clock,?_,⟨⟨_,_,rfl,?_,?_,?_⟩,a6F hn k _⟩,⟨_,_,es.size,rfl,{ key:=ek k,val:=ev z,born:=clock },by simp,rfl,rfl⟩⟩
  ·simp [h1,h2,hz,zV,goInt]
  ·rw [a7t h1,h1];simp [dW]
  ·simp only [Array.toList_push]
   exact a07 hp fun e he=>hc e he
  ·intro e he
   simp only [Array.toList_push,List.mem_append,List.mem_singleton] at he
   rcases he with he|rfl
   ·have:=hc e he;omega
   ·simp
 ·have hlen:es.toList.length=l.length:=by have:=congrArg List.length dW;simpa using this
  have mI:j<es.size:=by rw [Array.length_toList] at hlen;omega
  have xV:(es[j]).key=ek k:=by
   have h3:es.toList.map (·.key)=(l.map (·.1)).map ek:=a1k dW;have h4:=congrArg (fun l=>l[j]?) h3;simp only [List.getElem?_map,Array.getElem?_toList] at h4;rw [Array.getElem?_eq_getElem mI] at h4;cases hl:l[j]? with
   | none=>rw [hl] at gM;cases gM
   | some p=>rw [hl] at gM h4;simp only [Option.map_some,Option.some.injEq] at gM h4;rw [h4,gM]
  have hval:(es[j]).val=ev v0:=by
   have h4:=congrArg (fun l=>l[j]?) dW;simp only [List.getElem?_map,Array.getElem?_toList] at h4;rw [Array.getElem?_eq_getElem mI] at h4
   have hv:l[j]? = some (k,v0):=by
    cases hl:l[j]? with
    | none=>rw [hl] at gM;cases gM
    | some p =>
     rw [hl] at gM;simp only [Option.map_some,Option.some.injEq] at gM;have:=a4C hn (bW hl);rw [gM,h1] at this;simp only [Option.some.injEq] at this;rw [← gM,this]
   rw [hv] at h4;simp only [Option.map_some,Option.some.injEq,Prod.mk.injEq] at h4;exact h4.2
  refine⟨.map (es.modify j fun e=>{ e with key:=ek k }) clock,(es[j]).born,?_,⟨⟨_,_,rfl,?_,?_,?_⟩,a6F hn k _⟩,⟨_,_,j,rfl,{ es[j] with key:=ek k },?_,rfl,rfl⟩⟩
  ·simp [h1,h2,mI,xV,K.stays,zV,goInt]
  ·rw [xR,h1,Option.getD_some,vz v0]
   rw [← aCC dW gM v0]
   congr 1
   apply List.ext_getElem?;intro i;simp only [List.getElem?_modify]
   by_cases hi:j=i
   ·subst hi
    simp only [if_true,Array.getElem?_toList,Array.getElem?_eq_getElem mI];exact congrArg some (by dsimp only;rw [hval])
   ·simp [hi]
  ·rw [xR]
   exact aFv (a0W (fun e=>{ e with key:=ek k }) (fun _=>rfl) es.toList j) hp
  ·rw [xR]
   exact aFb (a0W (fun e=>{ e with key:=ek k }) (fun _=>rfl) es.toList j) hc
  ·rw [Array.getElem?_eq_getElem (by simpa using mI),Array.getElem_modify];simp
theorem aSH {es:Array MapEntry} {j:Nat} {e:MapEntry} (hp:es.toList.Pairwise (fun a b=>a.born<b.born)) (hj:es[j]? = some e):es.findIdx? (fun x=>(x.born:Int) == (e.born:Int))=some j:=by
 obtain⟨aW,he⟩:=Array.getElem?_eq_some_iff.1 hj;rw [Array.findIdx?_eq_some_iff_getElem];refine⟨aW,by simp [he],fun i hi=>?_⟩;have:=List.pairwise_iff_getElem.1 hp i j (by simp;omega) (by simpa using aW) hi;simp only [Array.getElem_toList,he] at this;simp only [beq_iff_eq];omega
theorem aQi (hb:w.heap[b]? = some o) (hm:gj ek ev o l) {k:κ} {v0:ν} (hk:eZ l k=some v0) (a00:∀ x y,ek x=ek y→x=y) {s:Nat} (hs:a7D ek o k s) (v:ν) :
 ∃ o',(Instr.entryStore Tm (.map (some b)) (.int .i64 (s:Nat)) (ev v)).run P w=.ok () { w with heap:=w.heap.setIfInBounds b o' }∧gj ek ev o' (fV l k v):=by
 obtain⟨⟨es,clock,rfl,dW,hp,hc⟩,hn⟩:=hm;obtain⟨iy,aYj,j,ho,e,hj,hek,rfl⟩:=hs;simp only [Obj.map.injEq] at ho;obtain⟨rfl,rfl⟩:=ho;have hg:=MapKept.run_getObj_map (P:=P) hb;have hf:=aSH hp hj;obtain⟨aW,hje⟩:=Array.getElem?_eq_some_iff.1 hj
 have hlj:(l[j]?).map (·.1)=some k:=by
  have h3:es.toList.map (·.key)=(l.map (·.1)).map ek:=a1k dW;have h4:=congrArg (fun l=>l[j]?) h3;simp only [List.getElem?_map,Array.getElem?_toList,hj,Option.map_some,hek] at h4;cases hl:l[j]? with
  | none=>rw [hl] at h4;cases h4
  | some p=>rw [hl] at h4;simp only [Option.map_some,Option.some.injEq] at h4 ⊢;exact (a00 _ _ h4).symm
 have vz:fV l k v=l.set j (k,v):=by
  rcases a1T ev ek k l es.toList 0 dW with ⟨h1,h2⟩|⟨i,v1,h1,h2,dj,hik,vz⟩
  ·rw [hk] at h1;cases h1
  ·rw [vz v]
   have:i=j:=by
    have hnd:=List.pairwise_iff_getElem.1 hn
    have gX:j<l.length:=by
     cases hl:l[j]? with
     | none=>rw [hl] at hlj;cases hlj
     | some p=>exact (List.getElem?_eq_some_iff.1 hl).1
    have e1:(l.map (·.1))[i]'(by simpa using dj)=k:=by
     have:=hik;rw [List.getElem?_eq_getElem dj] at this;simpa using this
    have e2:(l.map (·.1))[j]'(by simpa using gX)=k:=by
     have:=hlj;rw [List.getElem?_eq_getElem gX] at this;simpa using this
    rcases Nat.lt_trichotomy i j with h|h|h
    ·exact absurd (e1.trans e2.symm) (hnd i j (by simpa using dj) (by simpa using gX) h)
    ·exact h
    ·exact absurd (e2.trans e1.symm) (hnd j i (by simpa using gX) (by simpa using dj) h)
   rw [this]
 refine⟨.map (es.modify j fun e=>{ e with val:=ev v }) clock,?_,⟨⟨_,_,rfl,?_,?_,?_⟩,a6F hn k _⟩⟩
 ·unfold Instr.entryStore
  have ha:(asInt (.int .i64 (e.born:Int))).run P w=.ok (e.born:Int) w:=rfl;simp only [Sem.run_bind,hg,Result.andThen_ok,ha,hf];exact MapKept.run_setObj_map (P:=P) _ hb
 ·rw [xR,vz,← aCC dW hlj v]
  congr 1
  apply List.ext_getElem?;intro i;simp only [List.getElem?_modify]
  by_cases hi:j=i
  ·subst hi
   simp only [if_true,Array.getElem?_toList,hj,← hek]
   rfl
  ·simp [hi]
 ·rw [xR]
  exact aFv (a0W (fun e=>{ e with val:=ev v }) (fun _=>rfl) es.toList j) hp
 ·rw [xR]
  exact aFb (a0W (fun e=>{ e with val:=ev v }) (fun _=>rfl) es.toList j) hc
end
def pA {κ ν:Type} (ek:κ→Value) (ev:ν→Value) (b:Nat) (o oi:Obj) (l d:List (κ × ν)):Prop :=
 ∃ (es:Array MapEntry) (clock:Nat) (f:κ→Nat),o=.map es clock∧oi=.mapIter (some b) clock (d.map (fun p=>f p.1)).toArray clock ∧
  (∀ p ∈ l,∃ e ∈ es.toList,e.key=ek p.1∧e.val=ev p.2∧e.born=f p.1)∧(∀ e ∈ es.toList,∃ p ∈ l,e.key=ek p.1∧e.val=ev p.2∧e.born=f p.1) ∧
  (∀ p ∈ l,∀ q ∈ l,f p.1=f q.1→p=q)∧(∀ p ∈ d,p ∈ l)∧(d.map (·.1)).Nodup∧(l.map (·.1)).Nodup∧(∀ e ∈ es.toList,e.born<clock)∧(es.toList.map (·.born)).Nodup
section
variable {κ:Type} [DecidableEq κ] {ν:Type} {ek:κ→Value} {ev:ν→Value} {P:Program} {w w0:World} {b bi:Nat} {o oi:Obj} {l d:List (κ × ν)} {H:List Chunk}
theorem pA.start (hm:gj ek ev o l) (b:Nat):∃ es clock,o=.map es clock∧pA ek ev b o (.mapIter (some b) clock #[] clock) l []:=by
 obtain⟨⟨es,clock,rfl,dW,hp,hc⟩,hn⟩:=hm;refine⟨es,clock,rfl,es,clock,fun k=>((es.toList[(l.map (·.1)).idxOf k]?).map (·.born)).getD 0,rfl,rfl,?_,?_,?_,by simp,by simp,hn,hc,?_⟩
 all_goals
  have hlen:es.toList.length=l.length:=by have:=congrArg List.length dW;simpa using this
  have vR:∀ j (hj:j<l.length),(l.map (·.1)).idxOf (l[j]).1=j:=by
   intro j hj;have h1:=hn.idxOf_getElem j (by simpa using hj)
   simpa using h1
  have hej:∀ j (hj:j<l.length),(es.toList[j]'(by omega)).key=ek (l[j]).1∧(es.toList[j]'(by omega)).val=ev (l[j]).2:=by
   intro j hj;have h4:=congrArg (fun l=>l[j]?) dW;simp only [List.getElem?_map] at h4;rw [List.getElem?_eq_getElem hj,List.getElem?_eq_getElem (by omega:j<es.toList.length)] at h4
   simpa using h4
 ·intro p iY
  obtain⟨j,hj,rfl⟩:=List.mem_iff_getElem.1 iY;refine⟨es.toList[j]'(by omega),List.getElem_mem _,(hej j hj).1,(hej j hj).2,?_⟩;dsimp only;rw [vR j hj,List.getElem?_eq_getElem (by omega:j<es.toList.length)]
  rfl
 ·intro e he
  obtain⟨j,hj,rfl⟩:=List.mem_iff_getElem.1 he;have mI:j<l.length:=by omega
  refine⟨l[j],List.getElem_mem _,(hej j mI).1,(hej j mI).2,?_⟩;dsimp only;rw [vR j mI,List.getElem?_eq_getElem hj]
  rfl
 ·intro p iY q jB gH
  obtain⟨i,hi,rfl⟩:=List.mem_iff_getElem.1 iY;obtain⟨j,hj,rfl⟩:=List.mem_iff_getElem.1 jB;dsimp only at gH;rw [vR i hi,vR j hj,List.getElem?_eq_getElem (by omega:i<es.toList.length),List.getElem?_eq_getElem (by omega:j<es.toList.length)] at gH;simp only [Option.map_some,Option.getD_some] at gH;have hpw:=List.pairwise_iff_getElem.1 hp
  have:i=j:=by
   rcases Nat.lt_trichotomy i j with h|h|h
   ·have:=hpw i j (by omega) (by omega) h;omega
   ·exact h
   ·have:=hpw j i (by omega) (by omega) h;omega
  subst this
  rfl
 ·have h1:(es.toList.map (·.born)).Pairwise (· < ·):=List.pairwise_map.2 hp
  exact h1.imp (fun h=>Nat.ne_of_lt h)
 omit [DecidableEq κ] in
theorem aOY {l d:List (κ × ν)} (hl:(l.map (·.1)).Nodup) (hd:(d.map (·.1)).Nodup) (h1:∀ p ∈ d,p ∈ l) (h2:∀ p ∈ l,p ∈ d):d.Perm l:=by
  have n1:l.Nodup:=by
   have:l.Pairwise (fun a b=>a.1≠b.1):=List.pairwise_map.1 hl;exact this.imp (fun h e=>h (by rw [e]))
  have n2:d.Nodup:=by
   have:d.Pairwise (fun a b=>a.1≠b.1):=List.pairwise_map.1 hd;exact this.imp (fun h e=>h (by rw [e]))
  exact (List.perm_ext_iff_of_nodup n2 n1).2 fun a=>⟨h1 a,h2 a⟩
 omit [DecidableEq κ] in
theorem aN0 (hr:w.heap[bi]? = some oi) (hb:w.heap[b]? = some o) (h:pA ek ev b o oi l d) (ty:TypeId) :
  (d.Perm l∧(Instr.next (.pointer (some ⟨bi,0,none⟩)) false ty).run P w=.ok (.tuple #[.bool false]) w) ∨
  ∃ k v oV w1,(w1=w∨w1=w.drew)∧(k,v) ∈ l∧k ∉ d.map (·.1)∧pA ek ev b o oV l (d++[(k,v)])∧(Instr.next (.pointer (some ⟨bi,0,none⟩)) false ty).run P w=.ok (.tuple #[.bool true,ek k,ev v]) { w1 with heap:=w1.heap.setIfInBounds bi oV }:=by
  obtain⟨es,clock,f,rfl,rfl,sK,hep,a00,mn,hdn,xU,hc,hbn⟩:=h
  rcases run_next_at (P:=P) w ty bi b clock clock _ es clock hr hb hc (Nat.le_refl _) with ⟨h0,aBB⟩|⟨e,he,w1,nT,aBB⟩
  ·left
   refine⟨aOY xU hdn mn fun p hp=>?_,aBB⟩;obtain⟨e,rf,h1,h2,h3⟩:=sK p hp
   have a0p:e ∉ (leftOf es (d.map (fun p=>f p.1)).toArray).toList:=by
    have:leftOf es (d.map (fun p=>f p.1)).toArray=#[]:=Array.eq_empty_of_size_eq_zero h0;rw [this];simp
   have jM:e.born ∈ d.map (fun p=>f p.1):=by
    rcases Decidable.em (e.born ∈ d.map (fun p=>f p.1)) with hx|hx
    ·exact hx
    ·exact absurd (by simp [leftOf];exact⟨by simpa using rf,fun a b bV hf=>hx (List.mem_map.2 ⟨(a,b),bV,hf⟩)⟩) a0p
   obtain⟨q,hq,kh⟩:=List.mem_map.1 jM;have:=a00 q (mn q hq) p hp (by rw [kh,h3]);rw [← this];exact hq
  ·right
   have dW:e ∈ es.toList∧e.born ∉ d.map (fun p=>f p.1):=by
    simp [leftOf] at he;refine⟨by simpa using he.1,fun hx=>?_⟩;obtain⟨q,hq,kh⟩:=List.mem_map.1 hx;exact he.2 q.1 q.2 hq kh
   obtain⟨p,hp,h1,h2,h3⟩:=hep e dW.1
   have tR:p.1 ∉ d.map (·.1):=by
    intro hx;obtain⟨q,hq,kh⟩:=List.mem_map.1 hx;exact dW.2 (List.mem_map.2 ⟨q,hq,by rw [h3,kh]⟩)
   refine⟨p.1,p.2,_,w1,nT,hp,tR,⟨es,clock,f,rfl,rfl,sK,hep,a00,?_,?_,xU,hc,hbn⟩,?_⟩
   ·intro q hq
    rcases List.mem_append.1 hq with hq|hq
    ·exact mn q hq
    ·simp at hq;rw [hq];exact hp
   ·rw [List.map_append,List.map_cons,List.map_nil]
    exact List.nodup_append.2 ⟨hdn,by simp,fun a ha b hb=>by simp at hb;subst hb;intro e;subst e;exact tR ha⟩
   ·rw [aBB,h1,h2]
    simp [Go.ChangeMaps.setBlock,h3]
 omit [DecidableEq κ] in
theorem aMC (hr:w.heap[bi]? = some oi) (hb:w.heap[b]? = some o) {k:κ} {v:ν} (h:pA ek ev b o oi l (d++[(k,v)])):(Instr.entry (.pointer (some ⟨bi,0,none⟩))).run P w=.ok (.tuple #[ek k,ev v]) w:=by
  obtain⟨es,clock,f,rfl,rfl,sK,hep,a00,mn,hdn,xU,hc,hbn⟩:=h;obtain⟨e,he,h1,h2,h3⟩:=sK (k,v) (mn _ (by simp));have:=run_entry_at (P:=P) w bi b clock (d.map (fun p=>f p.1)).toArray es clock e (by rw [hr,h3];simp) hb he hbn;rw [this,h1,h2]
end
section
variable {κ:Type} [DecidableEq κ] {ν:Type} {ek:κ→Value} {ev:ν→Value}
variable {P:Program} {ops:Array Oper} {Q:Exit→Act→World→Prop} {rest:List Oper} {a:Act} {w w0:World} {H:List Chunk} {K:Act→Prop}
variable {dst:Option Tmp} {ty T E Tm:TypeId} {pos:String} {ak:Array Edge} {g:Option (Nat × Bool)} {x y ix:Operand} {b bi:Nat} {o oi:Obj} {l d:List (κ × ν)}
theorem aA.setObj {o':Obj} (j:Nat) (hS:aA w0 w H) (hj:H[j]? = some (.aB b o)):aA w0 { w with heap:=w.heap.setIfInBounds b o' } (H.set j (.aB b o')):=by
 have hb:=hS.aB (bW hj);have aW:=(Array.getElem?_eq_some_iff.1 hb).1;exact hS.write j hj rfl rfl rfl (Nat.le_refl _) (by simp) (by simp [aW]) (fun k _ bJ=>by simp [Array.getElem?_setIfInBounds_ne (Ne.symm bJ)])
theorem a3L (hS:aA w0 w H) (hk:∀ b w',aA w0 w' (H++[.aB b (.map #[] 0)])→wpList P ops Q rest (a.put dst (.map (some b))) w'):wpList P ops Q (⟨dst,.makeMap T none,ty,pos,ak,none⟩::rest) a w :=
 lx (w':=w.alloc (.map #[] 0)) (v:=.map (some w.heap.size)) rfl rfl (hk _ _ (hS.alloc _))
theorem aEi {z:ν} {k:κ} (j:Nat) (hu:P.underlying Tm=some (.map T E)) (hz:∀ w,(zeroValue E).run P w=.ok (ev z) w) (Kk:tP P T ek) (hx:a.eval x=.map (some b)) (hi:a.eval ix=ek k) (hj:H[j]? = some (.aB b o)) (hm:gj ek ev o l)
 (hk:K (a.put dst (ev ((eZ l k).getD z)))):nj P w0 H ⟨dst,.lookup Tm x ix false,ty,pos,ak,g⟩ a K:=by
 refine⟨⟨_,fun w' hS=>?_,hk⟩⟩;have hr:=aWJ (P:=P) (Tm:=Tm) hu hz Kk (hS.aB (bW hj)) hm k;generalize a.eval=ρ at hx hi;simp only [execOp,hx,hi,Sem.run_bind,hr,Result.andThen_ok,Sem.run_pure]
theorem a1Z {k:κ} {v:ν} (j:Nat) (hS:aA w0 w H) (hu:P.underlying Tm=some (.map T E)) (Kk:tP P T ek) (hx:a.eval x=.map (some b)) (hi:a.eval ix=ek k) (hy:a.eval y=ev v) (hj:H[j]? = some (.aB b o)) (hm:gj ek ev o l)
 (hg:Region.wanted ⟨dst,.mapUpdate Tm x ix y,ty,pos,ak,g⟩ (yielded ops a.tmps)=true)
 (hk:∀ o' w',gj ek ev o' (fV l k v)→aA w0 w' (H.set j (.aB b o'))→wpList P ops Q rest (a.put dst undef) w'):wpList P ops Q (⟨dst,.mapUpdate Tm x ix y,ty,pos,ak,g⟩::rest) a w:=by
 obtain⟨o',hr,hm'⟩:=aPQ (P:=P) (Tm:=Tm) hu Kk (hS.aB (bW hj)) hm k v;refine a3j hg ?_ (hk o' _ hm' (hS.setObj j hj));generalize a.eval=ρ at hx hi hy;simp only [execOp,hx,hi,hy,Sem.run_bind,hr,Result.andThen_ok,Sem.run_pure]
theorem aOD {z:ν} {k:κ} (j:Nat) (hS:aA w0 w H) (hu:P.underlying Tm=some (.map T E)) (hz:∀ w,(zeroValue E).run P w=.ok (ev z) w) (Kk:tP P T ek) (hx:a.eval x=.map (some b)) (hi:a.eval ix=ek k) (hj:H[j]? = some (.aB b o)) (hm:gj ek ev o l)
 (hg:Region.wanted ⟨dst,.mapEntry Tm x ix,ty,pos,ak,g⟩ (yielded ops a.tmps)=true)
 (hk:∀ o' w' (st:Nat),gj ek ev o' (fV l k ((eZ l k).getD z))→a7D ek o' k st→aA w0 w' (H.set j (.aB b o'))→wpList P ops Q rest (a.put dst (.tuple #[ev ((eZ l k).getD z),.int .i64 st])) w'):wpList P ops Q (⟨dst,.mapEntry Tm x ix,ty,pos,ak,g⟩::rest) a w:=by
 obtain⟨o',st,hr,hm',hs⟩:=aUf (P:=P) (Tm:=Tm) hu hz Kk (hS.aB (bW hj)) hm k;refine lx hg ?_ (hk o' _ st hm' hs (hS.setObj j hj));generalize a.eval=ρ at hx hi;simp only [execOp,hx,hi,Sem.run_bind,hr,Result.andThen_ok,Sem.run_pure]
theorem aUQ (l:List (κ × ν)) (k:κ) (u v:ν):fV (fV l k u) k v=fV l k v:=by
 induction l with
 | nil=>simp [fV]
 | cons p l ih =>
  obtain⟨x,t⟩:=p;simp only [fV]
  split
  ·rename_i h;simp [fV,h]
  ·rename_i h;simp [fV,h,ih]
theorem aQd {u:ν} {v:ν} {k:κ} {st:Nat} (j:Nat) (hS:aA w0 w H) (a00:∀ x y,ek x=ek y→x=y) (hx:a.eval x=.map (some b)) (hi:a.eval ix=.int .i64 st) (hy:a.eval y=ev v) (hj:H[j]? = some (.aB b o)) (hm:gj ek ev o (fV l k u)) (cA:a7D ek o k st)
 (hg:Region.wanted ⟨dst,.entryStore Tm x ix y,ty,pos,ak,g⟩ (yielded ops a.tmps)=true)
 (hk:∀ o' w',gj ek ev o' (fV l k v)→aA w0 w' (H.set j (.aB b o'))→wpList P ops Q rest (a.put dst undef) w'):wpList P ops Q (⟨dst,.entryStore Tm x ix y,ty,pos,ak,g⟩::rest) a w:=by
 obtain⟨o',hr,hm'⟩:=aQi (P:=P) (Tm:=Tm) (hS.aB (bW hj)) hm (k:=k) (v0:=u) (by rw [a1y,if_pos rfl]) a00 cA v;rw [aUQ] at hm';refine a3j hg ?_ (hk o' _ hm' (hS.setObj j hj));generalize a.eval=ρ at hx hi hy;simp only [execOp,hx,hi,hy,Sem.run_bind,hr,Result.andThen_ok,Sem.run_pure]
theorem aKM (j:Nat) (hS:aA w0 w H) (hu:P.underlying Tm=some (.map T E)) (hx:a.eval x=.map (some b)) (hj:H[j]? = some (.aB b o)) (hm:gj ek ev o l)
 (hg:Region.wanted ⟨dst,.range Tm x,ty,pos,ak,g⟩ (yielded ops a.tmps)=true)
 (hk:∀ bi oi w',pA ek ev b o oi l []→aA w0 w' (H++[.aB bi oi])→wpList P ops Q rest (a.put dst (.pointer (some ⟨bi,0,none⟩))) w'):wpList P ops Q (⟨dst,.range Tm x,ty,pos,ak,g⟩::rest) a w:=by
 obtain⟨es,clock,ho,nE⟩:=pA.start hm b;subst ho;have hb:=hS.aB (bW hj);refine lx (w':=w.alloc (.mapIter (some b) clock #[] clock)) (v:=.pointer (some ⟨w.heap.size,0,none⟩)) hg ?_ (hk _ _ _ nE (hS.alloc _));generalize a.eval=ρ at hx;simp only [execOp,hx,Instr.range,Sem.run_bind,run_underlying hu,Result.andThen_ok,MapKept.run_getObj_map hb,Sem.run_pure]
 rfl
 omit [DecidableEq κ] in
theorem aIi (j ji:Nat) (hS:aA w0 w H) (hx:a.eval x=.pointer (some ⟨bi,0,none⟩)) (hj:H[j]? = some (.aB b o)) (lL:H[ji]? = some (.aB bi oi)) (nE:pA ek ev b o oi l d)
  (hg:Region.wanted ⟨dst,.next x false,ty,pos,ak,g⟩ (yielded ops a.tmps)=true)
  (wK:d.Perm l→wpList P ops Q rest (a.put dst (.tuple #[.bool false])) w)
  (hk:∀ k v oV w',(k,v) ∈ l→k ∉ d.map (·.1)→pA ek ev b o oV l (d++[(k,v)])→aA w0 w' (H.set ji (.aB bi oV))→wpList P ops Q rest (a.put dst (.tuple #[.bool true,ek k,ev v])) w'):wpList P ops Q (⟨dst,.next x false,ty,pos,ak,g⟩::rest) a w:=by
  rcases aN0 (P:=P) (hS.aB (bW lL)) (hS.aB (bW hj)) nE ty with ⟨hp,hr⟩|⟨k,v,oV,w1,nT,cW,hkd,qn,hr⟩
  ·refine lx hg ?_ (wK hp)
   generalize a.eval=ρ at hx;simp only [execOp,hx,Sem.run_bind,hr,Result.andThen_ok,Sem.run_pure]
  ·have cU:aA w0 w1 H:=by rcases nT with rfl|rfl <;> first|exact hS|exact hS.drew
   refine lx hg ?_ (hk k v oV _ cW hkd qn (cU.setObj ji lL));generalize a.eval=ρ at hx;simp only [execOp,hx,Sem.run_bind,hr,Result.andThen_ok,Sem.run_pure]
 omit [DecidableEq κ] in
theorem aFu {k:κ} {v:ν} (j ji:Nat) (hx:a.eval x=.pointer (some ⟨bi,0,none⟩)) (hj:H[j]? = some (.aB b o)) (lL:H[ji]? = some (.aB bi oi)) (nE:pA ek ev b o oi l (d++[(k,v)]))
  (hk:K (a.put dst (.tuple #[ek k,ev v]))):nj P w0 H ⟨dst,.entry x,ty,pos,ak,g⟩ a K:=by
  refine⟨⟨_,fun w' hS=>?_,hk⟩⟩;have hr:=aMC (P:=P) (hS.aB (bW lL)) (hS.aB (bW hj)) nE;generalize a.eval=ρ at hx;simp only [execOp,hx,Sem.run_bind,hr,Result.andThen_ok,Sem.run_pure]
theorem a16 (h:wpList P ops Q (⟨dst,.makeMap T none,ty,pos,ak,g⟩::rest) a w):wpList P ops Q (⟨dst,.makeMap T none,ty,pos,ak,g⟩::rest) a w:=h
theorem a3x (h:wpList P ops Q (⟨dst,.mapUpdate T x ix y,ty,pos,ak,g⟩::rest) a w):wpList P ops Q (⟨dst,.mapUpdate T x ix y,ty,pos,ak,g⟩::rest) a w:=h
theorem aOg (h:wpList P ops Q (⟨dst,.mapEntry T x ix,ty,pos,ak,g⟩::rest) a w):wpList P ops Q (⟨dst,.mapEntry T x ix,ty,pos,ak,g⟩::rest) a w:=h
theorem aPH (h:wpList P ops Q (⟨dst,.entryStore T x ix y,ty,pos,ak,g⟩::rest) a w):wpList P ops Q (⟨dst,.entryStore T x ix y,ty,pos,ak,g⟩::rest) a w:=h
theorem aFS (h:wpList P ops Q (⟨dst,.range T x,ty,pos,ak,g⟩::rest) a w):wpList P ops Q (⟨dst,.range T x,ty,pos,ak,g⟩::rest) a w:=h
theorem a8W (h:wpList P ops Q (⟨dst,.next x false,ty,pos,ak,g⟩::rest) a w):wpList P ops Q (⟨dst,.next x false,ty,pos,ak,g⟩::rest) a w:=h
theorem aDP (h:wpList P ops Q (⟨dst,.entry x,ty,pos,ak,g⟩::rest) a w):wpList P ops Q (⟨dst,.entry x,ty,pos,ak,g⟩::rest) a w:=h
end
def ik (k:Int):Value:=.int .i64 k
theorem uX {P:Program} {T:TypeId} (hu:P.underlying T=some (.int .i64)):tP P T ik:=by
 refine⟨fun e k w=>?_,?_,fun k w=>?_⟩
 ·rw [show (10000:Nat)=9999+1 from rfl]
  unfold Instr.checkKey;simp [ik,run_underlying hu]
 ·intro k ks es w h
  have zV:∀ (ks:List Int) (es:List MapEntry) (i:Nat),es.map (·.key)=ks.map ik→Instr.findNow (.int .i64) (ik k) es i=some (look k ks es i):=by
   intro ks
   induction ks with
   | nil =>
    intro es i h;have:es=[]:=by simpa using h
    subst this
    rfl
   | cons x ks ih =>
    intro es i h;cases es with
    | nil=>simp at h
    | cons e es =>
     simp only [List.map_cons,List.cons.injEq] at h;simp only [Instr.findNow,h.1,ik,Instr.sameNow,if_true,look]
     by_cases hk:k=x
     ·simp [hk]
     ·have:(k == x)=false:=by simpa using hk
      simp only [this,if_neg hk];exact ih es (i+1) h.2
  unfold Instr.findKey;simp only [Sem.run_bind,run_underlying hu,Result.andThen_ok,zV ks es 0 h,Sem.run_pure]
 ·simp [Instr.keyThatStays,ik,Instr.sameBits]
theorem aI9 {κ:Type} [DecidableEq κ] {P:Program} {T:TypeId} {d:TypeDesc} {ek:κ→Value} (hu:P.underlying T=some d) (aKf:∀ k,∃ cs,ek k=.agg cs) (aVM:∀ (e:Bool) (k:κ) (w:World),(Instr.checkKey e 10000 T (ek k)).run P w=.ok () w)
 (heq:∀ (k x:κ) (w:World),(Op.equal T (ek k) (ek x)).run P w=.ok (decide (k=x)) w) (cA:∀ k,Instr.sameBits 10000 (ek k) (ek k)=true):tP P T ek:=by
 refine⟨aVM,?_,fun k w=>by simp [Instr.keyThatStays,cA k]⟩;intro k ks es w h
 have aTA:∀ (ks:List κ) (es:List MapEntry) (i:Nat),es.map (·.key)=ks.map ek→(Instr.findAsking T (ek k) es i).run P w=.ok (look k ks es i) w:=by
  intro ks
  induction ks with
  | nil =>
   intro es i h;have:es=[]:=by simpa using h
   subst this
   rfl
  | cons x ks ih =>
   intro es i h;cases es with
   | nil=>simp at h
   | cons e es =>
    simp only [List.map_cons,List.cons.injEq] at h;simp only [Instr.findAsking,h.1,Sem.run_bind,heq,Result.andThen_ok,look]
    by_cases hk:k=x
    ·simp [hk]
    ·simp only [hk,decide_false,Bool.false_eq_true,if_false]
     exact ih es (i+1) h.2
 unfold Instr.findKey;simp only [Sem.run_bind,run_underlying hu,Result.andThen_ok];obtain⟨c1,ef⟩:=aKf k;cases es with
 | nil =>
  have:ks=[]:=by cases ks with|nil=>rfl|cons x ks=>simp at h
  subst this;simp [Instr.findNow,look]
 | cons e es =>
  cases ks with
  | nil=>simp at h
  | cons x ks =>
   obtain⟨c2,iu⟩:=aKf x
   have zo:Instr.findNow d (ek k) (e::es) 0=none:=by
    simp only [List.map_cons,List.cons.injEq] at h;simp only [Instr.findNow,h.1,ef,iu];cases d <;> rfl
   simp only [zo];exact aTA (x::ks) (e::es) 0 h
def Known (w0:World) (H:List Chunk) (b:Nat) (o:Obj):Prop:=∀ w,aA w0 w H→w.heap[b]? = some o
theorem known_blk {w0:World} {H:List Chunk} {b:Nat} {o:Obj} (j:Nat) (hj:H[j]? = some (.aB b o)):Known w0 H b o:=fun w h=>h.aB (bW hj)
structure Fz (wr:World) (S:Nat→Prop) (b:Nat) (o:Obj):Prop where
 tO:S b
 eq:wr.heap[b]? = some o
theorem Fz.known {wr:World} {S:Nat→Prop} {b:Nat} {o:Obj} (h:Fz wr S b o) {w0:World} {H:List Chunk} (hm:Chunk.aH S wr ∈ H):Known w0 H b o:=fun w hS=>(hS.aH hm h.tO).trans h.eq
theorem Known.fz {w0 w:World} {H:List Chunk} {b:Nat} {o:Obj} (h:Known w0 H b o) (hS:aA w0 w H):Fz w (Old w) b o:=⟨(Array.getElem?_eq_some_iff.1 (h w hS)).1,h w hS⟩
theorem Fz.arg {wr w0 w:World} {S:Nat→Prop} {H:List Chunk} {b:Nat} {o:Obj} (h:Fz wr S b o) (hS:aA w0 w H) (hm:Chunk.aH S wr ∈ H):Fz w (Old w) b o:=(h.known hm).fz hS
theorem aA.fz {w0 w:World} {H:List Chunk} {b:Nat} {o:Obj} (hS:aA w0 w H) (j:Nat) (hj:H[j]? = some (.aB b o)):Fz w (Old w) b o:=(known_blk j hj).fz hS
theorem aAv {xs:List Nat} (hb:∀ x ∈ xs,x≤9223372036854775807):∀ x ∈ zs xs,bQ x:=by
 intro x hx;simp only [zs,List.mem_map] at hx;obtain⟨y,hy,rfl⟩:=hx;have:=hb y hy;exact⟨by omega,by omega⟩
section
variable {P:Program} {ops:Array Oper} {Q:Exit→Act→World→Prop} {rest:List Oper} {a:Act} {w w0:World} {H:List Chunk} {K:Act→Prop}
variable {dst:Option Tmp} {ty T E Tm:TypeId} {pos:String} {ak:Array Edge} {g:Option (Nat × Bool)} {x y ix:Operand}
variable {κ:Type} [DecidableEq κ] {ν:Type} {ek:κ→Value} {ev:ν→Value} {b bi:Nat} {o oi:Obj} {l d:List (κ × ν)}
end
def Rest (w:World) (B:List Chunk):Nat→Prop:=fun k=>k<w.heap.size∧∀ c ∈ B,¬ c.has k
theorem aA.split {w0 w:World} {A B:List Chunk} (h:aA w0 w (A++B)):aA w w (.aH (Rest w B) w::B):=by
 have lh:=List.pairwise_append.1 h.apart;refine⟨rfl,rfl,rfl,Nat.le_refl _,Nat.le_refl _,?_,?_⟩
 ·intro c hc
  rcases List.mem_cons.1 hc with rfl|hc
  ·exact fun k hk=>⟨hk.1,rfl⟩
  ·exact h.ok c (by simp [hc])
 ·exact List.pairwise_cons.2 ⟨fun c hc k hk=>hk.2 c hc,lh.2.1⟩
theorem aA.su {w0 w w':World} {A B B':List Chunk} (h:aA w0 w (A++B)) (h':aA w w' (.aH (Rest w B) w::B')):aA w0 w' (A++B'):=by
 have lh:=List.pairwise_append.1 h.apart;have aI4:=List.pairwise_cons.1 h'.apart;have hR:=h'.ok (.aH (Rest w B) w) (by simp);have hA:∀ c ∈ A,∀ k,c.has k→Rest w B k:=fun c hc k hk=>⟨Chunk.lt (h.ok c (by simp [hc])) hk,fun d hd=>lh.2.2 c hc d hd k hk⟩
 refine⟨h'.os.trans h.os,h'.tape.trans h.tape,h'.output.trans h.output,Nat.le_trans h.drawn h'.drawn,Nat.le_trans h.size h'.size,?_,?_⟩
 ·intro c hc
  rcases List.mem_append.1 hc with hc|hc
  ·exact Chunk.aAV (h.ok c (by simp [hc])) h'.size fun k hk=>(hR k (hA c hc k hk)).2
  ·exact h'.ok c (by simp [hc])
 ·exact List.pairwise_append.2 ⟨lh.1,aI4.2,fun c hc d hd k hk=>aI4.1 d hd k (hA c hc k hk)⟩
section
variable {P:Program} {ops:Array Oper} {Q:Exit→Act→World→Prop} {rest:List Oper} {a:Act} {w w0:World} {H:List Chunk} {K:Act→Prop} {C:World→Prop} {s:List Mv} {i:Nat}
variable {dst:Option Tmp} {ty T E Tb:TypeId} {pos:String} {ak:Array Edge} {gd:Option (Nat × Bool)} {x y ix:Operand} {g n c:Nat}
theorem aA.rowAt {ad:Option Addr} {k:Nat} {cs:List Value} (hS:aA w0 w H) (j:Nat) (hj:H[j]? = some (.row (.slice ad n c) Tb k n cs)) (hn:0<n):∃ g,ad=some ⟨g,0,none⟩:=by
 rcases (hS.ok _ (bW hj)).2 with ⟨h1,h2⟩|⟨g,cap,cur,h1,_⟩
 ·omega
 ·simp only [Value.slice.injEq] at h1
  exact⟨g,h1.1⟩
theorem gC {off:Nat} (hu:P.underlying T=some (.slice E)) (hz:∀ w,(sizeOf E).run P w=.ok 1 w) {i:Int} (hx:a.eval x=.slice (some ⟨g,off,none⟩) n c) (hi:a.eval ix=.int .i64 i) (dg:0≤i) (jU:i<n)
 (hk:K (a.put dst (.pointer (some ⟨g,off+i.toNat,none⟩)))):oN P ⟨dst,.indexAddr T x ix,ty,pos,ak,gd⟩ a K:=by
 have xH:(⟨g,off,none⟩:Addr).add (i.toNat*1)=⟨g,off+i.toNat,none⟩:=by rw [Nat.mul_one];unfold Addr.add;split <;> simp_all
 refine⟨⟨.pointer (some ⟨g,off+i.toNat,none⟩),fun w'=>?_,hk⟩⟩;generalize a.eval=ρ at hx hi;simp [execOp,hx,hi,Instr.indexAt,asIntOf,go_sem,run_underlying hu,dg,jU,hz,xH]
theorem aVE {xs:List Int} {i:Nat} (j:Nat) (fU:∀ w,(isAgg T).run P w=.ok false w) (hx:a.eval x=.pointer (some ⟨g,i,none⟩)) (hj:H[j]? = some (.row (.slice (some ⟨g,0,none⟩) n c) Tb 1 n (iv xs))) (hi:i<n)
 (hk:K (a.put dst (.int .i64 (nth 0 xs i)))):nj P w0 H ⟨dst,.load T x,ty,pos,ak,gd⟩ a K:=by
 refine⟨⟨_,fun w' hS=>?_,hk⟩⟩;obtain⟨hl,ho⟩:=hS.ok _ (bW hj)
 rcases ho with ⟨h1,h2⟩|⟨g',cap,cur,h1,_,hg,_,_,hcs,eK⟩
 ·omega
 ·simp only [Value.slice.injEq,Option.some.injEq,Addr.mk.injEq] at h1
  obtain⟨⟨rfl,-⟩,-,rfl⟩:=h1;have eJ:i<xs.length:=by rw [tK] at hl;omega
  have h1:w'.cell? ⟨g,i,none⟩=some (.int .i64 (nth 0 xs i)):=by
   rw [cell_of_row w' g i cur Tb (0,0) hg];have h3:(cur.toList.take (n*1))[i]? = some (.int .i64 (nth 0 xs i)):=by rw [eK,iv,List.getElem?_map,List.getElem?_eq_getElem eJ,bS 0 xs i eJ];rfl
   rw [List.getElem?_take,if_pos (by omega)] at h3
   simpa using h3
  generalize a.eval=ρ at hx;simp [execOp,hx,Instr.loadAt,Instr.sureAddr,loadVar,fU,go_sem,h1]
theorem aPG {xs:List Int} {i:Nat} {v:Int} (j:Nat) (hS:aA w0 w H) (hx:a.eval x=.pointer (some ⟨g,i,none⟩)) (hy:a.eval y=.int .i64 v) (hj:H[j]? = some (.row (.slice (some ⟨g,0,none⟩) n c) Tb 1 n (iv xs))) (hi:i<n)
 (hT:∀ w,(sizeOf T).run P w=.ok 1 w)
 (hk:∀ w',aA w0 w' (H.set j (.row (.slice (some ⟨g,0,none⟩) n c) Tb 1 n (iv (xs.set i v))))→wpList P ops Q rest (a.put dst undef) w') :
 wpList P ops Q (⟨dst,.store T x y,ty,pos,ak,none⟩::rest) a w:=by
 obtain⟨hl,ho⟩:=hS.ok _ (bW hj)
 rcases ho with ⟨h1,h2⟩|⟨g',cap,cur,h1,fk,hg,mm,fg,hcs,eK⟩
 ·omega
 ·simp only [Value.slice.injEq,Option.some.injEq,Addr.mk.injEq] at h1
  obtain⟨⟨rfl,-⟩,-,rfl⟩:=h1;rw [tK] at hl;have hr:=a7S (P:=P) (T:=T) (u:=.int .i64 v) (off:=i) hT hg (by simp [Value.cells,Value.oneCell']) (by simp [Value.cells];omega);refine a3j (w':=w.setRow g (cur.toList.take i++(Value.int .i64 v).cells.toList++cur.toList.drop (i+(Value.int .i64 v).cells.size)).toArray) rfl ?_ (hk _ ?_)
  ·generalize a.eval=ρ at hx hy
   simp only [execOp,hx,hy,Instr.storeAt,Instr.sureAddr,Sem.run_bind,Sem.run_pure,Result.andThen_ok,hr]
  ·have iF:(cur.toList.take i++(Value.int .i64 v).cells.toList++cur.toList.drop (i+(Value.int .i64 v).cells.size))=cur.toList.set i (.int .i64 v):=by
    rw [List.set_eq_take_append_cons_drop,if_pos (by rw [Array.length_toList];omega)];simp [Value.cells]
   rw [iF];refine hS.sQ j hj rfl rfl rfl (Nat.le_refl _) (by simp [World.setRow]) ?_ (fun k hk=>.inl hk) (fun k _ bJ=>setRow_other w g k _ (fun e=>bJ (by simp [Chunk.has,Value.ownBlock,e])));refine⟨by rw [tK,List.length_set];omega,.inr ⟨g,c,_,rfl,fk,setRow_heap w g cur _ Tb (0,0) hg,mm,fg,by simp [hcs],?_⟩⟩;rw [List.take_set,eK,iv,iv,List.map_set]
theorem a6q {id:Nat} {a:Act} {w:World} {l:List Oper} (s:List Mv) (M:List Nat) (C:World→Prop) (hm:P.follows .mixedOrders=true)
 (bG:(Region.noSelect l.toArray && (s.length == l.length) && p9 .any l.toArray M s (Array.replicate l.length false))=true) (hC:C w.drew)
 (h:dN P l.toArray (di Q) C s a w.drew):(Code.region id l.toArray true).wp P Q a w:=by
 simp only [Bool.and_eq_true,beq_iff_eq] at bG;obtain⟨⟨h1,h2⟩,h3⟩:=bG;refine wp_mono (Q:=di Q) (wp_region_any hm ?_) (fun e a w hq=>by cases e <;> first|exact hq|exact hq.elim);have:=aBh (P:=P) (Q:=di Q) (md:=.any) (M:=M) (C:=C) h1 (fun c a w hq=>hq) s (Array.replicate l.length false) a w.drew h3 (a6p _) (fun _=>hC) h;rw [h2] at this
 simpa using this.any
end
end Go.Hp
