/- S4: what the strip laws share: Open and Collapse at graphs of Some. -/
import Derived.Test.YtdibpfbibgicaaaP40
import Derived.Test.YtdibpfbibgicaaaBase1
set_option linter.unusedVariables false
set_option linter.unusedSimpArgs false
namespace Go.Proofs.Ytdibpfbibgicaaa
open Go.RowKit Go.Hp

/-- Open at the merges of Collapse. -/
theorem open_str (gv : Value) (al : Option Addr) (cl k : Nat) (l : List Str) (W : List Int) (N : List Tri) (most : Int) (w : World) (hg : GraphAt w (Old w) gv W N) (hv : VG W N) (hl : Strs w (Old w) (.slice al l.length cl) l) (hst : Steps W N most (List.range W.length) l) (hk : k ≤ l.length) :
    Calls Try.prog 32 #[gv, .slice al l.length cl, .int .i64 k] w fun e w' => Below w.heap.size w w' ∧ ∃ ao co, e = .returned (.tuple #[.slice ao W.length co, .int .i64 0]) ∧ Nats w' (New w w') (.slice ao W.length co) (idx (runOf (List.range W.length) (l.take k))) := by
  have hgr := hst.gr0
  have hlen : l.length ≤ 4096 := by have := hgr.2; have := hv.wlen; omega
  have hb : ∀ s ∈ l.map toIS, InIS s := fun s hs => by
    obtain ⟨t, ht, rfl⟩ := List.mem_map.1 hs
    obtain ⟨i, hi, rfl⟩ := List.mem_iff_getElem.1 ht
    have h1 := hst.at i hi
    have h2 := next_is (hst.take i).gr0.1 h1
    have h3 := h2.face; have h4 := h2.into; have h5 := h2.la; have h6 := h2.lb
    have := hv.wlen
    unfold InIS toIS InI
    simp only
    omega
  have hrun := hst.runI (gr_range _)
  have hL : SlC w (Old w) 4 (.slice al (l.map toIS).length cl) (l.map toIS).length (isv (l.map toIS)) := by
    rw [List.length_map, ← sv_isv]; exact hl
  have h := open_ok gv al cl k (l.map toIS) W N w hg hv hL hb (by rw [List.length_map]; omega) ⟨by omega, by omega⟩
  rw [List.length_map] at h
  refine h.mono ?_
  rintro e w' ⟨hB, hor⟩
  refine ⟨hB, ?_⟩
  rcases hor with ⟨h1, _⟩ | ⟨cur, h1, h2, ⟨h3, _⟩ | ⟨c2, ao, co, _, _, h3, rfl, h4⟩⟩
  · rw [hrun] at h1; cases h1
  · rw [List.length_map] at h3; omega
  · rw [Int.toNat_natCast, ← List.map_take, (hst.take k).runI (gr_range _)] at h3
    cases h3
    exact ⟨ao, co, rfl, h4⟩

/-- The groups ahead of step k. -/
def bef (n : Nat) (l : List Str) (k : Nat) : List Nat := idx (runOf (List.range n) (l.take (k - 1)))

theorem collapse_some (gv : Value) (most : Int) (W : List Int) (N : List Tri) (m : Nat) (w : World) (hg : GraphAt w (Old w) gv W N) (hG : SomeG W N m) (hm : m ≤ 64) (hmo : InI most) :
    Calls Try.prog 14 #[gv, .int .i64 most] w fun e w' => Below w.heap.size w w' ∧ ∃ (l : List Str) (ao : Option Addr) (co : Nat) (gw : Option Addr) (gcw : Nat) (gn : Option Addr) (gcn : Nat) (ai : Option Addr) (ci : Nat),
      e = .returned (.tuple #[.slice ao l.length co, .agg #[.slice gw (qW W (runOf (List.range W.length) l)).length gcw, .slice gn (qN N (runOf (List.range W.length) l)).length gcn], .slice ai W.length ci, .int .i64 0]) ∧ Col W N most l ∧ Strs w' (New w w') (.slice ao l.length co) l ∧
      Ints w' (New w w') (.slice gw (qW W (runOf (List.range W.length) l)).length gcw) (qW W (runOf (List.range W.length) l)) ∧ Tris w' (New w w') (.slice gn (qN N (runOf (List.range W.length) l)).length gcn) (qN N (runOf (List.range W.length) l)) ∧ Nats w' (New w w') (.slice ai W.length ci) (idx (runOf (List.range W.length) l)) := by
  refine (collapse_ok gv most W N w hg (hG.vg hm) hmo).mono ?_
  rintro e w' ⟨hB, l, hc, ⟨ho, _⟩ | ⟨_, ao, co, gv', ai, ci, rfl, hs, ⟨gw, gcw, gn, gcn, rfl, hgw, hgn⟩, hi⟩⟩
  · rw [hG.over hm hc.1.gr0.1] at ho; cases ho
  · exact ⟨hB, l, ao, co, gw, gcw, gn, gcn, ai, ci, rfl, hc, hs, hgw, hgn, hi⟩

/-- What is known behind 's, left, groups, e := strip.Collapse(g, ..)'. -/
def ColF (W : List Int) (N : List Tri) (most : Int) (w w1 : World) (S1 : Nat → Prop) (b5 : Nat) (aw : Option Addr) (cw : Nat) (an : Option Addr) (cn : Nat) (b7 : Nat) (ao : Option Addr) (co : Nat) (gw : Option Addr) (gcw : Nat) (gn : Option Addr) (gcn : Nat) (ai : Option Addr) (ci : Nat) (l : List Str) (w' : World) : Prop :=
  Col W N most l ∧ ∃ (S2 : Nat → Prop) (w2 : World), Strs w2 S2 (.slice ao l.length co) l ∧ Ints w2 S2 (.slice gw (qW W (runOf (List.range W.length) l)).length gcw) (qW W (runOf (List.range W.length) l)) ∧ Tris w2 S2 (.slice gn (qN N (runOf (List.range W.length) l)).length gcn) (qN N (runOf (List.range W.length) l)) ∧ Nats w2 S2 (.slice ai W.length ci) (idx (runOf (List.range W.length) l)) ∧
    Heap w w' [.frz (Old w) w, .frz S1 w1, .blk b5 (.cells #[.slice aw W.length cw, .slice an N.length cn] 34 (0, 0)), .frz S2 w2, .blk b7 (.cells #[.slice gw (qW W (runOf (List.range W.length) l)).length gcw, .slice gn (qN N (runOf (List.range W.length) l)).length gcn] 34 (0, 0))]
theorem wp_region_col {P : Program} {K : Act → World → Prop} {Q' : Exit → Act → World → Prop} {id : Nat} {a : Act} {w : World} {l : List Oper} (t : Tr) (M : List Nat) (C : World → Prop) (hm : P.follows .mixedOrders = true)
    (hok : (Region.noSelect l.toArray && (t.len == l.length) && trOk .any l.toArray M t (Array.replicate l.length false)) = true) (hC : C w.drew)
    (F : Nat → Option Addr → Nat → Option Addr → Nat → Option Addr → Nat → Option Addr → Nat → List Str → World → Prop) (R : Nat → Option Addr → Nat → Option Addr → Nat → Option Addr → Nat → Option Addr → Nat → List Str → Act)
    (h : (∀ b7 ao co gw gcw gn gcn ai ci l w', F b7 ao co gw gcw gn gcn ai ci l w' → K (R b7 ao co gw gcw gn gcn ai ci l) w') → ∀ w', C w' → wpTr P l.toArray (Exit.then K Q') C t a w')
    (hrest : ∀ b7 ao co gw gcw gn gcn ai ci l w', F b7 ao co gw gcw gn gcn ai ci l w' → K (R b7 ao co gw gcw gn gcn ai ci l) w') : (Code.region id l.toArray true).wp P (Exit.then K Q') a w :=
  wp_region_tr t M C hm hok hC (h hrest)

end Go.Proofs.Ytdibpfbibgicaaa
