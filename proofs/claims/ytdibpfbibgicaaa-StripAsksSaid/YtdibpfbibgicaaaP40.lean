/- P40: P4, S3, joined. -/
import Derived.Test.YtdibpfbibgicaaaP30
import Derived.Test.YtdibpfbibgicaaaA6
import Derived.Test.YtdibpfbibgicaaaS2
import Derived.OpenShut
set_option linter.unusedVariables false
set_option linter.unusedSimpArgs false
/- P4: small graphs; what one merge does to the indices. -/
namespace Go.Proofs.Ytdibpfbibgicaaa
open Go.RowKit Go.Hp

theorem weightTo_small {W : List Int} (h : ∀ x ∈ W, 0 ≤ x ∧ x ≤ 11) (of : List Nat) (g : Nat) : ∀ i, i ≤ W.length → 0 ≤ weightTo W of g i ∧ weightTo W of g i ≤ i * 11
  | 0, _ => by simp [weightTo]
  | i + 1, hi => by
    have ih := weightTo_small h of g i (by omega)
    have hw := h _ (nth_mem 0 W i (by omega))
    simp only [weightTo]
    split <;> omega
theorem commonTo_small {N : List Tri} (h : ∀ e ∈ N, 1 ≤ e.2.2 ∧ e.2.2 ≤ 6) (of : List Nat) (a b : Nat) : ∀ i, i ≤ N.length → 0 ≤ commonTo N of a b i ∧ commonTo N of a b i ≤ i * 6
  | 0, _ => by simp [commonTo]
  | i + 1, hi => by
    have ih := commonTo_small h of a b i (by omega)
    have hw := h _ (nth_mem tz N i (by omega))
    simp only [commonTo]
    split <;> omega
theorem SomeG.over {W : List Int} {N : List Tri} {most : Nat} (h : SomeG W N most) (hm : most ≤ 64) {of : List Nat} (hg : Gr W.length of) : qOver W N of = false := by
  have h1 := h.wlen
  have h2 := h.nlen
  have h3 : most * most ≤ 64 * 64 := Nat.mul_le_mul hm hm
  unfold qOver
  rw [Bool.or_eq_false_iff, List.any_eq_false, List.any_eq_false]
  constructor
  · intro e he
    obtain ⟨i, k, _, _, _, rfl⟩ := mem_qN.1 he
    have := commonTo_small (fun e he => ⟨(h.n0 e he).2.2.2.1, (h.n0 e he).2.2.2.2⟩) of (nth 0 (hds of) i) (nth 0 (hds of) k) N.length (Nat.le_refl _)
    simp only [decide_eq_true_iff]
    unfold common
    omega
  · intro x hx
    obtain ⟨g, _, rfl⟩ := List.mem_map.1 hx
    have := weightTo_small h.w0 of g W.length (Nat.le_refl _)
    have hl := hg.len
    simp only [decide_eq_true_iff]
    unfold weight
    rw [hl]
    omega
theorem mrg1_eq (f t x y : Nat) : mrg1 f t x = mrg1 f t y ↔ x = y ∨ ((x = f ∨ x = t) ∧ (y = f ∨ y = t)) := by
  unfold mrg1
  split <;> split <;> omega
/-- After a merge: two faces have one group if they had, or if both were in the two groups. -/
theorem idx_mrg {n : Nat} {of : List Nat} (h : Gr n of) {f t : Nat} (hf : f < n) (ht : t < n) (hff : nth 0 of f = f) (htt : nth 0 of t = t) {i j : Nat} (hi : i < n) (hj : j < n) :
    nth 0 (idx (mrg of f t)) i = nth 0 (idx (mrg of f t)) j ↔ nth 0 (idx of) i = nth 0 (idx of) j ∨
      ((nth 0 (idx of) i = nth 0 (idx of) f ∨ nth 0 (idx of) i = nth 0 (idx of) t) ∧ (nth 0 (idx of) j = nth 0 (idx of) f ∨ nth 0 (idx of) j = nth 0 (idx of) t)) := by
  have hl := h.len
  rw [idx_eq (gr_mrg h hf ht hff htt) hi hj, nth_mrg of f t i (by omega), nth_mrg of f t j (by omega), mrg1_eq, idx_eq h hi hj, idx_eq h hi hf, idx_eq h hi ht, idx_eq h hj hf, idx_eq h hj ht, hff, htt]
theorem hb_range (n : Nat) : ∀ m, m ≤ n → hb (List.range n) m = m
  | 0, _ => rfl
  | m + 1, h => by rw [hb_succ, hb_range n m (by omega), if_pos (nth_range n m (by omega))]
theorem idx_range (n : Nat) : idx (List.range n) = List.range n := by
  refine nth_ext 0 (idx_len _) fun i hi => ?_
  rw [idx_len, List.length_range] at hi
  rw [idx_at (gr_range n) hi, nth_range n i hi, hb_range n i (by omega)]
/-- Merges of the program, run as given. -/
theorem toIS_ok {W : List Int} {N : List Tri} {most : Int} {of : List Nat} (hg : Gr W.length of) {s : Str} (h : NextIs W N of most s) : okS of (toIS s) = true := by
  have hl := hg.len
  unfold okS isG toIS
  have a1 := h.face; have a2 := h.la; have a3 := h.lb; have a4 := h.hface; have a5 := h.ha; have a6 := h.hb; have a7 := h.face0; have a8 := h.a0; have a9 := h.b0; have b1 := h.ab; have b2 := h.nea; have b3 := h.neb; have b4 := h.io
  simp only [Int.toNat_natCast, Bool.and_eq_true, decide_eq_true_iff, beq_iff_eq, Bool.not_eq_true', decide_eq_false_iff_not, beq_eq_false_iff_ne, ne_eq, Bool.and_eq_false_imp, bne_eq_false_iff_eq, bne_iff_ne]
  refine ⟨⟨by omega, by omega, by omega⟩, ⟨by omega, by omega, by omega⟩, ⟨by omega, by omega, by omega⟩, by omega, by omega, by omega, fun e => by rcases b4 with h | h <;> omega⟩
theorem Steps.runI {W : List Int} {N : List Tri} {most : Int} : ∀ {l : List Str} {of : List Nat}, Steps W N most of l → Gr W.length of → _root_.Go.Proofs.Ytdibpfbibgicaaa.runI of (l.map toIS) = some (runOf of l)
  | [], of, _, _ => rfl
  | s :: l, of, h, hg => by
    have hn := next_is hg h.1
    simp only [List.map_cons, _root_.Go.Proofs.Ytdibpfbibgicaaa.runI]
    rw [if_pos (toIS_ok hg hn)]
    simp only [toIS, Int.toNat_natCast]
    exact h.2.runI (gr_mrg hg hn.face hn.into hn.hface hn.hinto)
end Go.Proofs.Ytdibpfbibgicaaa

/- S3: a slice of integers that came in. -/
namespace Go.Proofs.Ytdibpfbibgicaaa
open Go.RowKit Go.Hp

theorem inI_of_wf {n : Int} (h : (Lit.int .i64 n).wf = true) : InI n := bounds_i64 h
theorem spot_of_cell {w : World} {a : Addr} {u : Value} (h : w.cell? a = some u) : a.spot = none := by
  unfold World.cell? at h
  split at h
  · split at h
    · cases h
    · rename_i hs
      cases hsp : a.spot with
      | none => rfl
      | some s => rw [hsp] at hs; simp at hs
  · cases h
theorem ints_of_row {w : World} {a : Option Addr} {len cap : Nat} {zs : List Int}
    (h : (a = none ∧ len = 0 ∧ cap = 0 ∧ zs = []) ∨ ∃ x, a = some x ∧ len ≤ cap ∧ cap ≤ maxLen ∧ zs.length = cap ∧ (∀ i, i < zs.length → w.cell? (x.add i) = some (.int .i64 (zs.getD i 0))) ∧ ∀ n ∈ zs, (Lit.int .i64 n).wf = true) :
    Ints w (Old w) (.slice a len cap) (zs.take len) := by
  rcases h with ⟨rfl, rfl, rfl, rfl⟩ | ⟨x, rfl, hl, hm, hz, hcell, hwf⟩
  · exact Ints.nil w _
  · have hlen : (zs.take len).length = len := by rw [List.length_take]; omega
    have hadd : 0 < zs.length → ∀ j, x.add j = ⟨x.block, x.off + j, none⟩ := fun hp j => by
      have h0 := spot_of_cell (hcell 0 hp)
      have h1 : x.spot = none := by simpa [Addr.add] using h0
      unfold Addr.add
      split
      · rename_i hj; subst hj; cases x; simp_all
      · rfl
    refine ⟨⟨by simp, some x, cap, by rw [hlen], by omega, hm, (fun e => by cases e), fun ad e => ?_⟩, fun z hz' => inI_of_wf (hwf z (List.mem_of_mem_take hz'))⟩
    cases e
    have hne : (zs.take len).map (Value.int .i64) ≠ [] → 0 < zs.length := fun hne => by
      rcases Nat.eq_zero_or_pos zs.length with h | h
      · exact absurd (by rw [List.eq_nil_of_length_eq_zero h]; simp) hne
      · exact h
    refine ⟨fun h => ?_, fun h => ?_, fun j u hu => ?_⟩
    · have h0 := spot_of_cell (hcell 0 (hne h))
      simpa [Addr.add] using h0
    · have h0 := World.block_lt_of_cell? w _ (hcell 0 (hne h))
      have h1 : x.block < w.heap.size := by simpa [Addr.add] using h0
      exact h1
    · rw [List.getElem?_map, Option.map_eq_some_iff] at hu
      obtain ⟨z, hz2, rfl⟩ := hu
      rw [List.getElem?_take] at hz2
      split at hz2
      · have hj : j < zs.length := (List.getElem?_eq_some_iff.1 hz2).1
        have := hcell j hj
        rw [hadd (by omega) j] at this
        rw [this, List.getD_eq_getElem?_getD, hz2]
        rfl
      · cases hz2
end Go.Proofs.Ytdibpfbibgicaaa
