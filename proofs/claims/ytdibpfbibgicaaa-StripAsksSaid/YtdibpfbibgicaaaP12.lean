/- P12: A1, P1, P2, joined. -/
import Derived.Test.YtdibpfbibgicaaaV789
import Derived.Test.YtdibpfbibgicaaaIt4
set_option linter.unusedVariables false
set_option linter.unusedSimpArgs false
/- A1: rank.list at lists that are good. -/
namespace Go.Proofs.Ytdibpfbibgicaaa
open Go.RowKit Go.Hp

/-- How many groups the first i faces have. -/
def mxTo (l : List Nat) : Nat → Nat
  | 0 => 0
  | i + 1 => max (mxTo l i) (nth 0 l i + 1)
def ListOk (l : List Nat) : Prop := ∀ i, i < l.length → nth 0 l i ≤ mxTo l i
theorem mxTo_le {l : List Nat} (h : ListOk l) : ∀ i, i ≤ l.length → mxTo l i ≤ i
  | 0, _ => Nat.le_refl _
  | i + 1, hi => by
    have h1 := mxTo_le h i (by omega)
    have h2 := h i (by omega)
    simp only [mxTo]
    omega

set_option maxHeartbeats 1000000 in
set_option maxRecDepth 100000 in
theorem list_ok (gv : Value) (a : Option Addr) (n c : Nat) (W : List Int) (N : List Tri) (l : List Nat) (w : World) (hg : GraphAt w (Old w) gv W N) (hx : Nats w (Old w) (.slice a n c) l) (hl : l.length = W.length) (hle : W.length ≤ 4096) (hok : ListOk l) :
    Calls Try.prog 55 #[gv, .slice a n c] w fun e w' => e = .returned (.int .i64 0) ∧ Below w.heap.size w w' := by
  have hn := hx.len
  subst hn
  obtain ⟨aw, cw, an, cn, rfl, hw, hnn⟩ := hg
  have hS := Heap.start w
  have f1 : (((l.length : Nat) : Int) != (W.length : Int)) = false := by simp; omega
  have hle2 : l.length ≤ 4096 := by omega
  clear hl
  go_enter Try.func55, Try.ntmps55
  go_wp2_with (first | ((with_reducible refine g_box (T := 34) ?_); refine seq_box (T := 34) (v := .agg _) hS rfl (fun bg wbg hS => ?_); simp only [Act.put, List.setIfInBounds_toArray, List.set_cons_succ, List.set_cons_zero, Int.toNat_natCast, Int.toNat_zero, Int.toNat_one, nth_zero, nth_one]; simp only [List.cons_append, List.nil_append, List.set_cons_succ, List.set_cons_zero, Value.cells, iv_snoc, tv_snoc] at hS) | ((with_reducible refine g_load (T := 22) ?_); refine seq_of hS rfl (stp_load_blk (T := 22) 1 Try.isAgg22 rfl rfl rfl ?_); simp only [Act.put, List.setIfInBounds_toArray, List.set_cons_succ, List.set_cons_zero, Int.toNat_natCast, Int.toNat_zero, Int.toNat_one, nth_zero, nth_one]))
  simp only [List.getElem_toArray, List.getElem_cons_zero, List.getElem_cons_succ]
  go_loopw [5, 16] (fun mo i wr => ∃ k : Nat, k ≤ l.length ∧ i = .int .i64 k ∧ mo = .int .i64 ((mxTo l k : Int) - 1) ∧ Heap w wr [.frz (Old w) w]) (fun _ i _ => l.length - (intOf i).toNat)
  case atStart => exact ⟨0, by omega, rfl, rfl, (hS.sub (by repeat (first | exact List.Sublist.refl _ | apply List.Sublist.cons_cons | apply List.Sublist.cons | exact List.nil_sublist _)))⟩
  case round =>
    clear hS
    obtain ⟨k, hk, rfl, rfl, hS⟩ := hrel
    have hmk := mxTo_le hok k hk
    by_cases hlt : k < l.length
    · have hmx : mxTo l (k + 1) = max (mxTo l k) (nth 0 l k + 1) := rfl
      have hokk := hok k hlt
      have hst : max ((mxTo l k : Int) - 1) ((nth 0 l k : Nat) : Int) = ((mxTo l (k + 1) : Nat) : Int) - 1 := by omega
      have hadd : (mxTo l k : Int) - 1 + 1 = (mxTo l k : Int) := by omega
      have f2 : decide (((nth 0 l k : Nat) : Int) < 0) = false := by simp
      have f3 : decide (mxTo l k < nth 0 l k) = false := by simp; omega
      have HST := Lib.hid hst
      clear hst hmx
      go_wp2_with (first | ((with_reducible refine g_idx (T := 22) ?_); refine seq_any rfl (any_index_nat (T := 22) Try.underlying22 Try.sizeOf3 rfl rfl (by with_reducible assumption) (by omega) (by omega) (fun _ _ _ => ?_)); simp only [Act.put, List.setIfInBounds_toArray, List.set_cons_succ, List.set_cons_zero, Int.toNat_natCast, Int.toNat_zero, Int.toNat_one, nth_zero, nth_one]) | ((with_reducible refine g_load (T := 3) ?_); refine seq_of hS rfl (stp_load (T := 3) Try.isAgg3 rfl (by with_reducible assumption) (by simp) rfl ?_); simp only [Act.put, List.setIfInBounds_toArray, List.set_cons_succ, List.set_cons_zero, Int.toNat_natCast, Int.toNat_zero, Int.toNat_one, nth_zero, nth_one]))
      go_roundw
      case rel => exact ⟨k + 1, by omega, by go_num, by rw [HST.out], hS⟩
      case measure => simp [intOf]; omega
    · obtain rfl : k = l.length := by omega
      go_wp2
      go_ret
      exact ⟨rfl, hS.toBelow (by simp)⟩
end Go.Proofs.Ytdibpfbibgicaaa

/- P1: heads of groups, indices of groups, in plain Lean. -/
namespace Go.Proofs.Ytdibpfbibgicaaa
open Go.RowKit Go.Hp

/-- The heads of the groups. -/
def hds (of : List Nat) : List Nat := (List.range of.length).filter fun i => decide (nth 0 of i = i)
theorem mem_hds {of : List Nat} {g : Nat} : g ∈ hds of ↔ g < of.length ∧ nth 0 of g = g := by simp [hds]
theorem hds_nodup (of : List Nat) : (hds of).Nodup := List.nodup_range.filter _
theorem hds_lt (of : List Nat) : (hds of).Pairwise (· < ·) := List.pairwise_lt_range.filter _
theorem hds_len_le (of : List Nat) : (hds of).length ≤ of.length := by
  have := List.length_filter_le (fun i => decide (nth 0 of i = i)) (List.range of.length)
  rw [List.length_range] at this; exact this
theorem hds_range (n : Nat) : hds (List.range n) = List.range n := by
  unfold hds
  rw [List.length_range]
  refine List.filter_eq_self.2 fun i hi => ?_
  rw [decide_eq_true_iff, nth_range n i (List.mem_range.1 hi)]
theorem hds_mrg {n : Nat} {of : List Nat} (h : Gr n of) {x y : Nat} (hx : x < n) (hy : y < n) (hxx : nth 0 of x = x) (hyy : nth 0 of y = y) (hne : x ≠ y) : hds (mrg of x y) = (hds of).erase (max x y) := by
  rw [(hds_nodup of).erase_eq_filter]
  unfold hds
  rw [mrg_len, List.filter_filter]
  refine List.filter_congr fun i hi => ?_
  rw [List.mem_range, h.len] at hi
  have := head_mrg h hx hy hxx hyy hne hi
  by_cases h1 : nth 0 of i = i <;> by_cases h2 : i = max x y <;> simp_all
theorem hds_mrg_len {n : Nat} {of : List Nat} (h : Gr n of) {x y : Nat} (hx : x < n) (hy : y < n) (hxx : nth 0 of x = x) (hyy : nth 0 of y = y) (hne : x ≠ y) : (hds (mrg of x y)).length + 1 = (hds of).length := by
  have hm : max x y ∈ hds of := by
    rw [mem_hds, h.len]
    rcases Nat.le_total x y with e | e
    · rw [Nat.max_eq_right e]; exact ⟨hy, hyy⟩
    · rw [Nat.max_eq_left e]; exact ⟨hx, hxx⟩
  rw [hds_mrg h hx hy hxx hyy hne, List.length_erase_of_mem hm]
  have := List.length_pos_of_mem hm
  omega

/-- How many heads lie below. -/
def hb (of : List Nat) (m : Nat) : Nat := ((List.range m).filter fun i => decide (nth 0 of i = i)).length
theorem hb_zero (of : List Nat) : hb of 0 = 0 := rfl
theorem hb_succ (of : List Nat) (m : Nat) : hb of (m + 1) = hb of m + if nth 0 of m = m then 1 else 0 := by
  unfold hb
  rw [List.range_succ, List.filter_append, List.length_append]
  by_cases h : nth 0 of m = m <;> simp [h]
theorem hb_len (of : List Nat) : hb of of.length = (hds of).length := rfl
theorem hb_le (of : List Nat) : ∀ {a b : Nat}, a ≤ b → hb of a ≤ hb of b
  | a, 0, h => by obtain rfl : a = 0 := by omega
                  exact Nat.le_refl _
  | a, b + 1, h => by
    rcases Nat.lt_or_ge a (b + 1) with h1 | h1
    · have := hb_le of (a := a) (b := b) (by omega)
      rw [hb_succ]; omega
    · obtain rfl : a = b + 1 := by omega
      exact Nat.le_refl _
theorem hb_lt (of : List Nat) {a b : Nat} (h : a < b) (ha : nth 0 of a = a) : hb of a < hb of b := by
  have := hb_le of (a := a + 1) (b := b) h
  rw [hb_succ, if_pos ha] at this
  omega
theorem hb_inj (of : List Nat) {a b : Nat} (ha : nth 0 of a = a) (hb' : nth 0 of b = b) (h : hb of a = hb of b) : a = b := by
  rcases Nat.lt_trichotomy a b with h1 | h1 | h1
  · have := hb_lt of h1 ha; omega
  · exact h1
  · have := hb_lt of h1 hb'; omega

/-- The indices, in one word. -/
theorem idxTo_hb {n : Nat} {of : List Nat} (h : Gr n of) : ∀ k, k ≤ n → (idxTo of k).2 = hb of k ∧ ∀ i, i < k → nth 0 (idxTo of k).1 i = hb of (nth 0 of i)
  | 0, _ => ⟨rfl, fun i hi => by omega⟩
  | k + 1, hk => by
    obtain ⟨h1, h2⟩ := idxTo_hb h k (by omega)
    have hle := h.le k (by omega)
    have hl := idxTo_len of k
    simp only [idxTo]
    by_cases hh : nth 0 of k = k
    · rw [if_pos hh]
      refine ⟨by rw [hb_succ, if_pos hh, h1], fun i hi => ?_⟩
      rcases Nat.lt_or_ge i k with h3 | h3
      · rw [nth_append_left 0 _ _ _ (by omega)]; exact h2 i h3
      · obtain rfl : i = k := by omega
        have := nth_snoc 0 (idxTo of i).1 (idxTo of i).2
        rw [hl] at this
        rw [this, h1, hh]
    · rw [if_neg hh]
      refine ⟨by rw [hb_succ, if_neg hh, h1]; rfl, fun i hi => ?_⟩
      rcases Nat.lt_or_ge i k with h3 | h3
      · rw [nth_append_left 0 _ _ _ (by omega)]; exact h2 i h3
      · obtain rfl : i = k := by omega
        have := nth_snoc 0 (idxTo of i).1 (nth 0 (idxTo of i).1 (nth 0 of i))
        rw [hl] at this
        rw [this, h2 _ (by omega), h.idem i (by omega)]
theorem idx_len (of : List Nat) : (idx of).length = of.length := idxTo_len of of.length
theorem idx_at {n : Nat} {of : List Nat} (h : Gr n of) {i : Nat} (hi : i < n) : nth 0 (idx of) i = hb of (nth 0 of i) := by
  have := (idxTo_hb h n (Nat.le_refl _)).2 i hi
  unfold idx
  rw [h.len]; exact this
theorem idx_eq {n : Nat} {of : List Nat} (h : Gr n of) {i j : Nat} (hi : i < n) (hj : j < n) : nth 0 (idx of) i = nth 0 (idx of) j ↔ nth 0 of i = nth 0 of j := by
  rw [idx_at h hi, idx_at h hj]
  exact ⟨fun e => hb_inj of (h.idem i hi) (h.idem j hj) e, fun e => by rw [e]⟩
theorem idx_lt {n : Nat} {of : List Nat} (h : Gr n of) {i : Nat} (hi : i < n) : nth 0 (idx of) i < (hds of).length := by
  rw [idx_at h hi, ← hb_len, h.len]
  exact hb_lt of (h.lt hi) (h.idem i hi)
theorem idx_le_len {n : Nat} {of : List Nat} (h : Gr n of) : ∀ x ∈ idx of, x ≤ n := by
  intro x hx
  have := idxTo_le of of.length x hx
  rw [h.len] at this; exact this

/-- The heads, by their places. -/
theorem hds_at {of : List Nat} {g : Nat} (hg : g ∈ hds of) : nth 0 (hds of) (hb of g) = g := by
  have key : ∀ m, g < m → nth 0 ((List.range m).filter fun i => decide (nth 0 of i = i)) (hb of g) = g := by
    intro m
    induction m with
    | zero => omega
    | succ m ih =>
      intro h
      rw [List.range_succ, List.filter_append]
      rcases Nat.lt_or_ge g m with h1 | h1
      · rw [nth_append_left]
        · exact ih h1
        · exact hb_lt of h1 (mem_hds.1 hg).2
      · obtain rfl : g = m := by omega
        have : (List.filter (fun i => decide (nth 0 of i = i)) [g]) = [g] := by simp [(mem_hds.1 hg).2]
        rw [this]
        exact nth_snoc 0 _ g
  exact key of.length (mem_hds.1 hg).1
theorem hb_hds {of : List Nat} {m : Nat} (hm : m < (hds of).length) : nth 0 (hds of) m ∈ hds of ∧ hb of (nth 0 (hds of) m) = m := by
  have hmem := nth_mem 0 _ _ hm
  refine ⟨hmem, ?_⟩
  have h1 := hds_at hmem
  have hlt : hb of (nth 0 (hds of) m) < (hds of).length := by
    rw [← hb_len]; exact hb_lt of (mem_hds.1 hmem).1 (mem_hds.1 hmem).2
  generalize hg : nth 0 (hds of) m = g at *
  rw [nth_eq 0 _ _ hlt] at h1
  rw [nth_eq 0 _ _ hm] at hg
  exact (List.getElem_inj (hds_nodup of)).1 (h1.trans hg.symm)

/-! ### The indices by way of the sorted names -/
theorem get_bang {α : Type} [Inhabited α] (xs : List α) (i : Nat) (h : i < xs.length) : xs.toArray[i]! = xs[i] := by
  rw [getElem!_pos xs.toArray i (by simpa using h)]; simp
theorem compact_mem {xs : List Int} (x : Int) (hs : xs.Pairwise (· ≤ ·)) : x ∈ Lib.compact xs ↔ x ∈ xs := by
  constructor
  · exact fun h => (compact_sub xs).subset h
  · intro h
    have key : ∀ m, m ≤ xs.length → ∀ i (hi : i < m) (hi2 : i < xs.length), xs[i] ∈ Lib.compactUpTo xs.toArray m := by
      intro m
      induction m with
      | zero => intro _ i hi; omega
      | succ m ih =>
        intro hm i hi hi2
        rw [Lib.compactUpTo_succ]
        rcases Nat.lt_or_ge i m with h1 | h1
        · exact List.mem_append_left _ (ih (by omega) i h1 hi2)
        · obtain rfl : i = m := by omega
          by_cases hk : Lib.keeps xs.toArray i = true
          · rw [if_pos hk, get_bang _ _ hi2]; simp
          · rw [if_neg hk, List.append_nil]
            simp only [Lib.keeps, decide_eq_true_iff, not_or, ne_eq, Decidable.not_not] at hk
            obtain ⟨h0, h2⟩ := hk
            rw [get_bang _ _ hi2, get_bang _ _ (by omega)] at h2
            rw [h2]
            exact ih (by omega) (i - 1) (by omega) (by omega)
    obtain ⟨i, hi, rfl⟩ := List.mem_iff_getElem.1 h
    exact key xs.length (Nat.le_refl _) i hi hi
theorem compact_lt {xs : List Int} (hs : xs.Pairwise (· ≤ ·)) : (Lib.compact xs).Pairwise (· < ·) := by
  have key : ∀ m, m ≤ xs.length → (Lib.compactUpTo xs.toArray m).Pairwise (· < ·) ∧ ∀ x ∈ Lib.compactUpTo xs.toArray m, 0 < m ∧ ∀ (h : m - 1 < xs.length), x ≤ xs[m - 1] := by
    intro m
    induction m with
    | zero => intro _; exact ⟨by simp [Lib.compactUpTo], by simp [Lib.compactUpTo]⟩
    | succ m ih =>
      intro hm
      obtain ⟨h1, h2⟩ := ih (by omega)
      have hm2 : m < xs.length := by omega
      have hstep : ∀ (h : m - 1 < xs.length), 0 < m → xs[m - 1] ≤ xs[m] := fun h h0 => (List.pairwise_iff_getElem.1 hs) _ _ h hm2 (by omega)
      rw [Lib.compactUpTo_succ]
      by_cases hk : Lib.keeps xs.toArray m = true
      · rw [if_pos hk, get_bang _ _ hm2]
        refine ⟨pairwise_snoc h1 fun x hx => ?_, fun x hx => ⟨by omega, fun h => ?_⟩⟩
        · obtain ⟨h0, h3⟩ := h2 x hx
          have h4 := h3 (by omega)
          have h5 := hstep (by omega) h0
          simp only [Lib.keeps, decide_eq_true_iff] at hk
          rcases hk with hk | hk
          · omega
          · rw [get_bang _ _ hm2, get_bang _ _ (by omega : m - 1 < xs.length)] at hk
            have : xs[m] ≠ xs[m - 1] := hk
            omega
        · simp only [Nat.add_sub_cancel]
          rcases List.mem_append.1 hx with h3 | h3
          · obtain ⟨h0, h4⟩ := h2 x h3
            have := h4 (by omega); have := hstep (by omega) h0; omega
          · simp at h3; omega
      · rw [if_neg hk, List.append_nil]
        refine ⟨h1, fun x hx => ⟨by omega, fun h => ?_⟩⟩
        simp only [Nat.add_sub_cancel]
        obtain ⟨h0, h4⟩ := h2 x hx
        have := h4 (by omega); have := hstep (by omega) h0; omega
  exact (key xs.length (Nat.le_refl _)).1

theorem names_hds {n : Nat} {of : List Nat} (h : Gr n of) : names of = zs (hds of) := by
  have h1 : (names of).Pairwise (· < ·) := compact_lt (srt_sorted _)
  have h2 : (zs (hds of)).Pairwise (· < ·) := by
    unfold zs
    rw [List.pairwise_map]
    exact (hds_lt of).imp (fun h => by omega)
  have hmem : ∀ x, x ∈ names of ↔ x ∈ zs (hds of) := by
    intro x
    unfold names
    rw [compact_mem x (srt_sorted _)]
    have : x ∈ srt (zs of) ↔ x ∈ zs of := (List.mergeSort_perm _ _).mem_iff
    rw [this]
    unfold zs
    rw [List.mem_map, List.mem_map]
    constructor
    · rintro ⟨g, hg, rfl⟩
      obtain ⟨i, hi, rfl⟩ := List.mem_iff_getElem.1 hg
      rw [← nth_eq 0 of i hi]
      rw [h.len] at hi
      exact ⟨_, mem_hds.2 ⟨by rw [h.len]; exact h.lt hi, h.idem i hi⟩, rfl⟩
    · rintro ⟨g, hg, rfl⟩
      obtain ⟨h3, h4⟩ := mem_hds.1 hg
      refine ⟨g, ?_, rfl⟩
      have := nth_mem 0 of g h3
      rw [h4] at this; exact this
  have hp : (names of).Perm (zs (hds of)) := (List.perm_ext_iff_of_nodup (h1.imp (fun h => by omega)) (h2.imp (fun h => by omega))).2 hmem
  exact hp.eq_of_pairwise (fun a b _ _ h3 h4 => by omega) h1 h2

theorem rankOf_hb {n : Nat} {of : List Nat} (h : Gr n of) {g : Nat} (hg : g < n) : rankOf of g = hb of g := by
  unfold rankOf
  rw [names_hds h]
  unfold zs hds hb
  rw [List.countP_map, List.countP_filter, h.len, ← List.countP_eq_length_filter]
  have key : ∀ m, g ≤ m → (List.range m).countP (fun a => ((fun x : Int => decide (x < (g : Int))) ∘ fun (n : Nat) => (n : Int)) a && decide (nth 0 of a = a)) = (List.range g).countP fun i => decide (nth 0 of i = i) := by
    intro m
    induction m with
    | zero => intro h0; obtain rfl : g = 0 := by omega
              rfl
    | succ m ih =>
      intro h0
      rcases Nat.lt_or_ge g (m + 1) with h1 | h1
      · rw [List.range_succ, List.countP_append, ih (by omega)]
        have : ¬ (m < g) := by omega
        simp [this]
      · obtain rfl : g = m + 1 := by omega
        refine List.countP_congr fun i hi => ?_
        rw [List.mem_range] at hi
        have : ((i : Nat) : Int) < ((m + 1 : Nat) : Int) := by omega
        simp only [Function.comp, decide_eq_true this, Bool.true_and]
  exact key n (by omega)
theorem rank_idx {n : Nat} {of : List Nat} (h : Gr n of) : of.map (rankOf of) = idx of := by
  refine nth_ext 0 (by rw [List.length_map, idx_len]) fun i hi => ?_
  rw [List.length_map, h.len] at hi
  rw [idx_at h hi, ← rankOf_hb h (h.lt hi), nth_eq 0 _ _ (by rw [List.length_map, h.len]; exact hi), List.getElem_map, nth_eq 0 _ _ (by rw [h.len]; exact hi)]
end Go.Proofs.Ytdibpfbibgicaaa

/- P2: the graph of the groups, in plain Lean. -/
namespace Go.Proofs.Ytdibpfbibgicaaa
open Go.RowKit Go.Hp

theorem mxTo_idx {n : Nat} {of : List Nat} (h : Gr n of) : ∀ k, k ≤ n → mxTo (idx of) k = hb of k
  | 0, _ => rfl
  | k + 1, hk => by
    have ih := mxTo_idx h k (by omega)
    have hle := h.le k (by omega)
    simp only [mxTo]
    rw [ih, idx_at h (by omega), hb_succ]
    by_cases hh : nth 0 of k = k
    · rw [if_pos hh, hh]; omega
    · rw [if_neg hh]
      have := hb_lt of (a := nth 0 of k) (b := k) (by omega) (h.idem k (by omega))
      omega
theorem listOk_idx {n : Nat} {of : List Nat} (h : Gr n of) : ListOk (idx of) := by
  intro i hi
  rw [idx_len, h.len] at hi
  rw [mxTo_idx h i (by omega), idx_at h hi]
  exact hb_le of (h.le i hi)

/-- The weights of the groups. -/
def qW (W : List Int) (of : List Nat) : List Int := (hds of).map (weight W of)
/-- A border of two groups. -/
def qcell (N : List Tri) (of : List Nat) (i k : Nat) : List Tri :=
  if i < k ∧ 0 < common N of (nth 0 (hds of) i) (nth 0 (hds of) k) then [((i : Int), (k : Int), common N of (nth 0 (hds of) i) (nth 0 (hds of) k))] else []
def qrow (N : List Tri) (of : List Nat) (i m : Nat) : List Tri := (List.range m).flatMap (qcell N of i)
def qrows (N : List Tri) (of : List Nat) (i : Nat) : List Tri := (List.range i).flatMap fun i => qrow N of i (hds of).length
def qN (N : List Tri) (of : List Nat) : List Tri := qrows N of (hds of).length
theorem qrow_succ (N : List Tri) (of : List Nat) (i m : Nat) : qrow N of i (m + 1) = qrow N of i m ++ qcell N of i m := by
  unfold qrow; rw [List.range_succ, List.flatMap_append]; simp
theorem qrow_low (N : List Tri) (of : List Nat) (i : Nat) : ∀ m, m ≤ i + 1 → qrow N of i m = []
  | 0, _ => rfl
  | m + 1, h => by
    rw [qrow_succ, qrow_low N of i m (by omega)]
    unfold qcell
    rw [if_neg (by omega)]; rfl
theorem qrows_succ (N : List Tri) (of : List Nat) (i : Nat) : qrows N of (i + 1) = qrows N of i ++ qrow N of i (hds of).length := by
  unfold qrows; rw [List.range_succ, List.flatMap_append]; simp
theorem mem_qN {N : List Tri} {of : List Nat} {e : Tri} : e ∈ qN N of ↔ ∃ i k, i < k ∧ k < (hds of).length ∧ 0 < common N of (nth 0 (hds of) i) (nth 0 (hds of) k) ∧ e = ((i : Int), (k : Int), common N of (nth 0 (hds of) i) (nth 0 (hds of) k)) := by
  unfold qN qrows qrow
  simp only [List.mem_flatMap, List.mem_range]
  constructor
  · rintro ⟨i, hi, k, hk, h⟩
    unfold qcell at h
    split at h
    · rename_i hc
      exact ⟨i, k, hc.1, hk, hc.2, by simpa using h⟩
    · cases h
  · rintro ⟨i, k, h1, h2, h3, rfl⟩
    refine ⟨i, by omega, k, h2, ?_⟩
    unfold qcell
    rw [if_pos ⟨h1, h3⟩]; simp

/-- Before, in the order of the lists of borders. -/
def lt3 (x y : Tri) : Prop := x.1 < y.1 ∨ (x.1 = y.1 ∧ (x.2.1 < y.2.1 ∨ (x.2.1 = y.2.1 ∧ x.2.2 < y.2.2)))
theorem lt3_asymm {x y : Tri} (h1 : lt3 x y) (h2 : lt3 y x) : False := by unfold lt3 at *; omega
theorem lt3_total {x y : Tri} (h1 : ¬ lt3 x y) (h2 : ¬ lt3 y x) : x = y := by
  obtain ⟨x1, x2, x3⟩ := x
  obtain ⟨y1, y2, y3⟩ := y
  unfold lt3 at h1 h2
  simp only at h1 h2
  simp only [Prod.mk.injEq]
  omega
theorem lt3_trans {x y z : Tri} (h1 : lt3 x y) (h2 : lt3 y z) : lt3 x z := by unfold lt3 at *; omega
instance (x y : Tri) : Decidable (lt3 x y) := by unfold lt3; infer_instance

theorem qcell_mem {N : List Tri} {of : List Nat} {i k : Nat} {e : Tri} (h : e ∈ qcell N of i k) : e.1 = i ∧ e.2.1 = k := by
  unfold qcell at h
  split at h
  · simp at h; subst h; exact ⟨rfl, rfl⟩
  · cases h
theorem qrow_mem {N : List Tri} {of : List Nat} {i m : Nat} {e : Tri} (h : e ∈ qrow N of i m) : e.1 = i ∧ ∃ k, k < m ∧ e.2.1 = k := by
  obtain ⟨k, hk, h2⟩ := List.mem_flatMap.1 h
  have := qcell_mem h2
  exact ⟨this.1, k, List.mem_range.1 hk, this.2⟩
theorem qrow_sorted (N : List Tri) (of : List Nat) (i : Nat) : ∀ m, (qrow N of i m).Pairwise lt3
  | 0 => by simp [qrow]
  | m + 1 => by
    rw [qrow_succ]
    refine List.pairwise_append.2 ⟨qrow_sorted N of i m, ?_, fun x hx y hy => ?_⟩
    · unfold qcell; split <;> simp
    · obtain ⟨h1, k, hk, h2⟩ := qrow_mem hx
      obtain ⟨h3, h4⟩ := qcell_mem hy
      unfold lt3; omega
theorem qrows_mem {N : List Tri} {of : List Nat} {i : Nat} {e : Tri} (h : e ∈ qrows N of i) : ∃ j, j < i ∧ e.1 = j := by
  obtain ⟨j, hj, h2⟩ := List.mem_flatMap.1 h
  exact ⟨j, List.mem_range.1 hj, (qrow_mem h2).1⟩
theorem qrows_sorted (N : List Tri) (of : List Nat) : ∀ m, (qrows N of m).Pairwise lt3
  | 0 => by simp [qrows]
  | m + 1 => by
    rw [qrows_succ]
    refine List.pairwise_append.2 ⟨qrows_sorted N of m, qrow_sorted N of m _, fun x hx y hy => ?_⟩
    obtain ⟨j, hj, h1⟩ := qrows_mem hx
    obtain ⟨h3, _⟩ := qrow_mem hy
    unfold lt3; omega
theorem qN_sorted (N : List Tri) (of : List Nat) : (qN N of).Pairwise lt3 := qrows_sorted N of _
theorem qrow_len (N : List Tri) (of : List Nat) (i : Nat) : ∀ m, (qrow N of i m).length ≤ m
  | 0 => by simp [qrow]
  | m + 1 => by
    rw [qrow_succ, List.length_append]
    have := qrow_len N of i m
    have : (qcell N of i m).length ≤ 1 := by unfold qcell; split <;> simp
    omega
theorem qrows_len (N : List Tri) (of : List Nat) : ∀ m, (qrows N of m).length ≤ m * (hds of).length
  | 0 => by simp [qrows]
  | m + 1 => by
    rw [qrows_succ, List.length_append]
    have := qrows_len N of m
    have := qrow_len N of m (hds of).length
    rw [Nat.succ_mul]
    omega
theorem qN_len (N : List Tri) (of : List Nat) : (qN N of).length ≤ (hds of).length * (hds of).length := qrows_len N of _

/-- The borders, gathered in a map. -/
def nearTo (l : List Nat) (N : List Tri) : Nat → LL
  | 0 => []
  | m + 1 => if nth 0 l (nth tz N m).1.toNat = nth 0 l (nth tz N m).2.1.toNat then nearTo l N m
    else putL (nearTo l N m) (key (nth 0 l (nth tz N m).1.toNat) (nth 0 l (nth tz N m).2.1.toNat)) ((getL (nearTo l N m) (key (nth 0 l (nth tz N m).1.toNat) (nth 0 l (nth tz N m).2.1.toNat))).getD 0 + (nth tz N m).2.2)
theorem nearTo_nodup (l : List Nat) (N : List Tri) : ∀ m, ((nearTo l N m).map (·.1)).Nodup
  | 0 => by simp [nearTo]
  | m + 1 => by
    simp only [nearTo]
    split
    · exact nearTo_nodup l N m
    · exact nodup_putL (nearTo_nodup l N m) _ _
theorem nearTo_len (l : List Nat) (N : List Tri) : ∀ m, (nearTo l N m).length ≤ m
  | 0 => by simp [nearTo]
  | m + 1 => by
    have := nearTo_len l N m
    simp only [nearTo]
    split
    · omega
    · exact Nat.le_trans (putL_length_le _ _ _) (by omega)
theorem key_of_lt {a b i k : Nat} (h : i < k) : key a b = (i, k) ↔ (a = i ∧ b = k) ∨ (a = k ∧ b = i) := by
  unfold key
  rw [Prod.mk.injEq]
  omega
theorem nearTo_get {W : List Int} {N : List Tri} (hv : VG W N) (l : List Nat) {i k : Nat} (hik : i < k) : ∀ m, m ≤ N.length →
    (getL (nearTo l N m) (i, k)).getD 0 = commonTo N l i k m ∧ ((getL (nearTo l N m) (i, k)).isSome = true ↔ 0 < commonTo N l i k m)
  | 0, _ => by simp [nearTo, getL_nil, commonTo]
  | m + 1, hm => by
    obtain ⟨h1, h2⟩ := nearTo_get hv l hik m (by omega)
    have hbd := commonTo_bd hv l i k m (by omega)
    have hn := hv.n0 _ (nth_mem tz N m (by omega))
    simp only [nearTo, commonTo]
    have ht : touch l i k (nth tz N m) ↔ (nth 0 l (nth tz N m).1.toNat = i ∧ nth 0 l (nth tz N m).2.1.toNat = k) ∨ (nth 0 l (nth tz N m).1.toNat = k ∧ nth 0 l (nth tz N m).2.1.toNat = i) := Iff.rfl
    by_cases he : nth 0 l (nth tz N m).1.toNat = nth 0 l (nth tz N m).2.1.toNat
    · rw [if_pos he, if_neg (by rw [ht]; omega), Int.add_zero]
      exact ⟨h1, h2⟩
    · rw [if_neg he, getL_putL]
      by_cases hk : key (nth 0 l (nth tz N m).1.toNat) (nth 0 l (nth tz N m).2.1.toNat) = (i, k)
      · rw [if_pos hk, if_pos (ht.2 ((key_of_lt hik).1 hk)), hk]
        simp only [Option.getD_some, Option.isSome_some, true_iff]
        constructor <;> omega
      · rw [if_neg hk, if_neg (fun e => hk ((key_of_lt hik).2 (ht.1 e))), Int.add_zero]
        exact ⟨h1, h2⟩
theorem nearTo_keys {W : List Int} {N : List Tri} (hv : VG W N) {l : List Nat} {K : Nat} (hl : ∀ i, i < W.length → nth 0 l i < K) : ∀ m, m ≤ N.length → ∀ p ∈ nearTo l N m, p.1.1 < p.1.2 ∧ p.1.2 < K
  | 0, _, p, hp => by simp [nearTo] at hp
  | m + 1, hm, p, hp => by
    have ih := nearTo_keys hv hl m (by omega)
    have hn := hv.n0 _ (nth_mem tz N m (by omega))
    simp only [nearTo] at hp
    split at hp
    · exact ih p hp
    · rename_i hne
      have hmem : p.1 ∈ (putL (nearTo l N m) (key (nth 0 l (nth tz N m).1.toNat) (nth 0 l (nth tz N m).2.1.toNat)) ((getL (nearTo l N m) (key (nth 0 l (nth tz N m).1.toNat) (nth 0 l (nth tz N m).2.1.toNat))).getD 0 + (nth tz N m).2.2)).map (·.1) := List.mem_map.2 ⟨p, hp, rfl⟩
      rw [keys_putL_mem] at hmem
      rcases hmem with h | h
      · have h1 := hl (nth tz N m).1.toNat (by omega)
        have h2 := hl (nth tz N m).2.1.toNat (by omega)
        rw [h]; unfold key; simp only; omega
      · obtain ⟨q, hq, hqp⟩ := List.mem_map.1 h
        have := ih q hq
        rw [hqp] at this; exact this

theorem touch_idx {n : Nat} {of : List Nat} (h : Gr n of) {i k : Nat} (hi : i < (hds of).length) (hk : k < (hds of).length) {e : Tri} (h1 : e.1.toNat < n) (h2 : e.2.1.toNat < n) :
    touch (idx of) i k e ↔ touch of (nth 0 (hds of) i) (nth 0 (hds of) k) e := by
  obtain ⟨mi, bi⟩ := hb_hds hi
  obtain ⟨mk, bk⟩ := hb_hds hk
  have key : ∀ x j, x < n → j < (hds of).length → nth 0 (hds of) j ∈ hds of → hb of (nth 0 (hds of) j) = j → (nth 0 (idx of) x = j ↔ nth 0 of x = nth 0 (hds of) j) := by
    intro x j hx hj hm hb1
    rw [idx_at h hx]
    constructor
    · intro e; rw [← hb1] at e; exact hb_inj of (h.idem x hx) (mem_hds.1 hm).2 e
    · intro e; rw [e, hb1]
  unfold touch
  rw [key _ _ h1 hi mi bi, key _ _ h2 hk mk bk, key _ _ h1 hk mk bk, key _ _ h2 hi mi bi]
theorem common_idx {W : List Int} {N : List Tri} (hv : VG W N) {of : List Nat} (h : Gr W.length of) {i k : Nat} (hi : i < (hds of).length) (hk : k < (hds of).length) :
    common N (idx of) i k = common N of (nth 0 (hds of) i) (nth 0 (hds of) k) := by
  unfold common
  have key : ∀ m, m ≤ N.length → commonTo N (idx of) i k m = commonTo N of (nth 0 (hds of) i) (nth 0 (hds of) k) m := by
    intro m
    induction m with
    | zero => intro _; rfl
    | succ m ih =>
      intro hm
      have hn := hv.n0 _ (nth_mem tz N m (by omega))
      simp only [commonTo]
      rw [ih (by omega)]
      congr 1
      have := touch_idx h hi hk (e := nth tz N m) (by omega) (by omega)
      by_cases ht : touch of (nth 0 (hds of) i) (nth 0 (hds of) k) (nth tz N m)
      · rw [if_pos ht, if_pos (this.2 ht)]
      · rw [if_neg ht, if_neg (fun e => ht (this.1 e))]
  exact key _ (Nat.le_refl _)

def triOf (p : (Nat × Nat) × Int) : Tri := ((p.1.1 : Int), (p.1.2 : Int), p.2)
/-- What the map holds, in order: the borders of the groups. -/
theorem near_sorted {W : List Int} {N : List Tri} (hv : VG W N) {of : List Nat} (h : Gr W.length of) {d : LL} (hd : d.Perm (nearTo (idx of) N N.length)) (le : Tri → Tri → Bool) (hle : ∀ x y, le x y = !decide (lt3 y x)) :
    (d.map triOf).mergeSort le = qN N of := by
  have hkeys := nearTo_keys hv (l := idx of) (K := (hds of).length) (fun i hi => idx_lt h hi) N.length (Nat.le_refl _)
  have hnd := nearTo_nodup (idx of) N N.length
  have hget : ∀ i k, i < k → (getL (nearTo (idx of) N N.length) (i, k)).getD 0 = common N (idx of) i k ∧ ((getL (nearTo (idx of) N N.length) (i, k)).isSome = true ↔ 0 < common N (idx of) i k) := fun i k hik => nearTo_get hv (idx of) hik N.length (Nat.le_refl _)
  have hs1 : ((d.map triOf).mergeSort le).Pairwise (fun x y => ¬ lt3 y x) := by
    have := List.pairwise_mergeSort (le := le) (fun a b c h1 h2 => by
      rw [hle, Bool.not_eq_true', decide_eq_false_iff_not] at *
      intro h3
      by_cases hab : lt3 a b
      · by_cases hbc : lt3 b c
        · exact lt3_asymm (lt3_trans hab hbc) h3
        · have := lt3_total hbc h2; subst this; exact lt3_asymm hab h3
      · have := lt3_total hab h1; subst this; exact h2 h3) (fun a b => by
      rw [hle, hle]
      by_cases hab : lt3 b a
      · have : ¬ lt3 a b := fun e => lt3_asymm e hab
        simp [this]
      · simp [hab]) (d.map triOf)
    exact this.imp (fun h => by rw [hle, Bool.not_eq_true', decide_eq_false_iff_not] at h; exact h)
  have hs2 : (qN N of).Pairwise (fun x y => ¬ lt3 y x) := (qN_sorted N of).imp (fun h1 h2 => lt3_asymm h1 h2)
  have hnd2 : (qN N of).Nodup := (qN_sorted N of).imp (fun h1 e => by subst e; exact lt3_asymm h1 h1)
  have hnd1 : (d.map triOf).Nodup := by
    have h1 : (d.map (·.1)).Nodup := (hd.map _).nodup_iff.2 hnd
    rw [List.nodup_iff_pairwise_ne, List.pairwise_map] at h1 ⊢
    refine h1.imp fun {x y} hxy e => hxy ?_
    unfold triOf at e
    simp only [Prod.mk.injEq] at e
    obtain ⟨e1, e2, _⟩ := e
    exact Prod.ext (by omega) (by omega)
  have hmem : ∀ e, e ∈ d.map triOf ↔ e ∈ qN N of := by
    intro e
    rw [mem_qN, List.mem_map]
    constructor
    · rintro ⟨p, hp, rfl⟩
      have hp' := hd.mem_iff.1 hp
      obtain ⟨h1, h2⟩ := hkeys p hp'
      obtain ⟨⟨i, k⟩, c⟩ := p
      simp only at h1 h2
      have hg := getL_of_mem hnd hp'
      have h3 := hget i k h1
      rw [hg] at h3
      simp only [Option.getD_some, Option.isSome_some, true_iff] at h3
      have h4 := common_idx hv h (i := i) (k := k) (by omega) h2
      rw [h4] at h3
      exact ⟨i, k, h1, h2, h3.2, by unfold triOf; simp only; rw [h3.1]⟩
    · rintro ⟨i, k, h1, h2, h3, rfl⟩
      have h4 := common_idx hv h (i := i) (k := k) (by omega) h2
      have h5 := hget i k h1
      rw [h4] at h5
      have h6 := h5.2.2 h3
      obtain ⟨c, hc⟩ := Option.isSome_iff_exists.1 h6
      rw [hc, Option.getD_some] at h5
      refine ⟨((i, k), c), hd.mem_iff.2 (getL_mem hc), ?_⟩
      unfold triOf; simp only; rw [h5.1]
  have hp : (d.map triOf).Perm (qN N of) := (List.perm_ext_iff_of_nodup hnd1 hnd2).2 hmem
  exact ((List.mergeSort_perm _ le).trans hp).eq_of_pairwise (fun a b _ _ h3 h4 => lt3_total h4 h3) hs1 hs2

/-- A weight or a length is too great. -/
def qOver (W : List Int) (N : List Tri) (of : List Nat) : Bool := (qN N of).any (fun e => decide (1099511627776 < e.2.2)) || (qW W of).any (fun x => decide (1099511627776 < x))
end Go.Proofs.Ytdibpfbibgicaaa
