/- B10: meresmanref24.Spoilt: a list of merges of numbers. -/
import Derived.Test.YtdibpfbibgicaaaB9
set_option linter.unusedVariables false
set_option linter.unusedSimpArgs false
namespace Go.Proofs.Ytdibpfbibgicaaa
open Go.RowKit Go.Hp

theorem isv_one (l : List IS) : ∀ u ∈ isv l, u.oneCell' = true := by
  intro u hu
  simp only [isv, List.mem_flatMap, isA] at hu
  obtain ⟨x, _, hu⟩ := hu
  simp at hu
  rcases hu with rfl | rfl | rfl | rfl <;> rfl
theorem isv_set {L : List IS} {i j : Nat} {v : Int} {s' : IS} (hi : i < L.length) (hj : j < 4) (hs : (isA (nth is0 L i)).toList.set j (.int .i64 v) = (isA s').toList) : (isv L).set (i * 4 + j) (.int .i64 v) = isv (L.set i s') := by
  induction L generalizing i with
  | nil => simp at hi
  | cons x L ih =>
    have hc : ∀ (x : IS) (L : List IS), isv (x :: L) = (isA x).toList ++ isv L := fun x L => by simp [isv]
    have h4 : ∀ x : IS, (isA x).toList.length = 4 := fun x => rfl
    cases i with
    | zero =>
      rw [hc, Nat.zero_mul, Nat.zero_add, List.set_append_left _ _ (by rw [h4]; exact hj), List.set_cons_zero, hc]
      congr 1
    | succ i =>
      rw [hc, show (i + 1) * 4 + j = (i * 4 + j) + 4 by omega, List.set_append_right _ _ (by rw [h4]; omega), h4, Nat.add_sub_cancel, ih (by simpa using hi) (by simpa [nth] using hs), List.set_cons_succ, hc]

set_option maxHeartbeats 8000000 in
set_option maxRecDepth 100000 in
theorem spoiltS_any (al : Option Addr) (cl : Nat) (L : List IS) (at' b' : Int) (w : World) (hL : SlC w (Old w) 4 (.slice al L.length cl) L.length (isv L)) (hI : ∀ s ∈ L, InIS s) (hlen : L.length ≤ 100000) (ha : InI at') (hb0 : 0 ≤ b') (hb1 : b' < 60) :
    Calls Try.prog 27 #[.slice al L.length cl, .int .i64 at', .int .i64 b'] w fun e w' => ∃ a c L', e = .returned (.slice a L'.length c) ∧ Below w.heap.size w w' ∧ SlC w' (New w w') 4 (.slice a L'.length c) L'.length (isv L') ∧ (∀ s ∈ L', InIS s) ∧ L'.length ≤ L.length + 1 := by
  have hS := (Heap.start w).addNil 87 4
  go_enter Try.func27, Try.ntmps27
  repeat ((fail_if_success ((with_reducible refine g_app ?_))); go_step)
  ((with_reducible refine g_app ?_); refine seq_append (t := 39) 1 hS Try.underlying39 Try.info87 rfl (by decide) rfl rfl rfl hL (by simp) (isv_one L) (by omega) (by unfold maxLen; omega) (fun a1 c1 _ hS => ?_); simp only [Act.put, List.setIfInBounds_toArray, List.set_cons_succ, List.set_cons_zero, Int.toNat_natCast, Int.toNat_zero, Int.toNat_one, nth_zero, nth_one]; simp only [List.cons_append, List.nil_append, List.set_cons_succ, List.set_cons_zero, Value.cells, iv_snoc, tv_snoc] at hS; try simp only [List.nil_append, Nat.zero_add] at hS ⊢)
  by_cases h0 : L.length = 0
  · have f0 : (((L.length : Nat) : Int) == 0) = true := by simp [h0]
    clear h0
    go_wp2_with (first | ((with_reducible refine g_bs (T := 39) ?_); refine seq_bs1 (T := 39) (v := .agg _) hS Try.underlying39 Try.sizeOf87 Try.zeroValue87 rfl rfl rfl (by decide) (by decide) rfl (fun bl _ hS => ?_); simp only [Act.put, List.setIfInBounds_toArray, List.set_cons_succ, List.set_cons_zero, Int.toNat_natCast, Int.toNat_zero, Int.toNat_one, nth_zero, nth_one]; simp only [Value.cells] at hS))
    try simp only [List.cons_append, List.nil_append, List.set_cons_succ, List.set_cons_zero, Value.cells, iv_snoc, tv_snoc] at hS
    have hS := hS.toRow (k := 4) (m := 1) 2 rfl rfl (by decide)
    try simp only [List.cons_append, List.nil_append, List.set_cons_succ, List.set_cons_zero, Value.cells, iv_snoc, tv_snoc] at hS
    go_ret
    have h5 := hS.result (T := 87) (k := 4) (n := 1) (v := .slice (some ⟨bl, 0, none⟩) 1 1) (cs := isv [⟨b', 1, 2, 1⟩]) (by simp [isv, isA])
    exact ⟨_, _, [⟨b', 1, 2, 1⟩], rfl, hS.toBelow (by simp), h5, (fun s hs => by simp only [List.mem_singleton] at hs; subst hs; unfold InIS InI; simp only; omega), by simp⟩
  · have f0 : (((L.length : Nat) : Int) == 0) = false := by simp [h0]
    obtain ⟨g1, rfl⟩ := hS.rowAt 1 rfl (by omega)
    obtain ⟨r, hr⟩ : ∃ r, Int.tmod at' (L.length : Int) = r := ⟨_, rfl⟩
    obtain ⟨q, hq⟩ : ∃ q : Nat, Int.tmod b' 5 = (q : Int) := ⟨(Int.tmod b' 5).toNat, by rw [Int.tmod_eq_emod_of_nonneg hb0]; omega⟩
    obtain ⟨d, hd⟩ : ∃ d : Nat, Int.tdiv b' 5 = (d : Int) := ⟨(Int.tdiv b' 5).toNat, by rw [Int.tdiv_eq_ediv_of_nonneg hb0]; omega⟩
    have hq5 : q < 5 := by rw [Int.tmod_eq_emod_of_nonneg hb0] at hq; omega
    have hd60 : d < 60 := by rw [Int.tdiv_eq_ediv_of_nonneg hb0] at hd; omega
    have hrl : r < L.length := by rw [← hr]; exact Int.tmod_lt_of_pos _ (by omega)
    obtain ⟨i, hi, hcase⟩ : ∃ i : Nat, i < L.length ∧ ((r < 0 ∧ i = 0) ∨ r = i) := by
      by_cases h : r < 0
      · exact ⟨0, by omega, .inl ⟨h, rfl⟩⟩
      · exact ⟨r.toNat, by omega, .inr (by omega)⟩
    have hq' : q = 0 ∨ q = 1 ∨ q = 2 ∨ q = 3 ∨ q = 4 := by omega
    rcases hcase with ⟨hr0, rfl⟩ | rfl
    · have f1 : decide (r < 0) = true := by simpa using hr0
      clear hr0 h0 hrl hq5
      rcases hq' with rfl | rfl | rfl | rfl | rfl
      · obtain ⟨s, hs⟩ : ∃ s, nth is0 L 0 = s := ⟨_, rfl⟩
        have hsI : InIS s := by rw [← hs]; exact hI _ (nth_mem is0 L 0 hi)
        have hset := isv_set (L := L) (i := 0) (j := 0) (v := (d : Int)) (s' := ⟨(d : Int), s.a, s.b, s.into⟩) hi (by omega) (by rw [hs]; rfl)
        have HSET := Lib.hid hset
        clear hset hs
        go_wp2_with (first | ((with_reducible refine g_idx (T := 39) ?_); refine seq_any rfl (any_index_atk (T := 39) Try.underlying39 Try.sizeOf87 rfl rfl (by omega) (by omega) ?_); simp only [Act.put, List.setIfInBounds_toArray, List.set_cons_succ, List.set_cons_zero, Int.toNat_natCast, Int.toNat_zero, Int.toNat_one, nth_zero, nth_one]; simp only [Nat.zero_add, Int.toNat_natCast]) | ((with_reducible refine g_store (T := 3) ?_); refine seq_store_rowv (T := 3) 1 hS rfl rfl rfl (by rw [isv_length]; omega) Try.sizeOf3 (fun _ hS => ?_); simp only [Act.put, List.setIfInBounds_toArray, List.set_cons_succ, List.set_cons_zero, Int.toNat_natCast, Int.toNat_zero, Int.toNat_one, nth_zero, nth_one]; simp only [List.cons_append, List.nil_append, List.set_cons_succ, List.set_cons_zero, Value.cells, iv_snoc, tv_snoc] at hS))
        go_ret
        have hset := HSET.out
        try simp only [Nat.zero_mul, Nat.zero_add, Nat.add_zero] at hset
        rw [hset] at hS
        have hl : L.length = (L.set 0 ⟨(d : Int), s.a, s.b, s.into⟩).length := by simp
        obtain ⟨L', hL', hl', hm⟩ : ∃ L', L' = L.set 0 ⟨(d : Int), s.a, s.b, s.into⟩ ∧ L.length = L'.length ∧ ∀ t ∈ L', InIS t := ⟨_, rfl, hl, fun t ht => by
          rcases List.mem_or_eq_of_mem_set ht with h | h
          · exact hI t h
          · subst h; unfold InIS InI at hsI ⊢; simp only; omega⟩
        rw [← hL'] at hS
        rw [hl'] at hS ⊢
        exact ⟨_, _, L', rfl, hS.toBelow (by simp), hS.result (T := 87) (by simp), hm, by omega⟩
      · obtain ⟨s, hs⟩ : ∃ s, nth is0 L 0 = s := ⟨_, rfl⟩
        have hsI : InIS s := by rw [← hs]; exact hI _ (nth_mem is0 L 0 hi)
        have hset := isv_set (L := L) (i := 0) (j := 1) (v := (d : Int)) (s' := ⟨s.face, (d : Int), s.b, s.into⟩) hi (by omega) (by rw [hs]; rfl)
        have HSET := Lib.hid hset
        clear hset hs
        go_wp2_with (first | ((with_reducible refine g_idx (T := 39) ?_); refine seq_any rfl (any_index_atk (T := 39) Try.underlying39 Try.sizeOf87 rfl rfl (by omega) (by omega) ?_); simp only [Act.put, List.setIfInBounds_toArray, List.set_cons_succ, List.set_cons_zero, Int.toNat_natCast, Int.toNat_zero, Int.toNat_one, nth_zero, nth_one]; simp only [Nat.zero_add, Int.toNat_natCast]) | ((with_reducible refine g_store (T := 3) ?_); refine seq_store_rowv (T := 3) 1 hS rfl rfl rfl (by rw [isv_length]; omega) Try.sizeOf3 (fun _ hS => ?_); simp only [Act.put, List.setIfInBounds_toArray, List.set_cons_succ, List.set_cons_zero, Int.toNat_natCast, Int.toNat_zero, Int.toNat_one, nth_zero, nth_one]; simp only [List.cons_append, List.nil_append, List.set_cons_succ, List.set_cons_zero, Value.cells, iv_snoc, tv_snoc] at hS))
        go_ret
        have hset := HSET.out
        try simp only [Nat.zero_mul, Nat.zero_add, Nat.add_zero] at hset
        rw [hset] at hS
        have hl : L.length = (L.set 0 ⟨s.face, (d : Int), s.b, s.into⟩).length := by simp
        obtain ⟨L', hL', hl', hm⟩ : ∃ L', L' = L.set 0 ⟨s.face, (d : Int), s.b, s.into⟩ ∧ L.length = L'.length ∧ ∀ t ∈ L', InIS t := ⟨_, rfl, hl, fun t ht => by
          rcases List.mem_or_eq_of_mem_set ht with h | h
          · exact hI t h
          · subst h; unfold InIS InI at hsI ⊢; simp only; omega⟩
        rw [← hL'] at hS
        rw [hl'] at hS ⊢
        exact ⟨_, _, L', rfl, hS.toBelow (by simp), hS.result (T := 87) (by simp), hm, by omega⟩
      · obtain ⟨s, hs⟩ : ∃ s, nth is0 L 0 = s := ⟨_, rfl⟩
        have hsI : InIS s := by rw [← hs]; exact hI _ (nth_mem is0 L 0 hi)
        have hset := isv_set (L := L) (i := 0) (j := 2) (v := (d : Int)) (s' := ⟨s.face, s.a, (d : Int), s.into⟩) hi (by omega) (by rw [hs]; rfl)
        have HSET := Lib.hid hset
        clear hset hs
        go_wp2_with (first | ((with_reducible refine g_idx (T := 39) ?_); refine seq_any rfl (any_index_atk (T := 39) Try.underlying39 Try.sizeOf87 rfl rfl (by omega) (by omega) ?_); simp only [Act.put, List.setIfInBounds_toArray, List.set_cons_succ, List.set_cons_zero, Int.toNat_natCast, Int.toNat_zero, Int.toNat_one, nth_zero, nth_one]; simp only [Nat.zero_add, Int.toNat_natCast]) | ((with_reducible refine g_store (T := 3) ?_); refine seq_store_rowv (T := 3) 1 hS rfl rfl rfl (by rw [isv_length]; omega) Try.sizeOf3 (fun _ hS => ?_); simp only [Act.put, List.setIfInBounds_toArray, List.set_cons_succ, List.set_cons_zero, Int.toNat_natCast, Int.toNat_zero, Int.toNat_one, nth_zero, nth_one]; simp only [List.cons_append, List.nil_append, List.set_cons_succ, List.set_cons_zero, Value.cells, iv_snoc, tv_snoc] at hS))
        go_ret
        have hset := HSET.out
        try simp only [Nat.zero_mul, Nat.zero_add, Nat.add_zero] at hset
        rw [hset] at hS
        have hl : L.length = (L.set 0 ⟨s.face, s.a, (d : Int), s.into⟩).length := by simp
        obtain ⟨L', hL', hl', hm⟩ : ∃ L', L' = L.set 0 ⟨s.face, s.a, (d : Int), s.into⟩ ∧ L.length = L'.length ∧ ∀ t ∈ L', InIS t := ⟨_, rfl, hl, fun t ht => by
          rcases List.mem_or_eq_of_mem_set ht with h | h
          · exact hI t h
          · subst h; unfold InIS InI at hsI ⊢; simp only; omega⟩
        rw [← hL'] at hS
        rw [hl'] at hS ⊢
        exact ⟨_, _, L', rfl, hS.toBelow (by simp), hS.result (T := 87) (by simp), hm, by omega⟩
      · obtain ⟨s, hs⟩ : ∃ s, nth is0 L 0 = s := ⟨_, rfl⟩
        have hsI : InIS s := by rw [← hs]; exact hI _ (nth_mem is0 L 0 hi)
        have hset := isv_set (L := L) (i := 0) (j := 3) (v := (d : Int)) (s' := ⟨s.face, s.a, s.b, (d : Int)⟩) hi (by omega) (by rw [hs]; rfl)
        have HSET := Lib.hid hset
        clear hset hs
        go_wp2_with (first | ((with_reducible refine g_idx (T := 39) ?_); refine seq_any rfl (any_index_atk (T := 39) Try.underlying39 Try.sizeOf87 rfl rfl (by omega) (by omega) ?_); simp only [Act.put, List.setIfInBounds_toArray, List.set_cons_succ, List.set_cons_zero, Int.toNat_natCast, Int.toNat_zero, Int.toNat_one, nth_zero, nth_one]; simp only [Nat.zero_add, Int.toNat_natCast]) | ((with_reducible refine g_store (T := 3) ?_); refine seq_store_rowv (T := 3) 1 hS rfl rfl rfl (by rw [isv_length]; omega) Try.sizeOf3 (fun _ hS => ?_); simp only [Act.put, List.setIfInBounds_toArray, List.set_cons_succ, List.set_cons_zero, Int.toNat_natCast, Int.toNat_zero, Int.toNat_one, nth_zero, nth_one]; simp only [List.cons_append, List.nil_append, List.set_cons_succ, List.set_cons_zero, Value.cells, iv_snoc, tv_snoc] at hS))
        go_ret
        have hset := HSET.out
        try simp only [Nat.zero_mul, Nat.zero_add, Nat.add_zero] at hset
        rw [hset] at hS
        have hl : L.length = (L.set 0 ⟨s.face, s.a, s.b, (d : Int)⟩).length := by simp
        obtain ⟨L', hL', hl', hm⟩ : ∃ L', L' = L.set 0 ⟨s.face, s.a, s.b, (d : Int)⟩ ∧ L.length = L'.length ∧ ∀ t ∈ L', InIS t := ⟨_, rfl, hl, fun t ht => by
          rcases List.mem_or_eq_of_mem_set ht with h | h
          · exact hI t h
          · subst h; unfold InIS InI at hsI ⊢; simp only; omega⟩
        rw [← hL'] at hS
        rw [hl'] at hS ⊢
        exact ⟨_, _, L', rfl, hS.toBelow (by simp), hS.result (T := 87) (by simp), hm, by omega⟩
      · obtain ⟨s, hs⟩ : ∃ s, nth is0 L 0 = s := ⟨_, rfl⟩
        have hsI : InIS s := by rw [← hs]; exact hI _ (nth_mem is0 L 0 hi)
        have hcell := isv_cell (l := L) (i := 0) hi
        rw [hs] at hcell
        try simp only [Nat.zero_mul] at hcell
        have HC : Hid (((isv L).drop (0 * 4)).take 4 = [.int .i64 s.face, .int .i64 s.a, .int .i64 s.b, .int .i64 s.into]) := by unfold Hid; rw [isv_cell hi, hs]; rfl
        clear hcell hs
        go_wp2_with (first | ((with_reducible refine g_idx (T := 39) ?_); refine seq_any rfl (any_index_atk (T := 39) Try.underlying39 Try.sizeOf87 rfl rfl (by omega) (by omega) ?_); simp only [Act.put, List.setIfInBounds_toArray, List.set_cons_succ, List.set_cons_zero, Int.toNat_natCast, Int.toNat_zero, Int.toNat_one, nth_zero, nth_one]; simp only [Nat.zero_add, Int.toNat_natCast]) | (((with_reducible refine g_load (T := 87) ?_); refine seq_of hS rfl (stp_loadk_row (T := 87) 1 Try.isAgg87 Try.sizeOf87 rfl rfl (by omega) ?_); simp only [Act.put, List.setIfInBounds_toArray, List.set_cons_succ, List.set_cons_zero, Int.toNat_natCast, Int.toNat_zero, Int.toNat_one, nth_zero, nth_one]); rw [HC.out]) | ((with_reducible refine g_bs (T := 39) ?_); refine seq_bs1 (T := 39) (v := .agg _) hS Try.underlying39 Try.sizeOf87 Try.zeroValue87 rfl rfl rfl (by decide) (by decide) rfl (fun _ _ hS => ?_); simp only [Act.put, List.setIfInBounds_toArray, List.set_cons_succ, List.set_cons_zero, Int.toNat_natCast, Int.toNat_zero, Int.toNat_one, nth_zero, nth_one]; simp only [Value.cells] at hS) | ((with_reducible refine g_app ?_); refine seq_append_lit (t := 39) 1 hS Try.underlying39 Try.info87 rfl (by decide) rfl rfl rfl rfl (by simp [Value.oneCell']) (by omega) (by unfold maxLen; omega) (fun a4 c4 _ hS => ?_); simp only [Act.put, List.setIfInBounds_toArray, List.set_cons_succ, List.set_cons_zero, Int.toNat_natCast, Int.toNat_zero, Int.toNat_one, nth_zero, nth_one]; simp only [List.cons_append, List.nil_append, List.set_cons_succ, List.set_cons_zero, Value.cells, iv_snoc, tv_snoc] at hS))
        go_ret
        have hsn := isv_snoc L s
        first | rw [hsn] at hS | skip
        have hl : L.length + 1 = (L ++ [s]).length := by simp
        rw [hl] at hS ⊢
        refine ⟨_, _, L ++ [s], rfl, hS.toBelow (by simp), hS.result (T := 87) (by simp), fun t ht => ?_, by simp⟩
        rcases List.mem_append.1 ht with h | h
        · exact hI t h
        · simp only [List.mem_singleton] at h; subst h; exact hsI
    · have f1 : decide (((i : Nat) : Int) < 0) = false := by simp
      clear h0 hrl hq5
      rcases hq' with rfl | rfl | rfl | rfl | rfl
      · obtain ⟨s, hs⟩ : ∃ s, nth is0 L i = s := ⟨_, rfl⟩
        have hsI : InIS s := by rw [← hs]; exact hI _ (nth_mem is0 L i hi)
        have hset := isv_set (L := L) (i := i) (j := 0) (v := (d : Int)) (s' := ⟨(d : Int), s.a, s.b, s.into⟩) hi (by omega) (by rw [hs]; rfl)
        have HSET := Lib.hid hset
        clear hset hs
        go_wp2_with (first | ((with_reducible refine g_idx (T := 39) ?_); refine seq_any rfl (any_index_atk (T := 39) Try.underlying39 Try.sizeOf87 rfl rfl (by omega) (by omega) ?_); simp only [Act.put, List.setIfInBounds_toArray, List.set_cons_succ, List.set_cons_zero, Int.toNat_natCast, Int.toNat_zero, Int.toNat_one, nth_zero, nth_one]; simp only [Nat.zero_add, Int.toNat_natCast]) | ((with_reducible refine g_store (T := 3) ?_); refine seq_store_rowv (T := 3) 1 hS rfl rfl rfl (by rw [isv_length]; omega) Try.sizeOf3 (fun _ hS => ?_); simp only [Act.put, List.setIfInBounds_toArray, List.set_cons_succ, List.set_cons_zero, Int.toNat_natCast, Int.toNat_zero, Int.toNat_one, nth_zero, nth_one]; simp only [List.cons_append, List.nil_append, List.set_cons_succ, List.set_cons_zero, Value.cells, iv_snoc, tv_snoc] at hS))
        go_ret
        have hset := HSET.out
        try simp only [Nat.zero_mul, Nat.zero_add, Nat.add_zero] at hset
        rw [hset] at hS
        have hl : L.length = (L.set i ⟨(d : Int), s.a, s.b, s.into⟩).length := by simp
        obtain ⟨L', hL', hl', hm⟩ : ∃ L', L' = L.set i ⟨(d : Int), s.a, s.b, s.into⟩ ∧ L.length = L'.length ∧ ∀ t ∈ L', InIS t := ⟨_, rfl, hl, fun t ht => by
          rcases List.mem_or_eq_of_mem_set ht with h | h
          · exact hI t h
          · subst h; unfold InIS InI at hsI ⊢; simp only; omega⟩
        rw [← hL'] at hS
        rw [hl'] at hS ⊢
        exact ⟨_, _, L', rfl, hS.toBelow (by simp), hS.result (T := 87) (by simp), hm, by omega⟩
      · obtain ⟨s, hs⟩ : ∃ s, nth is0 L i = s := ⟨_, rfl⟩
        have hsI : InIS s := by rw [← hs]; exact hI _ (nth_mem is0 L i hi)
        have hset := isv_set (L := L) (i := i) (j := 1) (v := (d : Int)) (s' := ⟨s.face, (d : Int), s.b, s.into⟩) hi (by omega) (by rw [hs]; rfl)
        have HSET := Lib.hid hset
        clear hset hs
        go_wp2_with (first | ((with_reducible refine g_idx (T := 39) ?_); refine seq_any rfl (any_index_atk (T := 39) Try.underlying39 Try.sizeOf87 rfl rfl (by omega) (by omega) ?_); simp only [Act.put, List.setIfInBounds_toArray, List.set_cons_succ, List.set_cons_zero, Int.toNat_natCast, Int.toNat_zero, Int.toNat_one, nth_zero, nth_one]; simp only [Nat.zero_add, Int.toNat_natCast]) | ((with_reducible refine g_store (T := 3) ?_); refine seq_store_rowv (T := 3) 1 hS rfl rfl rfl (by rw [isv_length]; omega) Try.sizeOf3 (fun _ hS => ?_); simp only [Act.put, List.setIfInBounds_toArray, List.set_cons_succ, List.set_cons_zero, Int.toNat_natCast, Int.toNat_zero, Int.toNat_one, nth_zero, nth_one]; simp only [List.cons_append, List.nil_append, List.set_cons_succ, List.set_cons_zero, Value.cells, iv_snoc, tv_snoc] at hS))
        go_ret
        have hset := HSET.out
        try simp only [Nat.zero_mul, Nat.zero_add, Nat.add_zero] at hset
        rw [hset] at hS
        have hl : L.length = (L.set i ⟨s.face, (d : Int), s.b, s.into⟩).length := by simp
        obtain ⟨L', hL', hl', hm⟩ : ∃ L', L' = L.set i ⟨s.face, (d : Int), s.b, s.into⟩ ∧ L.length = L'.length ∧ ∀ t ∈ L', InIS t := ⟨_, rfl, hl, fun t ht => by
          rcases List.mem_or_eq_of_mem_set ht with h | h
          · exact hI t h
          · subst h; unfold InIS InI at hsI ⊢; simp only; omega⟩
        rw [← hL'] at hS
        rw [hl'] at hS ⊢
        exact ⟨_, _, L', rfl, hS.toBelow (by simp), hS.result (T := 87) (by simp), hm, by omega⟩
      · obtain ⟨s, hs⟩ : ∃ s, nth is0 L i = s := ⟨_, rfl⟩
        have hsI : InIS s := by rw [← hs]; exact hI _ (nth_mem is0 L i hi)
        have hset := isv_set (L := L) (i := i) (j := 2) (v := (d : Int)) (s' := ⟨s.face, s.a, (d : Int), s.into⟩) hi (by omega) (by rw [hs]; rfl)
        have HSET := Lib.hid hset
        clear hset hs
        go_wp2_with (first | ((with_reducible refine g_idx (T := 39) ?_); refine seq_any rfl (any_index_atk (T := 39) Try.underlying39 Try.sizeOf87 rfl rfl (by omega) (by omega) ?_); simp only [Act.put, List.setIfInBounds_toArray, List.set_cons_succ, List.set_cons_zero, Int.toNat_natCast, Int.toNat_zero, Int.toNat_one, nth_zero, nth_one]; simp only [Nat.zero_add, Int.toNat_natCast]) | ((with_reducible refine g_store (T := 3) ?_); refine seq_store_rowv (T := 3) 1 hS rfl rfl rfl (by rw [isv_length]; omega) Try.sizeOf3 (fun _ hS => ?_); simp only [Act.put, List.setIfInBounds_toArray, List.set_cons_succ, List.set_cons_zero, Int.toNat_natCast, Int.toNat_zero, Int.toNat_one, nth_zero, nth_one]; simp only [List.cons_append, List.nil_append, List.set_cons_succ, List.set_cons_zero, Value.cells, iv_snoc, tv_snoc] at hS))
        go_ret
        have hset := HSET.out
        try simp only [Nat.zero_mul, Nat.zero_add, Nat.add_zero] at hset
        rw [hset] at hS
        have hl : L.length = (L.set i ⟨s.face, s.a, (d : Int), s.into⟩).length := by simp
        obtain ⟨L', hL', hl', hm⟩ : ∃ L', L' = L.set i ⟨s.face, s.a, (d : Int), s.into⟩ ∧ L.length = L'.length ∧ ∀ t ∈ L', InIS t := ⟨_, rfl, hl, fun t ht => by
          rcases List.mem_or_eq_of_mem_set ht with h | h
          · exact hI t h
          · subst h; unfold InIS InI at hsI ⊢; simp only; omega⟩
        rw [← hL'] at hS
        rw [hl'] at hS ⊢
        exact ⟨_, _, L', rfl, hS.toBelow (by simp), hS.result (T := 87) (by simp), hm, by omega⟩
      · obtain ⟨s, hs⟩ : ∃ s, nth is0 L i = s := ⟨_, rfl⟩
        have hsI : InIS s := by rw [← hs]; exact hI _ (nth_mem is0 L i hi)
        have hset := isv_set (L := L) (i := i) (j := 3) (v := (d : Int)) (s' := ⟨s.face, s.a, s.b, (d : Int)⟩) hi (by omega) (by rw [hs]; rfl)
        have HSET := Lib.hid hset
        clear hset hs
        go_wp2_with (first | ((with_reducible refine g_idx (T := 39) ?_); refine seq_any rfl (any_index_atk (T := 39) Try.underlying39 Try.sizeOf87 rfl rfl (by omega) (by omega) ?_); simp only [Act.put, List.setIfInBounds_toArray, List.set_cons_succ, List.set_cons_zero, Int.toNat_natCast, Int.toNat_zero, Int.toNat_one, nth_zero, nth_one]; simp only [Nat.zero_add, Int.toNat_natCast]) | ((with_reducible refine g_store (T := 3) ?_); refine seq_store_rowv (T := 3) 1 hS rfl rfl rfl (by rw [isv_length]; omega) Try.sizeOf3 (fun _ hS => ?_); simp only [Act.put, List.setIfInBounds_toArray, List.set_cons_succ, List.set_cons_zero, Int.toNat_natCast, Int.toNat_zero, Int.toNat_one, nth_zero, nth_one]; simp only [List.cons_append, List.nil_append, List.set_cons_succ, List.set_cons_zero, Value.cells, iv_snoc, tv_snoc] at hS))
        go_ret
        have hset := HSET.out
        try simp only [Nat.zero_mul, Nat.zero_add, Nat.add_zero] at hset
        rw [hset] at hS
        have hl : L.length = (L.set i ⟨s.face, s.a, s.b, (d : Int)⟩).length := by simp
        obtain ⟨L', hL', hl', hm⟩ : ∃ L', L' = L.set i ⟨s.face, s.a, s.b, (d : Int)⟩ ∧ L.length = L'.length ∧ ∀ t ∈ L', InIS t := ⟨_, rfl, hl, fun t ht => by
          rcases List.mem_or_eq_of_mem_set ht with h | h
          · exact hI t h
          · subst h; unfold InIS InI at hsI ⊢; simp only; omega⟩
        rw [← hL'] at hS
        rw [hl'] at hS ⊢
        exact ⟨_, _, L', rfl, hS.toBelow (by simp), hS.result (T := 87) (by simp), hm, by omega⟩
      · obtain ⟨s, hs⟩ : ∃ s, nth is0 L i = s := ⟨_, rfl⟩
        have hsI : InIS s := by rw [← hs]; exact hI _ (nth_mem is0 L i hi)
        have hcell := isv_cell (l := L) (i := i) hi
        rw [hs] at hcell
        try simp only [Nat.zero_mul] at hcell
        have HC : Hid (((isv L).drop (i * 4)).take 4 = [.int .i64 s.face, .int .i64 s.a, .int .i64 s.b, .int .i64 s.into]) := by unfold Hid; rw [isv_cell hi, hs]; rfl
        clear hcell hs
        go_wp2_with (first | ((with_reducible refine g_idx (T := 39) ?_); refine seq_any rfl (any_index_atk (T := 39) Try.underlying39 Try.sizeOf87 rfl rfl (by omega) (by omega) ?_); simp only [Act.put, List.setIfInBounds_toArray, List.set_cons_succ, List.set_cons_zero, Int.toNat_natCast, Int.toNat_zero, Int.toNat_one, nth_zero, nth_one]; simp only [Nat.zero_add, Int.toNat_natCast]) | (((with_reducible refine g_load (T := 87) ?_); refine seq_of hS rfl (stp_loadk_row (T := 87) 1 Try.isAgg87 Try.sizeOf87 rfl rfl (by omega) ?_); simp only [Act.put, List.setIfInBounds_toArray, List.set_cons_succ, List.set_cons_zero, Int.toNat_natCast, Int.toNat_zero, Int.toNat_one, nth_zero, nth_one]); rw [HC.out]) | ((with_reducible refine g_bs (T := 39) ?_); refine seq_bs1 (T := 39) (v := .agg _) hS Try.underlying39 Try.sizeOf87 Try.zeroValue87 rfl rfl rfl (by decide) (by decide) rfl (fun _ _ hS => ?_); simp only [Act.put, List.setIfInBounds_toArray, List.set_cons_succ, List.set_cons_zero, Int.toNat_natCast, Int.toNat_zero, Int.toNat_one, nth_zero, nth_one]; simp only [Value.cells] at hS) | ((with_reducible refine g_app ?_); refine seq_append_lit (t := 39) 1 hS Try.underlying39 Try.info87 rfl (by decide) rfl rfl rfl rfl (by simp [Value.oneCell']) (by omega) (by unfold maxLen; omega) (fun a4 c4 _ hS => ?_); simp only [Act.put, List.setIfInBounds_toArray, List.set_cons_succ, List.set_cons_zero, Int.toNat_natCast, Int.toNat_zero, Int.toNat_one, nth_zero, nth_one]; simp only [List.cons_append, List.nil_append, List.set_cons_succ, List.set_cons_zero, Value.cells, iv_snoc, tv_snoc] at hS))
        go_ret
        have hsn := isv_snoc L s
        first | rw [hsn] at hS | skip
        have hl : L.length + 1 = (L ++ [s]).length := by simp
        rw [hl] at hS ⊢
        refine ⟨_, _, L ++ [s], rfl, hS.toBelow (by simp), hS.result (T := 87) (by simp), fun t ht => ?_, by simp⟩
        rcases List.mem_append.1 ht with h | h
        · exact hI t h
        · simp only [List.mem_singleton] at h; subst h; exact hsI
end Go.Proofs.Ytdibpfbibgicaaa
