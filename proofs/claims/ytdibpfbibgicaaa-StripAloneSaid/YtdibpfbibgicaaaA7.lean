/- A7: length: the border of two faces. -/
import Derived.Test.YtdibpfbibgicaaaS4
import Derived.Test.YtdibpfbibgicaaaP6
set_option linter.unusedVariables false
set_option linter.unusedSimpArgs false
namespace Go.Proofs.Ytdibpfbibgicaaa
open Go.RowKit Go.Hp

/-- No entry of two faces among the first m. -/
def NoEnt (M : List Tri) (x y : Int) (m : Nat) : Prop := ∀ j, j < m → ¬ ((nth tz M j).1 = x ∧ (nth tz M j).2.1 = y)
theorem NoEnt.step {M : List Tri} {x y : Int} {m : Nat} (h : NoEnt M x y m) (h1 : ¬ ((nth tz M m).1 = x ∧ (nth tz M m).2.1 = y)) : NoEnt M x y (m + 1) := by
  intro j hj
  rcases Nat.lt_or_ge j m with h2 | h2
  · exact h j h2
  · obtain rfl : j = m := by omega
    exact h1

set_option maxRecDepth 100000 in
theorem length_any (gv : Value) (x y : Int) (W : List Int) (N : List Tri) (w : World) (hg : GraphAt w (Old w) gv W N) (hv : VG W N) :
    Calls Try.prog 34 #[gv, .int .i64 x, .int .i64 y] w fun e w' => Below w.heap.size w w' ∧ ∃ z, e = .returned (.int .i64 z) ∧ ((∃ j, j < N.length ∧ (nth tz N j).1 = min x y ∧ (nth tz N j).2.1 = max x y ∧ (nth tz N j).2.2 = z) ∨ (NoEnt N (min x y) (max x y) N.length ∧ z = 0)) := by
  obtain ⟨aw, cw, an, cn, rfl, hw, hnn⟩ := hg
  have hS := Heap.start w
  have hle2 := hv.nlen
  go_enter Try.func34, Try.ntmps34
  go_wp2_with (first | ((with_reducible refine g_box (T := 34) ?_); refine seq_box (T := 34) (v := .agg _) hS rfl (fun b wb hS => ?_); simp only [Act.put, List.setIfInBounds_toArray, List.set_cons_succ, List.set_cons_zero, Int.toNat_natCast, Int.toNat_zero, Int.toNat_one, nth_zero, nth_one]; simp only [List.cons_append, List.nil_append, List.set_cons_succ, List.set_cons_zero, Value.cells, iv_snoc, tv_snoc] at hS))
  go_loopw [7] (fun i wr => ∃ k : Nat, k ≤ N.length ∧ i = .int .i64 k ∧ NoEnt N (min x y) (max x y) k ∧ Heap w wr [.frz (Old w) w, .blk b (.cells #[.slice aw W.length cw, .slice an N.length cn] 34 (0, 0))]) (fun i _ => N.length - (intOf i).toNat)
  case atStart => exact ⟨0, by omega, rfl, fun j hj => by omega, hS⟩
  case round =>
    clear hS
    obtain ⟨k, hk, rfl, hno, hS⟩ := hrel
    by_cases hlt : k < N.length
    · obtain ⟨v1, h1⟩ : ∃ v, ((nth tz N k).1 == min x y) = v := ⟨_, rfl⟩
      obtain ⟨v2, h2⟩ : ∃ v, ((nth tz N k).2.1 == max x y) = v := ⟨_, rfl⟩
      cases v1 with
      | false =>
        go_wp2_with (first | ((with_reducible refine g_load (T := 23) ?_); refine seq_of hS rfl (stp_load_blk (T := 23) 1 Try.isAgg23 rfl rfl rfl ?_); simp only [Act.put, List.setIfInBounds_toArray, List.set_cons_succ, List.set_cons_zero, Int.toNat_natCast, Int.toNat_zero, Int.toNat_one, nth_zero, nth_one]) | ((with_reducible refine g_idx (T := 23) ?_); refine seq_any rfl (any_index_tri (T := 23) Try.underlying23 Try.sizeOf55 rfl rfl (by with_reducible assumption) (by omega) (by omega) (fun _ _ _ => ?_)); simp only [Act.put, List.setIfInBounds_toArray, List.set_cons_succ, List.set_cons_zero, Int.toNat_natCast, Int.toNat_zero, Int.toNat_one, nth_zero, nth_one]) | ((with_reducible refine g_load (T := 3) ?_); refine seq_of hS rfl (stp_load (T := 3) Try.isAgg3 rfl (by with_reducible assumption) (by simp) rfl ?_); simp only [Act.put, List.setIfInBounds_toArray, List.set_cons_succ, List.set_cons_zero, Int.toNat_natCast, Int.toNat_zero, Int.toNat_one, nth_zero, nth_one]) | ((with_reducible refine g_load (T := 3) ?_); refine seq_of hS rfl (stp_loadj (T := 3) 1 Try.isAgg3 rfl (by with_reducible assumption) (by simp) rfl ?_); simp only [Act.put, List.setIfInBounds_toArray, List.set_cons_succ, List.set_cons_zero, Int.toNat_natCast, Int.toNat_zero, Int.toNat_one, nth_zero, nth_one]) | ((with_reducible refine g_load (T := 3) ?_); refine seq_of hS rfl (stp_loadj (T := 3) 2 Try.isAgg3 rfl (by with_reducible assumption) (by simp) rfl ?_); simp only [Act.put, List.setIfInBounds_toArray, List.set_cons_succ, List.set_cons_zero, Int.toNat_natCast, Int.toNat_zero, Int.toNat_one, nth_zero, nth_one]))
        go_roundw
        case rel => exact ⟨k + 1, by omega, by go_num, hno.step fun q => by rw [q.1] at h1; simp at h1, hS⟩
        case measure => simp [intOf]; omega
      | true =>
        cases v2 with
        | false =>
          go_wp2_with (first | ((with_reducible refine g_load (T := 23) ?_); refine seq_of hS rfl (stp_load_blk (T := 23) 1 Try.isAgg23 rfl rfl rfl ?_); simp only [Act.put, List.setIfInBounds_toArray, List.set_cons_succ, List.set_cons_zero, Int.toNat_natCast, Int.toNat_zero, Int.toNat_one, nth_zero, nth_one]) | ((with_reducible refine g_idx (T := 23) ?_); refine seq_any rfl (any_index_tri (T := 23) Try.underlying23 Try.sizeOf55 rfl rfl (by with_reducible assumption) (by omega) (by omega) (fun _ _ _ => ?_)); simp only [Act.put, List.setIfInBounds_toArray, List.set_cons_succ, List.set_cons_zero, Int.toNat_natCast, Int.toNat_zero, Int.toNat_one, nth_zero, nth_one]) | ((with_reducible refine g_load (T := 3) ?_); refine seq_of hS rfl (stp_load (T := 3) Try.isAgg3 rfl (by with_reducible assumption) (by simp) rfl ?_); simp only [Act.put, List.setIfInBounds_toArray, List.set_cons_succ, List.set_cons_zero, Int.toNat_natCast, Int.toNat_zero, Int.toNat_one, nth_zero, nth_one]) | ((with_reducible refine g_load (T := 3) ?_); refine seq_of hS rfl (stp_loadj (T := 3) 1 Try.isAgg3 rfl (by with_reducible assumption) (by simp) rfl ?_); simp only [Act.put, List.setIfInBounds_toArray, List.set_cons_succ, List.set_cons_zero, Int.toNat_natCast, Int.toNat_zero, Int.toNat_one, nth_zero, nth_one]) | ((with_reducible refine g_load (T := 3) ?_); refine seq_of hS rfl (stp_loadj (T := 3) 2 Try.isAgg3 rfl (by with_reducible assumption) (by simp) rfl ?_); simp only [Act.put, List.setIfInBounds_toArray, List.set_cons_succ, List.set_cons_zero, Int.toNat_natCast, Int.toNat_zero, Int.toNat_one, nth_zero, nth_one]))
          go_roundw
          case rel => exact ⟨k + 1, by omega, by go_num, hno.step fun q => by rw [q.2] at h2; simp at h2, hS⟩
          case measure => simp [intOf]; omega
        | true =>
          go_wp2_with (first | ((with_reducible refine g_load (T := 23) ?_); refine seq_of hS rfl (stp_load_blk (T := 23) 1 Try.isAgg23 rfl rfl rfl ?_); simp only [Act.put, List.setIfInBounds_toArray, List.set_cons_succ, List.set_cons_zero, Int.toNat_natCast, Int.toNat_zero, Int.toNat_one, nth_zero, nth_one]) | ((with_reducible refine g_idx (T := 23) ?_); refine seq_any rfl (any_index_tri (T := 23) Try.underlying23 Try.sizeOf55 rfl rfl (by with_reducible assumption) (by omega) (by omega) (fun _ _ _ => ?_)); simp only [Act.put, List.setIfInBounds_toArray, List.set_cons_succ, List.set_cons_zero, Int.toNat_natCast, Int.toNat_zero, Int.toNat_one, nth_zero, nth_one]) | ((with_reducible refine g_load (T := 3) ?_); refine seq_of hS rfl (stp_load (T := 3) Try.isAgg3 rfl (by with_reducible assumption) (by simp) rfl ?_); simp only [Act.put, List.setIfInBounds_toArray, List.set_cons_succ, List.set_cons_zero, Int.toNat_natCast, Int.toNat_zero, Int.toNat_one, nth_zero, nth_one]) | ((with_reducible refine g_load (T := 3) ?_); refine seq_of hS rfl (stp_loadj (T := 3) 1 Try.isAgg3 rfl (by with_reducible assumption) (by simp) rfl ?_); simp only [Act.put, List.setIfInBounds_toArray, List.set_cons_succ, List.set_cons_zero, Int.toNat_natCast, Int.toNat_zero, Int.toNat_one, nth_zero, nth_one]) | ((with_reducible refine g_load (T := 3) ?_); refine seq_of hS rfl (stp_loadj (T := 3) 2 Try.isAgg3 rfl (by with_reducible assumption) (by simp) rfl ?_); simp only [Act.put, List.setIfInBounds_toArray, List.set_cons_succ, List.set_cons_zero, Int.toNat_natCast, Int.toNat_zero, Int.toNat_one, nth_zero, nth_one]))
          go_ret
          exact ⟨hS.toBelow (by simp), _, rfl, .inl ⟨k, hlt, beq_iff_eq.1 h1, beq_iff_eq.1 h2, rfl⟩⟩
    · obtain rfl : k = N.length := by omega
      go_wp2_with (first | ((with_reducible refine g_load (T := 23) ?_); refine seq_of hS rfl (stp_load_blk (T := 23) 1 Try.isAgg23 rfl rfl rfl ?_); simp only [Act.put, List.setIfInBounds_toArray, List.set_cons_succ, List.set_cons_zero, Int.toNat_natCast, Int.toNat_zero, Int.toNat_one, nth_zero, nth_one]))
      go_ret
      exact ⟨hS.toBelow (by simp), 0, rfl, .inr ⟨hno, rfl⟩⟩

/-- What 'length' finds in a quotient. -/
def LenOf (M : List Tri) (x y z : Int) : Prop := (∃ j, j < M.length ∧ (nth tz M j).1 = min x y ∧ (nth tz M j).2.1 = max x y ∧ (nth tz M j).2.2 = z) ∨ (NoEnt M (min x y) (max x y) M.length ∧ z = 0)
theorem len_lt {N : List Tri} {of : List Nat} {i k : Nat} (hik : i < k) (hk : k < (hds of).length) {z : Int} (hc : 0 < common N of (nth 0 (hds of) i) (nth 0 (hds of) k))
    (hz : (∃ j, j < (qN N of).length ∧ (nth tz (qN N of) j).1 = i ∧ (nth tz (qN N of) j).2.1 = k ∧ (nth tz (qN N of) j).2.2 = z) ∨ (NoEnt (qN N of) i k (qN N of).length ∧ z = 0)) : z = common N of (nth 0 (hds of) i) (nth 0 (hds of) k) := by
  rcases hz with ⟨j, hj, h1, h2, h3⟩ | ⟨h1, _⟩
  · rw [← h3]; exact (qN_entry hj h1 h2).2.2.2
  · obtain ⟨j, hj, he⟩ := qN_has hik hk hc
    exact (h1 j hj (by rw [he]; exact ⟨rfl, rfl⟩)).elim
theorem len_q {N : List Tri} {of : List Nat} {i k : Nat} (hik : i ≠ k) (hi : i < (hds of).length) (hk : k < (hds of).length) {z : Int} (hc : 0 < common N of (nth 0 (hds of) i) (nth 0 (hds of) k)) (hz : LenOf (qN N of) i k z) :
    z = common N of (nth 0 (hds of) i) (nth 0 (hds of) k) := by
  unfold LenOf at hz
  rcases Nat.lt_or_gt_of_ne hik with h | h
  · rw [show min (i : Int) k = i by omega, show max (i : Int) k = k by omega] at hz
    exact len_lt h hk hc hz
  · rw [show min (i : Int) k = k by omega, show max (i : Int) k = i by omega] at hz
    rw [common_comm] at hc ⊢
    exact len_lt h hi hc hz
/-- At the groups ahead of a merge. -/
theorem len_heads {W : List Int} {N : List Tri} {of : List Nat} (h : Gr W.length of) {f a : Nat} (hf : f < W.length) (ha : a < W.length) (hff : nth 0 of f = f) (haa : nth 0 of a = a) (hne : f ≠ a) {z : Int} (hc : 0 < common N of f a)
    (hz : LenOf (qN N of) (nth 0 (idx of) f : Nat) (nth 0 (idx of) a : Nat) z) : z = common N of f a := by
  have mf : f ∈ hds of := mem_hds.2 ⟨by rw [h.len]; exact hf, hff⟩
  have ma : a ∈ hds of := mem_hds.2 ⟨by rw [h.len]; exact ha, haa⟩
  have lf := idx_lt h hf
  have la := idx_lt h ha
  rw [idx_at h hf, hff] at hz lf
  rw [idx_at h ha, haa] at hz la
  have e1 := hds_at mf
  have e2 := hds_at ma
  have := len_q (N := N) (fun e => hne (hb_inj of hff haa e)) lf la (by rw [e1, e2]; exact hc) hz
  rw [e1, e2] at this
  exact this
end Go.Proofs.Ytdibpfbibgicaaa
