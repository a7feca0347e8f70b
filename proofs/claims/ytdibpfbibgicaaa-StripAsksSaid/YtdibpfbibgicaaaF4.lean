import Derived.Test.YtdibpfbibgicaaaF3
namespace Go.Proofs.Ytdibpfbibgicaaa
open Go.RowKit Go.Hp
set_option linter.unusedVariables false
set_option linter.unusedSimpArgs false

theorem nears_to (N : List Tri) (of : List Nat) (g k : Nat) : ((List.range (k + 1)).filter (isNear N of g)) = ((List.range k).filter (isNear N of g)) ++ (if isNear N of g k then [k] else []) := by
  rw [List.range_succ, List.filter_append]
  congr 1
  by_cases h : isNear N of g k <;> simp [h]
theorem isNear_cases (N : List Tri) (of : List Nat) (g k : Nat) :
    (((((nth 0 of k : Nat) : Int) == (k : Int)) = false) ∧ Hid (isNear N of g k = false)) ∨
    (((((nth 0 of k : Nat) : Int) == (k : Int)) = true) ∧ (((k : Int) != (g : Int)) = false) ∧ Hid (isNear N of g k = false)) ∨
    (((((nth 0 of k : Nat) : Int) == (k : Int)) = true) ∧ (((k : Int) != (g : Int)) = true) ∧ (((k : Int) != ((nth 0 of 0 : Nat) : Int)) = false) ∧ Hid (isNear N of g k = false)) ∨
    (((((nth 0 of k : Nat) : Int) == (k : Int)) = true) ∧ (((k : Int) != (g : Int)) = true) ∧ (((k : Int) != ((nth 0 of 0 : Nat) : Int)) = true) ∧ (common N of g k ≤ 0) ∧ Hid (isNear N of g k = false)) ∨
    (((((nth 0 of k : Nat) : Int) == (k : Int)) = true) ∧ (((k : Int) != (g : Int)) = true) ∧ (((k : Int) != ((nth 0 of 0 : Nat) : Int)) = true) ∧ (0 < common N of g k) ∧ Hid (isNear N of g k = true)) := by
  by_cases h1 : nth 0 of k = k
  · by_cases h2 : k = g
    · right; left; exact ⟨by simp [h1], by simp [h2], by simp [isNear, h2, Hid]⟩
    · by_cases h3 : k = nth 0 of 0
      · right; right; left; exact ⟨by simp [h1], by simp; omega, by simp; omega, by unfold Hid; simp [isNear]; omega⟩
      · by_cases h4 : 0 < common N of g k
        · right; right; right; right; exact ⟨by simp [h1], by simp; omega, by simp; omega, h4, by simp [isNear, h1, h2, h3, h4, Hid]⟩
        · right; right; right; left; exact ⟨by simp [h1], by simp; omega, by simp; omega, by omega, by simp [isNear, h4, Hid]⟩
  · left; exact ⟨by simp; omega, by simp [isNear, h1, Hid]⟩

set_option maxHeartbeats 2000000 in
set_option maxRecDepth 100000 in
theorem near_any (gv : Value) (a : Option Addr) (n c g : Nat) (W : List Int) (N : List Tri) (of : List Nat) (w : World) (hg : GraphAt w (Old w) gv W N) (hx : Nats w (Old w) (.slice a n c) of) (hv : VG W N) (hl : of.length = W.length) :
    Calls Try.prog 66 #[gv, .slice a n c, .int .i64 g] w fun e w' => ∃ a' c', e = .returned (.slice a' (nears N of g).length c') ∧ Below w.heap.size w w' ∧ Nats w' (New w w') (.slice a' (nears N of g).length c') (nears N of g) := by
  have hn := hx.len
  subst hn
  have hg' := hg
  obtain ⟨aw, cw, an, cn, rfl, hw, hnn⟩ := hg'
  have hS := (Heap.start w).addNil 3 1
  have hle := hv.wlen
  have hle2 : of.length ≤ W.length := by omega
  have HL := Lib.hid hl
  clear hl
  go_enter Try.func66, Try.ntmps66
  go_wp2_with (first | ((with_reducible refine g_box (T := 25) ?_); refine seq_box (T := 25) (v := .agg _) hS rfl (fun b wb hS => ?_); simp only [Act.put, List.setIfInBounds_toArray, List.set_cons_succ, List.set_cons_zero, Int.toNat_natCast, Int.toNat_zero, Int.toNat_one, nth_zero, nth_one]; simp only [List.cons_append, List.nil_append, List.set_cons_succ, List.set_cons_zero, Value.cells, iv_snoc, tv_snoc] at hS))
  go_loopw [7, 8] (fun out i wr => ∃ (k : Nat) (a : Option Addr) (c : Nat), k ≤ of.length ∧ i = .int .i64 k ∧ out = .slice a ((List.range k).filter (isNear N of g)).length c ∧ Heap w wr [.frz (Old w) w, .row (.slice a ((List.range k).filter (isNear N of g)).length c) 3 1 ((List.range k).filter (isNear N of g)).length (iv (zs ((List.range k).filter (isNear N of g)))), .blk b (.cells #[.slice aw W.length cw, .slice an N.length cn] 25 (0, 0))]) (fun _ i _ => of.length - (intOf i).toNat)
  case atStart => exact ⟨0, none, 0, by omega, rfl, rfl, hS⟩
  case round =>
    clear hS
    obtain ⟨k, a', c', hk, rfl, rfl, hS⟩ := hrel
    have hfl : ((List.range k).filter (isNear N of g)).length ≤ k := by have := List.length_filter_le (isNear N of g) (List.range k); simpa using this
    by_cases hlt : k < of.length
    · have hto := nears_to N of g k
      generalize (List.range k).filter (isNear N of g) = F at *
      rcases isNear_cases N of g k with ⟨f1, hr⟩ | ⟨f1, f2, hr⟩ | ⟨f1, f2, f3, hr⟩ | ⟨f1, f2, f3, f4, hr⟩ | ⟨f1, f2, f3, f4, hr⟩
      all_goals
        rw [hr.out] at hto
        have HTO := Lib.hid hto
        clear hto
        go_wp2_with (first | ((with_reducible refine g_idx (T := 22) ?_); refine seq_any rfl (any_index_nat (T := 22) Try.underlying22 Try.sizeOf3 rfl rfl (by with_reducible assumption) (by omega) (by omega) (fun _ _ _ => ?_)); simp only [Act.put, List.setIfInBounds_toArray, List.set_cons_succ, List.set_cons_zero, Int.toNat_natCast, Int.toNat_zero, Int.toNat_one, nth_zero, nth_one]) | ((with_reducible refine g_idx (T := 22) ?_); refine seq_any rfl (any_index_int (T := 22) Try.underlying22 Try.sizeOf3 rfl rfl (by with_reducible assumption) (by omega) (by omega) (fun _ _ _ => ?_)); simp only [Act.put, List.setIfInBounds_toArray, List.set_cons_succ, List.set_cons_zero, Int.toNat_natCast, Int.toNat_zero, Int.toNat_one, nth_zero, nth_one]) | ((with_reducible refine g_idx (T := 23) ?_); refine seq_any rfl (any_index_tri (T := 23) Try.underlying23 Try.sizeOf55 rfl rfl (by with_reducible assumption) (by omega) (by omega) (fun _ _ _ => ?_)); simp only [Act.put, List.setIfInBounds_toArray, List.set_cons_succ, List.set_cons_zero, Int.toNat_natCast, Int.toNat_zero, Int.toNat_one, nth_zero, nth_one]) | ((with_reducible refine g_load (T := 3) ?_); refine seq_of hS rfl (stp_load (T := 3) Try.isAgg3 rfl (by with_reducible assumption) (by simp) rfl ?_); simp only [Act.put, List.setIfInBounds_toArray, List.set_cons_succ, List.set_cons_zero, Int.toNat_natCast, Int.toNat_zero, Int.toNat_one, nth_zero, nth_one]) | ((with_reducible refine g_load (T := 3) ?_); refine seq_of hS rfl (stp_loadj (T := 3) 1 Try.isAgg3 rfl (by with_reducible assumption) (by simp) rfl ?_); simp only [Act.put, List.setIfInBounds_toArray, List.set_cons_succ, List.set_cons_zero, Int.toNat_natCast, Int.toNat_zero, Int.toNat_one, nth_zero, nth_one]) | ((with_reducible refine g_load (T := 3) ?_); refine seq_of hS rfl (stp_loadj (T := 3) 2 Try.isAgg3 rfl (by with_reducible assumption) (by simp) rfl ?_); simp only [Act.put, List.setIfInBounds_toArray, List.set_cons_succ, List.set_cons_zero, Int.toNat_natCast, Int.toNat_zero, Int.toNat_one, nth_zero, nth_one]) | ((with_reducible refine g_load (T := 3) ?_); refine seq_of hS rfl (stp_load_blk (T := 3) 1 Try.isAgg3 rfl rfl rfl ?_); simp only [Act.put, List.setIfInBounds_toArray, List.set_cons_succ, List.set_cons_zero, Int.toNat_natCast, Int.toNat_zero, Int.toNat_one, nth_zero, nth_one]) | ((with_reducible refine g_load (T := 3) ?_); refine seq_of hS rfl (stp_load_blk (T := 3) 2 Try.isAgg3 rfl rfl rfl ?_); simp only [Act.put, List.setIfInBounds_toArray, List.set_cons_succ, List.set_cons_zero, Int.toNat_natCast, Int.toNat_zero, Int.toNat_one, nth_zero, nth_one]) | ((with_reducible refine g_bs (T := 22) ?_); refine seq_bs1 (T := 22) (v := .int .i64 _) hS Try.underlying22 Try.sizeOf3 Try.zeroValue3 rfl rfl rfl (by decide) (by decide) rfl (fun _ _ hS => ?_); simp only [Act.put, List.setIfInBounds_toArray, List.set_cons_succ, List.set_cons_zero, Int.toNat_natCast, Int.toNat_zero, Int.toNat_one, nth_zero, nth_one]; simp only [Value.cells] at hS) | ((with_reducible refine g_load (T := 25) ?_); refine seq_of hS rfl (stp_load_all (T := 25) 2 Try.isAgg25 Try.sizeOf25 rfl rfl rfl ?_); simp only [Act.put, List.setIfInBounds_toArray, List.set_cons_succ, List.set_cons_zero, Int.toNat_natCast, Int.toNat_zero, Int.toNat_one, nth_zero, nth_one]) | (go_at_call 45; refine (common_any _ _ _ _ _ _ _ _ _ _ (hg.arg hS (by simp)) (hx.arg hS (by simp)) hv HL.out).mono ?_; rintro e w' ⟨rfl, hB⟩; have hS := hS.below hB) | ((with_reducible refine g_app ?_); refine seq_append_lit (t := 22) 1 hS Try.underlying22 Try.info3 rfl (by decide) rfl rfl rfl rfl (by simp [Value.oneCell']) (by omega) (by unfold maxLen; omega) (fun _ _ _ hS => ?_); simp only [Act.put, List.setIfInBounds_toArray, List.set_cons_succ, List.set_cons_zero, Int.toNat_natCast, Int.toNat_zero, Int.toNat_one, nth_zero, nth_one]; simp only [List.cons_append, List.nil_append, List.set_cons_succ, List.set_cons_zero, Value.cells, iv_snoc, tv_snoc] at hS))
        go_roundw
        case rel =>
          refine ⟨k + 1, ?_⟩
          rw [HTO.out]
          first
            | (simp only [Bool.false_eq_true, if_false, List.append_nil]; exact ⟨_, _, by omega, by go_num, rfl, hS⟩)
            | (simp only [if_true, List.length_append, List.length_cons, List.length_nil, Nat.zero_add, ← zs_snoc]; exact ⟨_, _, by omega, by go_num, rfl, hS⟩)
        case measure => simp [intOf]; omega
    · obtain rfl : k = of.length := by omega
      go_wp2
      go_ret
      refine ⟨a', c', rfl, hS.toBelow (by simp), hS.resultNats 0 rfl (fun z hz => ?_)⟩
      have := List.mem_range.1 (List.mem_filter.1 hz).1
      omega
end Go.Proofs.Ytdibpfbibgicaaa
