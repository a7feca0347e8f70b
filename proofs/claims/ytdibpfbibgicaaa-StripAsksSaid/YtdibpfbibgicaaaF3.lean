import Derived.Test.YtdibpfbibgicaaaF2
namespace Go.Proofs.Ytdibpfbibgicaaa
open Go.RowKit Go.Hp
set_option linter.unusedVariables false
set_option linter.unusedSimpArgs false

theorem nat_beq_cases (m n : Nat) : ((((m : Int) == (n : Int)) = true) ∧ Hid (m = n)) ∨ ((((m : Int) == (n : Int)) = false) ∧ Hid (m ≠ n)) := by
  by_cases h : m = n
  · exact .inl ⟨by simp [h], h⟩
  · exact .inr ⟨by simp; omega, h⟩

set_option maxHeartbeats 400000 in
set_option maxRecDepth 100000 in
theorem weight_any (gv : Value) (a : Option Addr) (n c g : Nat) (W : List Int) (N : List Tri) (of : List Nat) (w : World) (hg : GraphAt w (Old w) gv W N) (hx : Nats w (Old w) (.slice a n c) of) (hv : VG W N) (hl : of.length = W.length) :
    Calls Try.prog 44 #[gv, .slice a n c, .int .i64 g] w fun e w' => e = .returned (.int .i64 (weight W of g)) ∧ Below w.heap.size w w' := by
  have hn := hx.len
  subst hn
  obtain ⟨aw, cw, an, cn, rfl, hw, hnn⟩ := hg
  have hS := Heap.start w
  have hle := hv.wlen
  have hle2 : of.length ≤ W.length := by omega
  have HL := Lib.hid hl
  clear hl
  go_enter Try.func44, Try.ntmps44
  go_wp2_with (first | ((with_reducible refine g_box (T := 25) ?_); refine seq_box (T := 25) (v := .agg _) hS rfl (fun b wb hS => ?_); simp only [Act.put, List.setIfInBounds_toArray, List.set_cons_succ, List.set_cons_zero, Int.toNat_natCast, Int.toNat_zero, Int.toNat_one, nth_zero, nth_one]; simp only [List.cons_append, List.nil_append, List.set_cons_succ, List.set_cons_zero, Value.cells, iv_snoc, tv_snoc] at hS))
  go_loopw [7, 8] (fun s i wr => ∃ k : Nat, k ≤ of.length ∧ i = .int .i64 k ∧ s = .int .i64 (weightTo W of g k) ∧ Heap w wr [.frz (Old w) w, .blk b (.cells #[.slice aw W.length cw, .slice an N.length cn] 25 (0, 0))]) (fun _ i _ => of.length - (intOf i).toNat)
  case atStart => exact ⟨0, by omega, rfl, rfl, hS⟩
  case round =>
    clear hS
    obtain ⟨k, hk, rfl, rfl, hS⟩ := hrel
    by_cases hlt : k < of.length
    · have hb := weightTo_bd hv of g k (by omega)
      have hwk := hv.w0 _ (nth_mem 0 W k (by omega))
      rcases nat_beq_cases (nth 0 of k) g with ⟨f1, h1⟩ | ⟨f1, h1⟩
      · have hs : weightTo W of g (k + 1) = weightTo W of g k + nth 0 W k := by simp [weightTo, h1.out]
        have HS := Lib.hid hs
        clear hs
        go_wp2_with (first | ((with_reducible refine g_idx (T := 22) ?_); refine seq_any rfl (any_index_nat (T := 22) Try.underlying22 Try.sizeOf3 rfl rfl (by with_reducible assumption) (by omega) (by omega) (fun _ _ _ => ?_)); simp only [Act.put, List.setIfInBounds_toArray, List.set_cons_succ, List.set_cons_zero, Int.toNat_natCast, Int.toNat_zero, Int.toNat_one, nth_zero, nth_one]) | ((with_reducible refine g_idx (T := 22) ?_); refine seq_any rfl (any_index_int (T := 22) Try.underlying22 Try.sizeOf3 rfl rfl (by with_reducible assumption) (by omega) (by omega) (fun _ _ _ => ?_)); simp only [Act.put, List.setIfInBounds_toArray, List.set_cons_succ, List.set_cons_zero, Int.toNat_natCast, Int.toNat_zero, Int.toNat_one, nth_zero, nth_one]) | ((with_reducible refine g_idx (T := 23) ?_); refine seq_any rfl (any_index_tri (T := 23) Try.underlying23 Try.sizeOf55 rfl rfl (by with_reducible assumption) (by omega) (by omega) (fun _ _ _ => ?_)); simp only [Act.put, List.setIfInBounds_toArray, List.set_cons_succ, List.set_cons_zero, Int.toNat_natCast, Int.toNat_zero, Int.toNat_one, nth_zero, nth_one]) | ((with_reducible refine g_load (T := 3) ?_); refine seq_of hS rfl (stp_load (T := 3) Try.isAgg3 rfl (by with_reducible assumption) (by simp) rfl ?_); simp only [Act.put, List.setIfInBounds_toArray, List.set_cons_succ, List.set_cons_zero, Int.toNat_natCast, Int.toNat_zero, Int.toNat_one, nth_zero, nth_one]) | ((with_reducible refine g_load (T := 3) ?_); refine seq_of hS rfl (stp_loadj (T := 3) 1 Try.isAgg3 rfl (by with_reducible assumption) (by simp) rfl ?_); simp only [Act.put, List.setIfInBounds_toArray, List.set_cons_succ, List.set_cons_zero, Int.toNat_natCast, Int.toNat_zero, Int.toNat_one, nth_zero, nth_one]) | ((with_reducible refine g_load (T := 3) ?_); refine seq_of hS rfl (stp_loadj (T := 3) 2 Try.isAgg3 rfl (by with_reducible assumption) (by simp) rfl ?_); simp only [Act.put, List.setIfInBounds_toArray, List.set_cons_succ, List.set_cons_zero, Int.toNat_natCast, Int.toNat_zero, Int.toNat_one, nth_zero, nth_one]) | ((with_reducible refine g_load (T := 3) ?_); refine seq_of hS rfl (stp_load_blk (T := 3) 1 Try.isAgg3 rfl rfl rfl ?_); simp only [Act.put, List.setIfInBounds_toArray, List.set_cons_succ, List.set_cons_zero, Int.toNat_natCast, Int.toNat_zero, Int.toNat_one, nth_zero, nth_one]) | ((with_reducible refine g_load (T := 3) ?_); refine seq_of hS rfl (stp_load_blk (T := 3) 2 Try.isAgg3 rfl rfl rfl ?_); simp only [Act.put, List.setIfInBounds_toArray, List.set_cons_succ, List.set_cons_zero, Int.toNat_natCast, Int.toNat_zero, Int.toNat_one, nth_zero, nth_one]) | ((with_reducible refine g_bs (T := 22) ?_); refine seq_bs1 (T := 22) (v := .int .i64 _) hS Try.underlying22 Try.sizeOf3 Try.zeroValue3 rfl rfl rfl (by decide) (by decide) rfl (fun _ _ hS => ?_); simp only [Act.put, List.setIfInBounds_toArray, List.set_cons_succ, List.set_cons_zero, Int.toNat_natCast, Int.toNat_zero, Int.toNat_one, nth_zero, nth_one]; simp only [Value.cells] at hS) | ((with_reducible refine g_load (T := 22) ?_); refine seq_of hS rfl (stp_load_blk (T := 22) 1 Try.isAgg22 rfl rfl rfl ?_); simp only [Act.put, List.setIfInBounds_toArray, List.set_cons_succ, List.set_cons_zero, Int.toNat_natCast, Int.toNat_zero, Int.toNat_one, nth_zero, nth_one]))
        go_roundw
        case rel => exact ⟨k + 1, by omega, by go_num, by rw [HS.out], hS⟩
        case measure => simp [intOf]; omega
      · have hs : weightTo W of g (k + 1) = weightTo W of g k := by simp [weightTo, show ¬ nth 0 of k = g from h1.out]
        have HS := Lib.hid hs
        clear hs
        go_wp2_with (first | ((with_reducible refine g_idx (T := 22) ?_); refine seq_any rfl (any_index_nat (T := 22) Try.underlying22 Try.sizeOf3 rfl rfl (by with_reducible assumption) (by omega) (by omega) (fun _ _ _ => ?_)); simp only [Act.put, List.setIfInBounds_toArray, List.set_cons_succ, List.set_cons_zero, Int.toNat_natCast, Int.toNat_zero, Int.toNat_one, nth_zero, nth_one]) | ((with_reducible refine g_idx (T := 22) ?_); refine seq_any rfl (any_index_int (T := 22) Try.underlying22 Try.sizeOf3 rfl rfl (by with_reducible assumption) (by omega) (by omega) (fun _ _ _ => ?_)); simp only [Act.put, List.setIfInBounds_toArray, List.set_cons_succ, List.set_cons_zero, Int.toNat_natCast, Int.toNat_zero, Int.toNat_one, nth_zero, nth_one]) | ((with_reducible refine g_idx (T := 23) ?_); refine seq_any rfl (any_index_tri (T := 23) Try.underlying23 Try.sizeOf55 rfl rfl (by with_reducible assumption) (by omega) (by omega) (fun _ _ _ => ?_)); simp only [Act.put, List.setIfInBounds_toArray, List.set_cons_succ, List.set_cons_zero, Int.toNat_natCast, Int.toNat_zero, Int.toNat_one, nth_zero, nth_one]) | ((with_reducible refine g_load (T := 3) ?_); refine seq_of hS rfl (stp_load (T := 3) Try.isAgg3 rfl (by with_reducible assumption) (by simp) rfl ?_); simp only [Act.put, List.setIfInBounds_toArray, List.set_cons_succ, List.set_cons_zero, Int.toNat_natCast, Int.toNat_zero, Int.toNat_one, nth_zero, nth_one]) | ((with_reducible refine g_load (T := 3) ?_); refine seq_of hS rfl (stp_loadj (T := 3) 1 Try.isAgg3 rfl (by with_reducible assumption) (by simp) rfl ?_); simp only [Act.put, List.setIfInBounds_toArray, List.set_cons_succ, List.set_cons_zero, Int.toNat_natCast, Int.toNat_zero, Int.toNat_one, nth_zero, nth_one]) | ((with_reducible refine g_load (T := 3) ?_); refine seq_of hS rfl (stp_loadj (T := 3) 2 Try.isAgg3 rfl (by with_reducible assumption) (by simp) rfl ?_); simp only [Act.put, List.setIfInBounds_toArray, List.set_cons_succ, List.set_cons_zero, Int.toNat_natCast, Int.toNat_zero, Int.toNat_one, nth_zero, nth_one]) | ((with_reducible refine g_load (T := 3) ?_); refine seq_of hS rfl (stp_load_blk (T := 3) 1 Try.isAgg3 rfl rfl rfl ?_); simp only [Act.put, List.setIfInBounds_toArray, List.set_cons_succ, List.set_cons_zero, Int.toNat_natCast, Int.toNat_zero, Int.toNat_one, nth_zero, nth_one]) | ((with_reducible refine g_load (T := 3) ?_); refine seq_of hS rfl (stp_load_blk (T := 3) 2 Try.isAgg3 rfl rfl rfl ?_); simp only [Act.put, List.setIfInBounds_toArray, List.set_cons_succ, List.set_cons_zero, Int.toNat_natCast, Int.toNat_zero, Int.toNat_one, nth_zero, nth_one]) | ((with_reducible refine g_bs (T := 22) ?_); refine seq_bs1 (T := 22) (v := .int .i64 _) hS Try.underlying22 Try.sizeOf3 Try.zeroValue3 rfl rfl rfl (by decide) (by decide) rfl (fun _ _ hS => ?_); simp only [Act.put, List.setIfInBounds_toArray, List.set_cons_succ, List.set_cons_zero, Int.toNat_natCast, Int.toNat_zero, Int.toNat_one, nth_zero, nth_one]; simp only [Value.cells] at hS) | ((with_reducible refine g_load (T := 22) ?_); refine seq_of hS rfl (stp_load_blk (T := 22) 1 Try.isAgg22 rfl rfl rfl ?_); simp only [Act.put, List.setIfInBounds_toArray, List.set_cons_succ, List.set_cons_zero, Int.toNat_natCast, Int.toNat_zero, Int.toNat_one, nth_zero, nth_one]))
        go_roundw
        case rel => exact ⟨k + 1, by omega, by go_num, by rw [HS.out], hS⟩
        case measure => simp [intOf]; omega
    · obtain rfl : k = of.length := by omega
      go_wp2
      go_ret
      exact ⟨rfl, hS.toBelow (by simp)⟩

theorem cmp7 (A B C D : Bool) : (A = true ∧ B = true ∧ Hid ((A && B || C && D) = true)) ∨ (A = true ∧ B = false ∧ C = false ∧ Hid ((A && B || C && D) = false)) ∨ (A = true ∧ B = false ∧ C = true ∧ D = false ∧ Hid ((A && B || C && D) = false)) ∨ (A = true ∧ B = false ∧ C = true ∧ D = true ∧ Hid ((A && B || C && D) = true)) ∨
    (A = false ∧ C = false ∧ Hid ((A && B || C && D) = false)) ∨ (A = false ∧ C = true ∧ D = false ∧ Hid ((A && B || C && D) = false)) ∨ (A = false ∧ C = true ∧ D = true ∧ Hid ((A && B || C && D) = true)) := by
  cases A <;> cases B <;> cases C <;> cases D <;> simp [Hid]
theorem touch_bool (of : List Nat) (a b : Nat) (e : Tri) : touch of a b e ↔ ((((nth 0 of e.1.toNat : Nat) : Int) == (a : Int)) && (((nth 0 of e.2.1.toNat : Nat) : Int) == (b : Int)) || (((nth 0 of e.1.toNat : Nat) : Int) == (b : Int)) && (((nth 0 of e.2.1.toNat : Nat) : Int) == (a : Int))) = true := by
  simp [touch]; omega

set_option maxHeartbeats 2000000 in
set_option maxRecDepth 100000 in
theorem common_any (gv : Value) (a : Option Addr) (n c x y : Nat) (W : List Int) (N : List Tri) (of : List Nat) (w : World) (hg : GraphAt w (Old w) gv W N) (hx : Nats w (Old w) (.slice a n c) of) (hv : VG W N) (hl : of.length = W.length) :
    Calls Try.prog 45 #[gv, .slice a n c, .int .i64 x, .int .i64 y] w fun e w' => e = .returned (.int .i64 (common N of x y)) ∧ Below w.heap.size w w' := by
  have hn := hx.len
  subst hn
  obtain ⟨aw, cw, an, cn, rfl, hw, hnn⟩ := hg
  have hS := Heap.start w
  have hle := hv.wlen
  have hle3 := hv.nlen
  have hle2 : of.length ≤ W.length := by omega
  have hle4 : W.length ≤ of.length := by omega
  have HL := Lib.hid hl
  clear hl
  go_enter Try.func45, Try.ntmps45
  go_wp2_with (first | ((with_reducible refine g_box (T := 25) ?_); refine seq_box (T := 25) (v := .agg _) hS rfl (fun b wb hS => ?_); simp only [Act.put, List.setIfInBounds_toArray, List.set_cons_succ, List.set_cons_zero, Int.toNat_natCast, Int.toNat_zero, Int.toNat_one, nth_zero, nth_one]; simp only [List.cons_append, List.nil_append, List.set_cons_succ, List.set_cons_zero, Value.cells, iv_snoc, tv_snoc] at hS))
  go_loopw [9, 10, 11, 12] (fun s i s11 s12 wr => ∃ k : Nat, k ≤ N.length ∧ i = .int .i64 k ∧ s = .int .i64 (commonTo N of x y k) ∧ Heap w wr [.frz (Old w) w, .blk b (.cells #[.slice aw W.length cw, .slice an N.length cn] 25 (0, 0))]) (fun _ i _ _ _ => N.length - (intOf i).toNat)
  case atStart => exact ⟨0, by omega, rfl, rfl, hS⟩
  case round =>
    clear hS
    obtain ⟨k, hk, rfl, rfl, hS⟩ := hrel
    by_cases hlt : k < N.length
    · have hb := commonTo_bd hv of x y k (by omega)
      obtain ⟨e1, e2, e3, e4, e5⟩ := hv.n0 _ (nth_mem tz N k (by omega))
      have hs : commonTo N of x y (k + 1) = commonTo N of x y k + if touch of x y (nth tz N k) then (nth tz N k).2.2 else 0 := rfl
      simp only [touch_bool] at hs
      rcases cmp7 (((nth 0 of (nth tz N k).1.toNat : Nat) : Int) == (x : Int)) (((nth 0 of (nth tz N k).2.1.toNat : Nat) : Int) == (y : Int)) (((nth 0 of (nth tz N k).1.toNat : Nat) : Int) == (y : Int)) (((nth 0 of (nth tz N k).2.1.toNat : Nat) : Int) == (x : Int)) with ⟨f1, f2, hr⟩ | ⟨f1, f2, f3, hr⟩ | ⟨f1, f2, f3, f4, hr⟩ | ⟨f1, f2, f3, f4, hr⟩ | ⟨f1, f3, hr⟩ | ⟨f1, f3, f4, hr⟩ | ⟨f1, f3, f4, hr⟩
      all_goals
        rw [hr.out] at hs
        have HS := Lib.hid hs
        clear hs
        go_wp2_with (first | ((with_reducible refine g_idx (T := 22) ?_); refine seq_any rfl (any_index_nat (T := 22) Try.underlying22 Try.sizeOf3 rfl rfl (by with_reducible assumption) (by omega) (by omega) (fun _ _ _ => ?_)); simp only [Act.put, List.setIfInBounds_toArray, List.set_cons_succ, List.set_cons_zero, Int.toNat_natCast, Int.toNat_zero, Int.toNat_one, nth_zero, nth_one]) | ((with_reducible refine g_idx (T := 22) ?_); refine seq_any rfl (any_index_int (T := 22) Try.underlying22 Try.sizeOf3 rfl rfl (by with_reducible assumption) (by omega) (by omega) (fun _ _ _ => ?_)); simp only [Act.put, List.setIfInBounds_toArray, List.set_cons_succ, List.set_cons_zero, Int.toNat_natCast, Int.toNat_zero, Int.toNat_one, nth_zero, nth_one]) | ((with_reducible refine g_idx (T := 23) ?_); refine seq_any rfl (any_index_tri (T := 23) Try.underlying23 Try.sizeOf55 rfl rfl (by with_reducible assumption) (by omega) (by omega) (fun _ _ _ => ?_)); simp only [Act.put, List.setIfInBounds_toArray, List.set_cons_succ, List.set_cons_zero, Int.toNat_natCast, Int.toNat_zero, Int.toNat_one, nth_zero, nth_one]) | ((with_reducible refine g_load (T := 3) ?_); refine seq_of hS rfl (stp_load (T := 3) Try.isAgg3 rfl (by with_reducible assumption) (by simp) rfl ?_); simp only [Act.put, List.setIfInBounds_toArray, List.set_cons_succ, List.set_cons_zero, Int.toNat_natCast, Int.toNat_zero, Int.toNat_one, nth_zero, nth_one]) | ((with_reducible refine g_load (T := 3) ?_); refine seq_of hS rfl (stp_loadj (T := 3) 1 Try.isAgg3 rfl (by with_reducible assumption) (by simp) rfl ?_); simp only [Act.put, List.setIfInBounds_toArray, List.set_cons_succ, List.set_cons_zero, Int.toNat_natCast, Int.toNat_zero, Int.toNat_one, nth_zero, nth_one]) | ((with_reducible refine g_load (T := 3) ?_); refine seq_of hS rfl (stp_loadj (T := 3) 2 Try.isAgg3 rfl (by with_reducible assumption) (by simp) rfl ?_); simp only [Act.put, List.setIfInBounds_toArray, List.set_cons_succ, List.set_cons_zero, Int.toNat_natCast, Int.toNat_zero, Int.toNat_one, nth_zero, nth_one]) | ((with_reducible refine g_load (T := 3) ?_); refine seq_of hS rfl (stp_load_blk (T := 3) 1 Try.isAgg3 rfl rfl rfl ?_); simp only [Act.put, List.setIfInBounds_toArray, List.set_cons_succ, List.set_cons_zero, Int.toNat_natCast, Int.toNat_zero, Int.toNat_one, nth_zero, nth_one]) | ((with_reducible refine g_load (T := 3) ?_); refine seq_of hS rfl (stp_load_blk (T := 3) 2 Try.isAgg3 rfl rfl rfl ?_); simp only [Act.put, List.setIfInBounds_toArray, List.set_cons_succ, List.set_cons_zero, Int.toNat_natCast, Int.toNat_zero, Int.toNat_one, nth_zero, nth_one]) | ((with_reducible refine g_bs (T := 22) ?_); refine seq_bs1 (T := 22) (v := .int .i64 _) hS Try.underlying22 Try.sizeOf3 Try.zeroValue3 rfl rfl rfl (by decide) (by decide) rfl (fun _ _ hS => ?_); simp only [Act.put, List.setIfInBounds_toArray, List.set_cons_succ, List.set_cons_zero, Int.toNat_natCast, Int.toNat_zero, Int.toNat_one, nth_zero, nth_one]; simp only [Value.cells] at hS) | ((with_reducible refine g_load (T := 23) ?_); refine seq_of hS rfl (stp_load_blk (T := 23) 1 Try.isAgg23 rfl rfl rfl ?_); simp only [Act.put, List.setIfInBounds_toArray, List.set_cons_succ, List.set_cons_zero, Int.toNat_natCast, Int.toNat_zero, Int.toNat_one, nth_zero, nth_one]))
        go_roundw
        case rel => exact ⟨k + 1, by omega, by go_num, by rw [HS.out]; first | rw [if_pos rfl] | rw [if_neg (by simp), Int.add_zero], hS⟩
        case measure => simp [intOf]; omega
    · obtain rfl : k = N.length := by omega
      go_wp2_with (first | ((with_reducible refine g_idx (T := 22) ?_); refine seq_any rfl (any_index_nat (T := 22) Try.underlying22 Try.sizeOf3 rfl rfl (by with_reducible assumption) (by omega) (by omega) (fun _ _ _ => ?_)); simp only [Act.put, List.setIfInBounds_toArray, List.set_cons_succ, List.set_cons_zero, Int.toNat_natCast, Int.toNat_zero, Int.toNat_one, nth_zero, nth_one]) | ((with_reducible refine g_idx (T := 22) ?_); refine seq_any rfl (any_index_int (T := 22) Try.underlying22 Try.sizeOf3 rfl rfl (by with_reducible assumption) (by omega) (by omega) (fun _ _ _ => ?_)); simp only [Act.put, List.setIfInBounds_toArray, List.set_cons_succ, List.set_cons_zero, Int.toNat_natCast, Int.toNat_zero, Int.toNat_one, nth_zero, nth_one]) | ((with_reducible refine g_idx (T := 23) ?_); refine seq_any rfl (any_index_tri (T := 23) Try.underlying23 Try.sizeOf55 rfl rfl (by with_reducible assumption) (by omega) (by omega) (fun _ _ _ => ?_)); simp only [Act.put, List.setIfInBounds_toArray, List.set_cons_succ, List.set_cons_zero, Int.toNat_natCast, Int.toNat_zero, Int.toNat_one, nth_zero, nth_one]) | ((with_reducible refine g_load (T := 3) ?_); refine seq_of hS rfl (stp_load (T := 3) Try.isAgg3 rfl (by with_reducible assumption) (by simp) rfl ?_); simp only [Act.put, List.setIfInBounds_toArray, List.set_cons_succ, List.set_cons_zero, Int.toNat_natCast, Int.toNat_zero, Int.toNat_one, nth_zero, nth_one]) | ((with_reducible refine g_load (T := 3) ?_); refine seq_of hS rfl (stp_loadj (T := 3) 1 Try.isAgg3 rfl (by with_reducible assumption) (by simp) rfl ?_); simp only [Act.put, List.setIfInBounds_toArray, List.set_cons_succ, List.set_cons_zero, Int.toNat_natCast, Int.toNat_zero, Int.toNat_one, nth_zero, nth_one]) | ((with_reducible refine g_load (T := 3) ?_); refine seq_of hS rfl (stp_loadj (T := 3) 2 Try.isAgg3 rfl (by with_reducible assumption) (by simp) rfl ?_); simp only [Act.put, List.setIfInBounds_toArray, List.set_cons_succ, List.set_cons_zero, Int.toNat_natCast, Int.toNat_zero, Int.toNat_one, nth_zero, nth_one]) | ((with_reducible refine g_load (T := 3) ?_); refine seq_of hS rfl (stp_load_blk (T := 3) 1 Try.isAgg3 rfl rfl rfl ?_); simp only [Act.put, List.setIfInBounds_toArray, List.set_cons_succ, List.set_cons_zero, Int.toNat_natCast, Int.toNat_zero, Int.toNat_one, nth_zero, nth_one]) | ((with_reducible refine g_load (T := 3) ?_); refine seq_of hS rfl (stp_load_blk (T := 3) 2 Try.isAgg3 rfl rfl rfl ?_); simp only [Act.put, List.setIfInBounds_toArray, List.set_cons_succ, List.set_cons_zero, Int.toNat_natCast, Int.toNat_zero, Int.toNat_one, nth_zero, nth_one]) | ((with_reducible refine g_bs (T := 22) ?_); refine seq_bs1 (T := 22) (v := .int .i64 _) hS Try.underlying22 Try.sizeOf3 Try.zeroValue3 rfl rfl rfl (by decide) (by decide) rfl (fun _ _ hS => ?_); simp only [Act.put, List.setIfInBounds_toArray, List.set_cons_succ, List.set_cons_zero, Int.toNat_natCast, Int.toNat_zero, Int.toNat_one, nth_zero, nth_one]; simp only [Value.cells] at hS) | ((with_reducible refine g_load (T := 23) ?_); refine seq_of hS rfl (stp_load_blk (T := 23) 1 Try.isAgg23 rfl rfl rfl ?_); simp only [Act.put, List.setIfInBounds_toArray, List.set_cons_succ, List.set_cons_zero, Int.toNat_natCast, Int.toNat_zero, Int.toNat_one, nth_zero, nth_one]))
      go_ret
      exact ⟨rfl, hS.toBelow (by simp)⟩
end Go.Proofs.Ytdibpfbibgicaaa
