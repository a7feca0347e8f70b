/- B1: meresmanref22.Valid, of every graph. -/
import Derived.Test.YtdibpfbibgicaaaV2
set_option linter.unusedVariables false
set_option linter.unusedSimpArgs false
namespace Go.Proofs.Ytdibpfbibgicaaa
open Go.RowKit Go.Hp

theorem badS_cases {N : List Tri} {k : Nat} (hk : 0 < k) :
    (Hid (badS N k = true) ∧ decide ((nth tz N k).1 < (nth tz N (k - 1)).1) = true) ∨
    (Hid (badS N k = false) ∧ decide ((nth tz N k).1 < (nth tz N (k - 1)).1) = false ∧ ((nth tz N (k - 1)).1 == (nth tz N k).1) = false) ∨
    (Hid (badS N k = true) ∧ decide ((nth tz N k).1 < (nth tz N (k - 1)).1) = false ∧ ((nth tz N (k - 1)).1 == (nth tz N k).1) = true ∧ decide ((nth tz N k).2.1 ≤ (nth tz N (k - 1)).2.1) = true) ∨
    (Hid (badS N k = false) ∧ decide ((nth tz N k).1 < (nth tz N (k - 1)).1) = false ∧ ((nth tz N (k - 1)).1 == (nth tz N k).1) = true ∧ decide ((nth tz N k).2.1 ≤ (nth tz N (k - 1)).2.1) = false) := by
  unfold Hid badS lt2
  simp only [hk, decide_true, Bool.true_and, decide_eq_true_eq, decide_eq_false_iff_not, beq_iff_eq, beq_eq_false_iff_ne, Bool.not_eq_true', Bool.not_eq_false', Bool.or_eq_true, Bool.and_eq_true, Bool.or_eq_false_iff, Bool.and_eq_false_iff, ne_eq]
  omega

set_option maxHeartbeats 4000000 in
set_option maxRecDepth 100000 in
theorem refvalid_any (gv : Value) (W : List Int) (N : List Tri) (w : World) (hg : GraphAt w (Old w) gv W N) :
    Calls Try.prog 11 #[gv] w fun e w' => e = .returned (.int .i64 (validN W N)) ∧ Below w.heap.size w w' := by
  obtain ⟨aw, cw, an, cn, rfl, hw, hnn⟩ := hg
  have hS := Heap.start w
  have hle := hw.le
  have hle2 := hnn.le
  by_cases h1 : 4096 < W.length
  · have f1 : decide ((4096 : Int) < (W.length : Int)) = true := by simp; omega
    have HV : Hid (validN W N = 4) := by unfold Hid validN; rw [if_pos (.inl h1)]
    clear h1
    go_enter Try.func11, Try.ntmps11
    go_wp2_with (first | ((with_reducible refine g_box (T := 25) ?_); refine seq_box (T := 25) (v := .agg _) hS rfl (fun bg wbg hS => ?_); simp only [Act.put, List.setIfInBounds_toArray, List.set_cons_succ, List.set_cons_zero, Int.toNat_natCast, Int.toNat_zero, Int.toNat_one, nth_zero, nth_one]; simp only [List.cons_append, List.nil_append, List.set_cons_succ, List.set_cons_zero, Value.cells, iv_snoc, tv_snoc] at hS) | ((with_reducible refine g_load (T := 22) ?_); refine seq_of hS rfl (stp_load_blk (T := 22) 1 Try.isAgg22 rfl rfl rfl ?_); simp only [Act.put, List.setIfInBounds_toArray, List.set_cons_succ, List.set_cons_zero, Int.toNat_natCast, Int.toNat_zero, Int.toNat_one, nth_zero, nth_one]) | ((with_reducible refine g_load (T := 23) ?_); refine seq_of hS rfl (stp_load_blk (T := 23) 1 Try.isAgg23 rfl rfl rfl ?_); simp only [Act.put, List.setIfInBounds_toArray, List.set_cons_succ, List.set_cons_zero, Int.toNat_natCast, Int.toNat_zero, Int.toNat_one, nth_zero, nth_one]))
    go_ret
    exact ⟨by rw [HV.out]; rfl, hS.toBelow (by simp)⟩
  · have f1 : decide ((4096 : Int) < (W.length : Int)) = false := by simp; omega
    by_cases h2 : 16384 < N.length
    · have f2 : decide ((16384 : Int) < (N.length : Int)) = true := by simp; omega
      have HV : Hid (validN W N = 4) := by unfold Hid validN; rw [if_pos (.inr h2)]
      clear h1 h2
      go_enter Try.func11, Try.ntmps11
      go_wp2_with (first | ((with_reducible refine g_box (T := 25) ?_); refine seq_box (T := 25) (v := .agg _) hS rfl (fun bg wbg hS => ?_); simp only [Act.put, List.setIfInBounds_toArray, List.set_cons_succ, List.set_cons_zero, Int.toNat_natCast, Int.toNat_zero, Int.toNat_one, nth_zero, nth_one]; simp only [List.cons_append, List.nil_append, List.set_cons_succ, List.set_cons_zero, Value.cells, iv_snoc, tv_snoc] at hS) | ((with_reducible refine g_load (T := 22) ?_); refine seq_of hS rfl (stp_load_blk (T := 22) 1 Try.isAgg22 rfl rfl rfl ?_); simp only [Act.put, List.setIfInBounds_toArray, List.set_cons_succ, List.set_cons_zero, Int.toNat_natCast, Int.toNat_zero, Int.toNat_one, nth_zero, nth_one]) | ((with_reducible refine g_load (T := 23) ?_); refine seq_of hS rfl (stp_load_blk (T := 23) 1 Try.isAgg23 rfl rfl rfl ?_); simp only [Act.put, List.setIfInBounds_toArray, List.set_cons_succ, List.set_cons_zero, Int.toNat_natCast, Int.toNat_zero, Int.toNat_one, nth_zero, nth_one]))
      go_ret
      exact ⟨by rw [HV.out]; rfl, hS.toBelow (by simp)⟩
    · have f2 : decide ((16384 : Int) < (N.length : Int)) = false := by simp; omega
      have hV0 : validN W N = if W.any bad1 || badTo W.length N N.length then 1 else 0 := by unfold validN; rw [if_neg (by omega)]
      have h3 : W.length ≤ 4096 := by omega
      have h4 : N.length ≤ 16384 := by omega
      have HV := Lib.hid hV0
      clear h1 h2 hV0
      go_enter Try.func11, Try.ntmps11
      go_wp2_with (first | ((with_reducible refine g_box (T := 25) ?_); refine seq_box (T := 25) (v := .agg _) hS rfl (fun bg wbg hS => ?_); simp only [Act.put, List.setIfInBounds_toArray, List.set_cons_succ, List.set_cons_zero, Int.toNat_natCast, Int.toNat_zero, Int.toNat_one, nth_zero, nth_one]; simp only [List.cons_append, List.nil_append, List.set_cons_succ, List.set_cons_zero, Value.cells, iv_snoc, tv_snoc] at hS) | ((with_reducible refine g_load (T := 22) ?_); refine seq_of hS rfl (stp_load_blk (T := 22) 1 Try.isAgg22 rfl rfl rfl ?_); simp only [Act.put, List.setIfInBounds_toArray, List.set_cons_succ, List.set_cons_zero, Int.toNat_natCast, Int.toNat_zero, Int.toNat_one, nth_zero, nth_one]) | ((with_reducible refine g_load (T := 23) ?_); refine seq_of hS rfl (stp_load_blk (T := 23) 1 Try.isAgg23 rfl rfl rfl ?_); simp only [Act.put, List.setIfInBounds_toArray, List.set_cons_succ, List.set_cons_zero, Int.toNat_natCast, Int.toNat_zero, Int.toNat_one, nth_zero, nth_one]))
      simp only [List.getElem_toArray, List.getElem_cons_zero, List.getElem_cons_succ]
      go_loopw [3] (fun i wr => ∃ k : Nat, k ≤ W.length ∧ i = .int .i64 k ∧ (∀ j, j < k → bad1 (nth 0 W j) = false) ∧ Heap w wr [.frz (Old w) w, .blk bg (.cells #[.slice aw W.length cw, .slice an N.length cn] 25 (0, 0))]) (fun i _ => W.length - (intOf i).toNat)
      case atStart => exact ⟨0, by omega, rfl, (fun j hj => by omega), hS⟩
      case round =>
        clear hS
        obtain ⟨k, hk, rfl, hA, hS⟩ := hrel
        by_cases hlt : k < W.length
        · have hbc : (Hid (bad1 (nth 0 W k) = true) ∧ decide (nth 0 W k < 0) = true) ∨ (Hid (bad1 (nth 0 W k) = true) ∧ decide (nth 0 W k < 0) = false ∧ decide (1099511627776 < nth 0 W k) = true) ∨ (Hid (bad1 (nth 0 W k) = false) ∧ decide (nth 0 W k < 0) = false ∧ decide (1099511627776 < nth 0 W k) = false) := by
            unfold Hid bad1
            cases decide (nth 0 W k < 0) <;> cases decide (1099511627776 < nth 0 W k) <;> simp
          have HA := Lib.hid hA
          clear hA
          rcases hbc with ⟨HE, g1⟩ | ⟨HE, g1, g2⟩ | ⟨HE, g1, g2⟩
          iterate 2
            · go_wp2_with (first | ((with_reducible refine g_load (T := 22) ?_); refine seq_of hS rfl (stp_load_blk (T := 22) 1 Try.isAgg22 rfl rfl rfl ?_); simp only [Act.put, List.setIfInBounds_toArray, List.set_cons_succ, List.set_cons_zero, Int.toNat_natCast, Int.toNat_zero, Int.toNat_one, nth_zero, nth_one]) | ((with_reducible refine g_idx (T := 22) ?_); refine seq_any rfl (any_index_int (T := 22) Try.underlying22 Try.sizeOf3 rfl rfl (by with_reducible assumption) (by omega) (by omega) (fun _ _ _ => ?_)); simp only [Act.put, List.setIfInBounds_toArray, List.set_cons_succ, List.set_cons_zero, Int.toNat_natCast, Int.toNat_zero, Int.toNat_one, nth_zero, nth_one]) | ((with_reducible refine g_load (T := 3) ?_); refine seq_of hS rfl (stp_load (T := 3) Try.isAgg3 rfl (by with_reducible assumption) (by simp) rfl ?_); simp only [Act.put, List.setIfInBounds_toArray, List.set_cons_succ, List.set_cons_zero, Int.toNat_natCast, Int.toNat_zero, Int.toNat_one, nth_zero, nth_one]))
              go_ret
              refine ⟨?_, hS.toBelow (by simp)⟩
              have h1 : W.any bad1 = true := List.any_eq_true.2 ⟨_, nth_mem 0 W k hlt, HE.out⟩
              rw [HV.out, h1]; rfl
          · go_wp2_with (first | ((with_reducible refine g_load (T := 22) ?_); refine seq_of hS rfl (stp_load_blk (T := 22) 1 Try.isAgg22 rfl rfl rfl ?_); simp only [Act.put, List.setIfInBounds_toArray, List.set_cons_succ, List.set_cons_zero, Int.toNat_natCast, Int.toNat_zero, Int.toNat_one, nth_zero, nth_one]) | ((with_reducible refine g_idx (T := 22) ?_); refine seq_any rfl (any_index_int (T := 22) Try.underlying22 Try.sizeOf3 rfl rfl (by with_reducible assumption) (by omega) (by omega) (fun _ _ _ => ?_)); simp only [Act.put, List.setIfInBounds_toArray, List.set_cons_succ, List.set_cons_zero, Int.toNat_natCast, Int.toNat_zero, Int.toNat_one, nth_zero, nth_one]) | ((with_reducible refine g_load (T := 3) ?_); refine seq_of hS rfl (stp_load (T := 3) Try.isAgg3 rfl (by with_reducible assumption) (by simp) rfl ?_); simp only [Act.put, List.setIfInBounds_toArray, List.set_cons_succ, List.set_cons_zero, Int.toNat_natCast, Int.toNat_zero, Int.toNat_one, nth_zero, nth_one]))
            go_roundw
            case rel =>
              refine ⟨k + 1, by omega, by go_num, fun j hj => ?_, hS⟩
              rcases Nat.lt_or_ge j k with h | h
              · exact HA.out j h
              · obtain rfl : j = k := by omega
                exact HE.out
            case measure => simp [intOf]; omega
        · obtain rfl : k = W.length := by omega
          have hW : W.any bad1 = false := List.any_eq_false.2 (fun x hx => by obtain ⟨i, hi, rfl⟩ := List.mem_iff_getElem.1 hx; have := hA i hi; rw [nth_eq 0 _ _ hi] at this; rw [this]; decide)
          have HW := Lib.hid hW
          clear hA hW
          go_wp2_with (first | ((with_reducible refine g_load (T := 22) ?_); refine seq_of hS rfl (stp_load_blk (T := 22) 1 Try.isAgg22 rfl rfl rfl ?_); simp only [Act.put, List.setIfInBounds_toArray, List.set_cons_succ, List.set_cons_zero, Int.toNat_natCast, Int.toNat_zero, Int.toNat_one, nth_zero, nth_one]))
          simp only [List.getElem_toArray, List.getElem_cons_zero, List.getElem_cons_succ]
          go_loopw [4] (fun i wr => ∃ k : Nat, k ≤ N.length ∧ i = .int .i64 k ∧ badTo W.length N k = false ∧ Heap w wr [.frz (Old w) w, .blk bg (.cells #[.slice aw W.length cw, .slice an N.length cn] 25 (0, 0))]) (fun i _ => N.length - (intOf i).toNat)
          case atStart => exact ⟨0, by omega, rfl, rfl, hS⟩
          case round =>
            clear hS
            obtain ⟨k, hk, rfl, hA, hS⟩ := hrel
            by_cases hlt : k < N.length
            · have hto : badTo W.length N (k + 1) = (badTo W.length N k || badE W.length (nth tz N k) || badS N k) := rfl
              have HA := Lib.hid hA
              have HTO := Lib.hid hto
              clear hA hto
              rcases badE_cases W.length (nth tz N k) with ⟨HE, g1⟩ | ⟨HE, g1, g2⟩ | ⟨HE, g1, g2, g3⟩ | ⟨HE, g1, g2, g3, g4⟩ | ⟨HE, g1, g2, g3, g4, g5⟩ | ⟨HE, g1, g2, g3, g4, g5⟩
              iterate 5
                · go_wp2_with (first | ((with_reducible refine g_idx (T := 23) ?_); refine seq_any rfl (any_index_tri (T := 23) Try.underlying23 Try.sizeOf55 rfl rfl (by with_reducible assumption) (by omega) (by omega) (fun _ _ _ => ?_)); simp only [Act.put, List.setIfInBounds_toArray, List.set_cons_succ, List.set_cons_zero, Int.toNat_natCast, Int.toNat_zero, Int.toNat_one, nth_zero, nth_one]) | ((with_reducible refine g_load (T := 55) ?_); refine seq_of hS rfl (stp_loadk (T := 55) Try.isAgg55 Try.sizeOf55 rfl (by with_reducible assumption) (by simp) rfl ?_); simp only [Act.put, List.setIfInBounds_toArray, List.set_cons_succ, List.set_cons_zero, Int.toNat_natCast, Int.toNat_zero, Int.toNat_one, nth_zero, nth_one]) | ((with_reducible refine g_alloc (T := 55) ?_); refine seq_alloc (T := 55) hS Try.zeroValue55 (fun b3 wb3 hS => ?_); simp only [Act.put, List.setIfInBounds_toArray, List.set_cons_succ, List.set_cons_zero, Int.toNat_natCast, Int.toNat_zero, Int.toNat_one, nth_zero, nth_one]; simp only [List.cons_append, List.nil_append, List.set_cons_succ, List.set_cons_zero, Value.cells, iv_snoc, tv_snoc] at hS) | ((with_reducible refine g_store (T := 55) ?_); refine seq_store (T := 55) (u := .agg _) 2 hS rfl rfl rfl Try.sizeOf55 (by simp [Value.cells, Value.oneCell']) (by simp [Value.cells]) (fun _ hS => ?_); simp only [Act.put, List.setIfInBounds_toArray, List.set_cons_succ, List.set_cons_zero, Int.toNat_natCast, Int.toNat_zero, Int.toNat_one, nth_zero, nth_one]; simp only [List.cons_append, List.nil_append, List.set_cons_succ, List.set_cons_zero, Value.cells, iv_snoc, tv_snoc] at hS; simp only [List.take_zero, List.nil_append, List.append_nil, List.drop_succ_cons, List.drop_zero, List.drop_nil, List.take_succ_cons, List.cons_append, List.size_toArray, List.length_cons, List.length_nil, Nat.reduceAdd] at hS) | ((with_reducible refine g_load (T := 3) ?_); refine seq_of hS rfl (stp_load_blk (T := 3) 2 Try.isAgg3 rfl rfl rfl ?_); simp only [Act.put, List.setIfInBounds_toArray, List.set_cons_succ, List.set_cons_zero, Int.toNat_natCast, Int.toNat_zero, Int.toNat_one, nth_zero, nth_one]) | ((with_reducible refine g_load (T := 22) ?_); refine seq_of hS rfl (stp_load_blk (T := 22) 1 Try.isAgg22 rfl rfl rfl ?_); simp only [Act.put, List.setIfInBounds_toArray, List.set_cons_succ, List.set_cons_zero, Int.toNat_natCast, Int.toNat_zero, Int.toNat_one, nth_zero, nth_one]) | ((with_reducible refine g_load (T := 23) ?_); refine seq_of hS rfl (stp_load_blk (T := 23) 1 Try.isAgg23 rfl rfl rfl ?_); simp only [Act.put, List.setIfInBounds_toArray, List.set_cons_succ, List.set_cons_zero, Int.toNat_natCast, Int.toNat_zero, Int.toNat_one, nth_zero, nth_one]))
                  go_ret
                  refine ⟨?_, hS.toBelow (by simp)⟩
                  have h1 : badTo W.length N N.length = true := badTo_mono (show k + 1 ≤ N.length by omega) (by rw [HTO.out, HE.out]; simp)
                  rw [HV.out, h1]; simp
              · go_wp2_with (first | ((with_reducible refine g_idx (T := 23) ?_); refine seq_any rfl (any_index_tri (T := 23) Try.underlying23 Try.sizeOf55 rfl rfl (by with_reducible assumption) (by omega) (by omega) (fun _ _ _ => ?_)); simp only [Act.put, List.setIfInBounds_toArray, List.set_cons_succ, List.set_cons_zero, Int.toNat_natCast, Int.toNat_zero, Int.toNat_one, nth_zero, nth_one]) | ((with_reducible refine g_load (T := 55) ?_); refine seq_of hS rfl (stp_loadk (T := 55) Try.isAgg55 Try.sizeOf55 rfl (by with_reducible assumption) (by simp) rfl ?_); simp only [Act.put, List.setIfInBounds_toArray, List.set_cons_succ, List.set_cons_zero, Int.toNat_natCast, Int.toNat_zero, Int.toNat_one, nth_zero, nth_one]) | ((with_reducible refine g_alloc (T := 55) ?_); refine seq_alloc (T := 55) hS Try.zeroValue55 (fun b3 wb3 hS => ?_); simp only [Act.put, List.setIfInBounds_toArray, List.set_cons_succ, List.set_cons_zero, Int.toNat_natCast, Int.toNat_zero, Int.toNat_one, nth_zero, nth_one]; simp only [List.cons_append, List.nil_append, List.set_cons_succ, List.set_cons_zero, Value.cells, iv_snoc, tv_snoc] at hS) | ((with_reducible refine g_store (T := 55) ?_); refine seq_store (T := 55) (u := .agg _) 2 hS rfl rfl rfl Try.sizeOf55 (by simp [Value.cells, Value.oneCell']) (by simp [Value.cells]) (fun _ hS => ?_); simp only [Act.put, List.setIfInBounds_toArray, List.set_cons_succ, List.set_cons_zero, Int.toNat_natCast, Int.toNat_zero, Int.toNat_one, nth_zero, nth_one]; simp only [List.cons_append, List.nil_append, List.set_cons_succ, List.set_cons_zero, Value.cells, iv_snoc, tv_snoc] at hS; simp only [List.take_zero, List.nil_append, List.append_nil, List.drop_succ_cons, List.drop_zero, List.drop_nil, List.take_succ_cons, List.cons_append, List.size_toArray, List.length_cons, List.length_nil, Nat.reduceAdd] at hS) | ((with_reducible refine g_load (T := 3) ?_); refine seq_of hS rfl (stp_load_blk (T := 3) 2 Try.isAgg3 rfl rfl rfl ?_); simp only [Act.put, List.setIfInBounds_toArray, List.set_cons_succ, List.set_cons_zero, Int.toNat_natCast, Int.toNat_zero, Int.toNat_one, nth_zero, nth_one]) | ((with_reducible refine g_load (T := 22) ?_); refine seq_of hS rfl (stp_load_blk (T := 22) 1 Try.isAgg22 rfl rfl rfl ?_); simp only [Act.put, List.setIfInBounds_toArray, List.set_cons_succ, List.set_cons_zero, Int.toNat_natCast, Int.toNat_zero, Int.toNat_one, nth_zero, nth_one]) | ((with_reducible refine g_load (T := 23) ?_); refine seq_of hS rfl (stp_load_blk (T := 23) 1 Try.isAgg23 rfl rfl rfl ?_); simp only [Act.put, List.setIfInBounds_toArray, List.set_cons_succ, List.set_cons_zero, Int.toNat_natCast, Int.toNat_zero, Int.toNat_one, nth_zero, nth_one]))
                by_cases hk0 : k = 0
                · subst hk0
                  have HS : Hid (badS N 0 = false) := rfl
                  refine wp_region_sched [.pure 0, .pure 1, .pure 2, .pure 3, .read 4, .pure 5, .pure 6, .pure 7, .pure 8, .read 9, .pure 10, .read 11, .pure 12, .pure 13, .pure 14, .read 15, .pure 16, .pure 17, .pure 18, .pure 19, .read 20, .pure 21, .read 22, .pure 23, .pure 24, .pure 25, .read 26, .pure 27, .pure 28, .pure 29, .pure 30, .read 31, .pure 32, .read 33, .pure 34, .pure 35, .pure 36, .pure 37] [] (fun w' => Heap w w' _) (by kernel_rfl) (by kernel_rfl) hS.drew (fun w1 hS => ?_)
                  repeat (first | ((first | ((with_reducible refine m_pure ?_); refine skip_pure rfl rfl ?_) | ((with_reducible refine m_read ?_); refine skip_read rfl rfl ?_)); simp only [Act.put, List.setIfInBounds_toArray, List.set_cons_succ, List.set_cons_zero, Int.toNat_natCast, Int.toNat_zero, Int.toNat_one, nth_zero, nth_one]) | fail | ((with_reducible refine m_pure ?_); refine run_pure rfl rfl (fun K hK => ?_); go_simp; refine hK _ ?_; clear hK K))
                  refine sched_nil ?_
                  simp only [NoPanic]
                  go_wp2_with (fail)
                  go_roundw
                  case rel => exact ⟨1, by omega, by go_num, by rw [HTO.out, HA.out, HE.out, HS.out]; rfl, (hS.sub (by repeat (first | exact List.Sublist.refl _ | apply List.Sublist.cons_cons | apply List.Sublist.cons | exact List.nil_sublist _)))⟩
                  case measure => simp [intOf]; omega
                · have hk1 : decide (0 < k) = true := by simp; omega
                  have HWK : Hid (IntKind.i64.wrap ((k : Int) - 1) = ((k - 1 : Nat) : Int)) := by unfold Hid; rw [IntKind.wrap_i64]; omega
                  rcases badS_cases (N := N) (k := k) (by omega) with ⟨HB, e1⟩ | ⟨HB, e1, e2⟩ | ⟨HB, e1, e2, e3⟩ | ⟨HB, e1, e2, e3⟩
                  all_goals
                    refine wp_region_sched [.pure 0, .pure 1, .pure 2, .pure 3, .read 4, .pure 5, .pure 6, .pure 7, .pure 8, .read 9, .pure 10, .read 11, .pure 12, .pure 13, .pure 14, .read 15, .pure 16, .pure 17, .pure 18, .pure 19, .read 20, .pure 21, .read 22, .pure 23, .pure 24, .pure 25, .read 26, .pure 27, .pure 28, .pure 29, .pure 30, .read 31, .pure 32, .read 33, .pure 34, .pure 35, .pure 36, .pure 37] [] (fun w' => Heap w w' _) (by kernel_rfl) (by kernel_rfl) hS.drew (fun w1 hS => ?_)
                    repeat (first | ((first | ((with_reducible refine m_pure ?_); refine skip_pure rfl rfl ?_) | ((with_reducible refine m_read ?_); refine skip_read rfl rfl ?_)); simp only [Act.put, List.setIfInBounds_toArray, List.set_cons_succ, List.set_cons_zero, Int.toNat_natCast, Int.toNat_zero, Int.toNat_one, nth_zero, nth_one]) | rw [HWK.out] | ((with_reducible refine m_pure ?_); refine sched_any rfl rfl (any_index_tri (T := 23) Try.underlying23 Try.sizeOf55 rfl rfl (by with_reducible assumption) (by omega) (by omega) (fun _ _ _ => ?_)); simp only [Act.put, List.setIfInBounds_toArray, List.set_cons_succ, List.set_cons_zero, Int.toNat_natCast, Int.toNat_zero, Int.toNat_one, nth_zero, nth_one]) | ((with_reducible refine m_read ?_); refine sched_of rfl rfl (stp_load_blk (T := 23) 1 Try.isAgg23 rfl rfl rfl ?_); simp only [Act.put, List.setIfInBounds_toArray, List.set_cons_succ, List.set_cons_zero, Int.toNat_natCast, Int.toNat_zero, Int.toNat_one, nth_zero, nth_one]) | ((with_reducible refine m_read ?_); refine sched_of rfl rfl (stp_load_blk (T := 3) 2 Try.isAgg3 rfl rfl rfl ?_); simp only [Act.put, List.setIfInBounds_toArray, List.set_cons_succ, List.set_cons_zero, Int.toNat_natCast, Int.toNat_zero, Int.toNat_one, nth_zero, nth_one]) | ((with_reducible refine m_read ?_); refine sched_of rfl rfl (stp_load (T := 3) Try.isAgg3 rfl (by with_reducible assumption) (by simp) rfl ?_); simp only [Act.put, List.setIfInBounds_toArray, List.set_cons_succ, List.set_cons_zero, Int.toNat_natCast, Int.toNat_zero, Int.toNat_one, nth_zero, nth_one]) | ((with_reducible refine m_read ?_); refine sched_of rfl rfl (stp_loadj (T := 3) 1 Try.isAgg3 rfl (by with_reducible assumption) (by simp) rfl ?_); simp only [Act.put, List.setIfInBounds_toArray, List.set_cons_succ, List.set_cons_zero, Int.toNat_natCast, Int.toNat_zero, Int.toNat_one, nth_zero, nth_one]) | ((with_reducible refine m_pure ?_); refine run_pure rfl rfl (fun K hK => ?_); go_simp; refine hK _ ?_; clear hK K))
                    refine sched_nil ?_
                    simp only [NoPanic]
                    go_wp2_with (fail)
                  · go_ret
                    refine ⟨?_, hS.toBelow (by simp)⟩
                    have h1 : badTo W.length N N.length = true := badTo_mono (show k + 1 ≤ N.length by omega) (by rw [HTO.out, HB.out]; simp)
                    rw [HV.out, h1]; simp
                  · go_roundw
                    case rel => exact ⟨k + 1, by omega, by go_num, by rw [HTO.out, HA.out, HE.out, HB.out]; rfl, (hS.sub (by repeat (first | exact List.Sublist.refl _ | apply List.Sublist.cons_cons | apply List.Sublist.cons | exact List.nil_sublist _)))⟩
                    case measure => simp [intOf]; omega
                  · go_ret
                    refine ⟨?_, hS.toBelow (by simp)⟩
                    have h1 : badTo W.length N N.length = true := badTo_mono (show k + 1 ≤ N.length by omega) (by rw [HTO.out, HB.out]; simp)
                    rw [HV.out, h1]; simp
                  · go_roundw
                    case rel => exact ⟨k + 1, by omega, by go_num, by rw [HTO.out, HA.out, HE.out, HB.out]; rfl, (hS.sub (by repeat (first | exact List.Sublist.refl _ | apply List.Sublist.cons_cons | apply List.Sublist.cons | exact List.nil_sublist _)))⟩
                    case measure => simp [intOf]; omega
            · obtain rfl : k = N.length := by omega
              have HA := Lib.hid hA
              clear hA
              go_wp2_with (first | ((with_reducible refine g_load (T := 23) ?_); refine seq_of hS rfl (stp_load_blk (T := 23) 1 Try.isAgg23 rfl rfl rfl ?_); simp only [Act.put, List.setIfInBounds_toArray, List.set_cons_succ, List.set_cons_zero, Int.toNat_natCast, Int.toNat_zero, Int.toNat_one, nth_zero, nth_one]))
              go_ret
              exact ⟨by rw [HV.out, HA.out, HW.out]; rfl, hS.toBelow (by simp)⟩
end Go.Proofs.Ytdibpfbibgicaaa
