/- V2: rank.Valid. -/
import Derived.Test.YtdibpfbibgicaaaV1
set_option linter.unusedVariables false
set_option linter.unusedSimpArgs false
namespace Go.Hp
open Go
theorem wpList_unwanted {P : Program} {ops : Array Oper} {Q : Exit → Act → World → Prop} {rest : List Oper} {dst : Option Tmp} {op : Op} {ty : TypeId} {pos : String} {aft : Array Edge} {g : Option (Nat × Bool)} {a : Act} {w : World} (hg : Region.wanted ⟨dst, op, ty, pos, aft, g⟩ (yielded ops a.tmps) = false) (h : wpList P ops Q rest (a.put dst undef) w) : wpList P ops Q (⟨dst, op, ty, pos, aft, g⟩ :: rest) a w :=
  wpList_step fun K hK => by rw [if_neg (by simp [hg])]; exact hK _ _ h
end Go.Hp
namespace Go.Proofs.Ytdibpfbibgicaaa
open Go.RowKit Go.Hp

def badE (n : Nat) (e : Tri) : Bool := decide (e.1 < 0) || decide (e.2.1 ≤ e.1) || decide ((n : Int) ≤ e.2.1) || decide (e.2.2 < 1) || decide (1099511627776 < e.2.2)
def badS (N : List Tri) (k : Nat) : Bool := decide (0 < k) && !lt2 (nth tz N (k - 1)).1 (nth tz N (k - 1)).2.1 (nth tz N k).1 (nth tz N k).2.1
def badTo (n : Nat) (N : List Tri) : Nat → Bool
  | 0 => false
  | k + 1 => badTo n N k || badE n (nth tz N k) || badS N k
/-- What rank.Valid answers: 0, 1 (ErrArg), 4 (ErrLimit). -/
def validN (W : List Int) (N : List Tri) : Nat :=
  if 4096 < W.length ∨ 16384 < N.length then 4 else if W.any bad1 || badTo W.length N N.length then 1 else 0

theorem badTo_mono {n : Nat} {N : List Tri} {k m : Nat} (h : k ≤ m) (hb : badTo n N k = true) : badTo n N m = true := by
  induction m with
  | zero => obtain rfl : k = 0 := by omega
            exact hb
  | succ m ih =>
    by_cases h1 : k = m + 1
    · subst h1; exact hb
    · simp only [badTo, ih (by omega), Bool.true_or]

theorem badE_cases (n : Nat) (e : Tri) :
    (Hid (badE n e = true) ∧ decide (e.1 < 0) = true) ∨
    (Hid (badE n e = true) ∧ decide (e.1 < 0) = false ∧ decide (e.2.1 ≤ e.1) = true) ∨
    (Hid (badE n e = true) ∧ decide (e.1 < 0) = false ∧ decide (e.2.1 ≤ e.1) = false ∧ decide ((n : Int) ≤ e.2.1) = true) ∨
    (Hid (badE n e = true) ∧ decide (e.1 < 0) = false ∧ decide (e.2.1 ≤ e.1) = false ∧ decide ((n : Int) ≤ e.2.1) = false ∧ decide (e.2.2 < 1) = true) ∨
    (Hid (badE n e = true) ∧ decide (e.1 < 0) = false ∧ decide (e.2.1 ≤ e.1) = false ∧ decide ((n : Int) ≤ e.2.1) = false ∧ decide (e.2.2 < 1) = false ∧ decide (1099511627776 < e.2.2) = true) ∨
    (Hid (badE n e = false) ∧ decide (e.1 < 0) = false ∧ decide (e.2.1 ≤ e.1) = false ∧ decide ((n : Int) ≤ e.2.1) = false ∧ decide (e.2.2 < 1) = false ∧ decide (1099511627776 < e.2.2) = false) := by
  unfold Hid badE
  cases decide (e.1 < 0) <;> cases decide (e.2.1 ≤ e.1) <;> cases decide ((n : Int) ≤ e.2.1) <;> cases decide (e.2.2 < 1) <;> cases decide (1099511627776 < e.2.2) <;> simp

set_option maxHeartbeats 4000000 in
set_option maxRecDepth 100000 in
theorem rvalid_any (gv : Value) (W : List Int) (N : List Tri) (w : World) (hg : GraphAt w (Old w) gv W N) :
    Calls Try.prog 24 #[gv] w fun e w' => e = .returned (.int .i64 (validN W N)) ∧ Below w.heap.size w w' := by
  obtain ⟨aw, cw, an, cn, rfl, hw, hnn⟩ := hg
  have hS := Heap.start w
  have hle := hw.le
  have hle2 := hnn.le
  by_cases h1 : 4096 < W.length
  · have f1 : decide ((4096 : Int) < (W.length : Int)) = true := by simp; omega
    have HV : Hid (validN W N = 4) := by unfold Hid validN; rw [if_pos (.inl h1)]
    clear h1
    go_enter Try.func24, Try.ntmps24
    go_wp2_with (first | ((with_reducible refine g_box (T := 34) ?_); refine seq_box (T := 34) (v := .agg _) hS rfl (fun bg wbg hS => ?_); simp only [Act.put, List.setIfInBounds_toArray, List.set_cons_succ, List.set_cons_zero, Int.toNat_natCast, Int.toNat_zero, Int.toNat_one, nth_zero, nth_one]; simp only [List.cons_append, List.nil_append, List.set_cons_succ, List.set_cons_zero, Value.cells, iv_snoc, tv_snoc] at hS) | ((with_reducible refine g_load (T := 22) ?_); refine seq_of hS rfl (stp_load_blk (T := 22) 1 Try.isAgg22 rfl rfl rfl ?_); simp only [Act.put, List.setIfInBounds_toArray, List.set_cons_succ, List.set_cons_zero, Int.toNat_natCast, Int.toNat_zero, Int.toNat_one, nth_zero, nth_one]) | ((with_reducible refine g_load (T := 23) ?_); refine seq_of hS rfl (stp_load_blk (T := 23) 1 Try.isAgg23 rfl rfl rfl ?_); simp only [Act.put, List.setIfInBounds_toArray, List.set_cons_succ, List.set_cons_zero, Int.toNat_natCast, Int.toNat_zero, Int.toNat_one, nth_zero, nth_one]))
    go_ret
    exact ⟨by rw [HV.out]; rfl, hS.toBelow (by simp)⟩
  · have f1 : decide ((4096 : Int) < (W.length : Int)) = false := by simp; omega
    by_cases h2 : 16384 < N.length
    · have f2 : decide ((16384 : Int) < (N.length : Int)) = true := by simp; omega
      have HV : Hid (validN W N = 4) := by unfold Hid validN; rw [if_pos (.inr h2)]
      clear h1 h2
      go_enter Try.func24, Try.ntmps24
      go_wp2_with (first | ((with_reducible refine g_box (T := 34) ?_); refine seq_box (T := 34) (v := .agg _) hS rfl (fun bg wbg hS => ?_); simp only [Act.put, List.setIfInBounds_toArray, List.set_cons_succ, List.set_cons_zero, Int.toNat_natCast, Int.toNat_zero, Int.toNat_one, nth_zero, nth_one]; simp only [List.cons_append, List.nil_append, List.set_cons_succ, List.set_cons_zero, Value.cells, iv_snoc, tv_snoc] at hS) | ((with_reducible refine g_load (T := 22) ?_); refine seq_of hS rfl (stp_load_blk (T := 22) 1 Try.isAgg22 rfl rfl rfl ?_); simp only [Act.put, List.setIfInBounds_toArray, List.set_cons_succ, List.set_cons_zero, Int.toNat_natCast, Int.toNat_zero, Int.toNat_one, nth_zero, nth_one]) | ((with_reducible refine g_load (T := 23) ?_); refine seq_of hS rfl (stp_load_blk (T := 23) 1 Try.isAgg23 rfl rfl rfl ?_); simp only [Act.put, List.setIfInBounds_toArray, List.set_cons_succ, List.set_cons_zero, Int.toNat_natCast, Int.toNat_zero, Int.toNat_one, nth_zero, nth_one]))
      go_ret
      exact ⟨by rw [HV.out]; rfl, hS.toBelow (by simp)⟩
    · have f2 : decide ((16384 : Int) < (N.length : Int)) = false := by simp; omega
      have hV0 : validN W N = if W.any bad1 || badTo W.length N N.length then 1 else 0 := by unfold validN; rw [if_neg (by omega)]
      have h3 : W.length ≤ 4096 := by omega
      have h4 : N.length ≤ 16384 := by omega
      clear h1 h2
      cases hb : W.any bad1 with
      | true =>
        have HV : Hid (validN W N = 1) := by unfold Hid; rw [hV0, hb]; rfl
        have HB := Lib.hid hb
        clear hb hV0
        go_enter Try.func24, Try.ntmps24
        go_wp2_with (first | ((with_reducible refine g_box (T := 34) ?_); refine seq_box (T := 34) (v := .agg _) hS rfl (fun bg wbg hS => ?_); simp only [Act.put, List.setIfInBounds_toArray, List.set_cons_succ, List.set_cons_zero, Int.toNat_natCast, Int.toNat_zero, Int.toNat_one, nth_zero, nth_one]; simp only [List.cons_append, List.nil_append, List.set_cons_succ, List.set_cons_zero, Value.cells, iv_snoc, tv_snoc] at hS) | ((with_reducible refine g_load (T := 22) ?_); refine seq_of hS rfl (stp_load_blk (T := 22) 1 Try.isAgg22 rfl rfl rfl ?_); simp only [Act.put, List.setIfInBounds_toArray, List.set_cons_succ, List.set_cons_zero, Int.toNat_natCast, Int.toNat_zero, Int.toNat_one, nth_zero, nth_one]) | ((with_reducible refine g_load (T := 23) ?_); refine seq_of hS rfl (stp_load_blk (T := 23) 1 Try.isAgg23 rfl rfl rfl ?_); simp only [Act.put, List.setIfInBounds_toArray, List.set_cons_succ, List.set_cons_zero, Int.toNat_natCast, Int.toNat_zero, Int.toNat_one, nth_zero, nth_one]) | (go_at_call 47; refine (containsf_any _ _ _ _ _ (hw.arg hS (by simp))).mono ?_; rintro e w' ⟨rfl, hB⟩; have hS := hS.below hB; rw [HB.out]))
        go_ret
        exact ⟨by rw [HV.out]; rfl, hS.toBelow (by simp)⟩
      | false =>
        rw [hb, Bool.false_or] at hV0
        have HV := Lib.hid hV0
        have HB := Lib.hid hb
        clear hb hV0
        go_enter Try.func24, Try.ntmps24
        go_wp2_with (first | ((with_reducible refine g_box (T := 34) ?_); refine seq_box (T := 34) (v := .agg _) hS rfl (fun bg wbg hS => ?_); simp only [Act.put, List.setIfInBounds_toArray, List.set_cons_succ, List.set_cons_zero, Int.toNat_natCast, Int.toNat_zero, Int.toNat_one, nth_zero, nth_one]; simp only [List.cons_append, List.nil_append, List.set_cons_succ, List.set_cons_zero, Value.cells, iv_snoc, tv_snoc] at hS) | ((with_reducible refine g_load (T := 22) ?_); refine seq_of hS rfl (stp_load_blk (T := 22) 1 Try.isAgg22 rfl rfl rfl ?_); simp only [Act.put, List.setIfInBounds_toArray, List.set_cons_succ, List.set_cons_zero, Int.toNat_natCast, Int.toNat_zero, Int.toNat_one, nth_zero, nth_one]) | ((with_reducible refine g_load (T := 23) ?_); refine seq_of hS rfl (stp_load_blk (T := 23) 1 Try.isAgg23 rfl rfl rfl ?_); simp only [Act.put, List.setIfInBounds_toArray, List.set_cons_succ, List.set_cons_zero, Int.toNat_natCast, Int.toNat_zero, Int.toNat_one, nth_zero, nth_one]) | (go_at_call 47; refine (containsf_any _ _ _ _ _ (hw.arg hS (by simp))).mono ?_; rintro e w' ⟨rfl, hB⟩; have hS := hS.below hB; rw [HB.out]))
        simp only [List.getElem_toArray, List.getElem_cons_zero, List.getElem_cons_succ]
        go_loopw [21] (fun i wr => ∃ k : Nat, k ≤ N.length ∧ i = .int .i64 k ∧ badTo W.length N k = false ∧ Heap w wr [.frz (Old w) w, .blk bg (.cells #[.slice aw W.length cw, .slice an N.length cn] 34 (0, 0))]) (fun i _ => N.length - (intOf i).toNat)
        case atStart => exact ⟨0, by omega, rfl, rfl, hS⟩
        case round =>
          clear hS
          obtain ⟨k, hk, rfl, hA, hS⟩ := hrel
          by_cases hlt : k < N.length
          · have hto : badTo W.length N (k + 1) = (badTo W.length N k || badE W.length (nth tz N k) || badS N k) := rfl
            have HA := Lib.hid hA
            have HTO := Lib.hid hto
            clear hA hto
            rcases badE_cases W.length (nth tz N k) with ⟨HE, g1⟩ | ⟨HE, g1, g2⟩ | ⟨HE, g1, g2, g3⟩ | ⟨HE, g1, g2, g3, g4⟩ | ⟨HE, g1, g2, g3, g4, g5⟩ | ⟨HE, g1, g2, g3, g4, g5⟩
            iterate 5
              · go_wp2_with (first | ((with_reducible refine g_idx (T := 23) ?_); refine seq_any rfl (any_index_tri (T := 23) Try.underlying23 Try.sizeOf55 rfl rfl (by with_reducible assumption) (by omega) (by omega) (fun _ _ _ => ?_)); simp only [Act.put, List.setIfInBounds_toArray, List.set_cons_succ, List.set_cons_zero, Int.toNat_natCast, Int.toNat_zero, Int.toNat_one, nth_zero, nth_one]) | ((with_reducible refine g_load (T := 55) ?_); refine seq_of hS rfl (stp_loadk (T := 55) Try.isAgg55 Try.sizeOf55 rfl (by with_reducible assumption) (by simp) rfl ?_); simp only [Act.put, List.setIfInBounds_toArray, List.set_cons_succ, List.set_cons_zero, Int.toNat_natCast, Int.toNat_zero, Int.toNat_one, nth_zero, nth_one]) | ((with_reducible refine g_alloc (T := 55) ?_); refine seq_alloc (T := 55) hS Try.zeroValue55 (fun b3 wb3 hS => ?_); simp only [Act.put, List.setIfInBounds_toArray, List.set_cons_succ, List.set_cons_zero, Int.toNat_natCast, Int.toNat_zero, Int.toNat_one, nth_zero, nth_one]; simp only [List.cons_append, List.nil_append, List.set_cons_succ, List.set_cons_zero, Value.cells, iv_snoc, tv_snoc] at hS) | ((with_reducible refine g_store (T := 55) ?_); refine seq_store (T := 55) (u := .agg _) 2 hS rfl rfl rfl Try.sizeOf55 (by simp [Value.cells, Value.oneCell']) (by simp [Value.cells]) (fun _ hS => ?_); simp only [Act.put, List.setIfInBounds_toArray, List.set_cons_succ, List.set_cons_zero, Int.toNat_natCast, Int.toNat_zero, Int.toNat_one, nth_zero, nth_one]; simp only [List.cons_append, List.nil_append, List.set_cons_succ, List.set_cons_zero, Value.cells, iv_snoc, tv_snoc] at hS; simp only [List.take_zero, List.nil_append, List.append_nil, List.drop_succ_cons, List.drop_zero, List.drop_nil, List.take_succ_cons, List.cons_append, List.size_toArray, List.length_cons, List.length_nil, Nat.reduceAdd] at hS) | ((with_reducible refine g_load (T := 3) ?_); refine seq_of hS rfl (stp_load_blk (T := 3) 2 Try.isAgg3 rfl rfl rfl ?_); simp only [Act.put, List.setIfInBounds_toArray, List.set_cons_succ, List.set_cons_zero, Int.toNat_natCast, Int.toNat_zero, Int.toNat_one, nth_zero, nth_one]) | ((with_reducible refine g_load (T := 22) ?_); refine seq_of hS rfl (stp_load_blk (T := 22) 1 Try.isAgg22 rfl rfl rfl ?_); simp only [Act.put, List.setIfInBounds_toArray, List.set_cons_succ, List.set_cons_zero, Int.toNat_natCast, Int.toNat_zero, Int.toNat_one, nth_zero, nth_one]))
                go_ret
                refine ⟨?_, hS.toBelow (by simp)⟩
                have h1 : badTo W.length N N.length = true := badTo_mono (show k + 1 ≤ N.length by omega) (by rw [HTO.out, HE.out]; simp)
                rw [HV.out, h1]; rfl
            · go_wp2_with (first | ((with_reducible refine g_idx (T := 23) ?_); refine seq_any rfl (any_index_tri (T := 23) Try.underlying23 Try.sizeOf55 rfl rfl (by with_reducible assumption) (by omega) (by omega) (fun _ _ _ => ?_)); simp only [Act.put, List.setIfInBounds_toArray, List.set_cons_succ, List.set_cons_zero, Int.toNat_natCast, Int.toNat_zero, Int.toNat_one, nth_zero, nth_one]) | ((with_reducible refine g_load (T := 55) ?_); refine seq_of hS rfl (stp_loadk (T := 55) Try.isAgg55 Try.sizeOf55 rfl (by with_reducible assumption) (by simp) rfl ?_); simp only [Act.put, List.setIfInBounds_toArray, List.set_cons_succ, List.set_cons_zero, Int.toNat_natCast, Int.toNat_zero, Int.toNat_one, nth_zero, nth_one]) | ((with_reducible refine g_alloc (T := 55) ?_); refine seq_alloc (T := 55) hS Try.zeroValue55 (fun b3 wb3 hS => ?_); simp only [Act.put, List.setIfInBounds_toArray, List.set_cons_succ, List.set_cons_zero, Int.toNat_natCast, Int.toNat_zero, Int.toNat_one, nth_zero, nth_one]; simp only [List.cons_append, List.nil_append, List.set_cons_succ, List.set_cons_zero, Value.cells, iv_snoc, tv_snoc] at hS) | ((with_reducible refine g_store (T := 55) ?_); refine seq_store (T := 55) (u := .agg _) 2 hS rfl rfl rfl Try.sizeOf55 (by simp [Value.cells, Value.oneCell']) (by simp [Value.cells]) (fun _ hS => ?_); simp only [Act.put, List.setIfInBounds_toArray, List.set_cons_succ, List.set_cons_zero, Int.toNat_natCast, Int.toNat_zero, Int.toNat_one, nth_zero, nth_one]; simp only [List.cons_append, List.nil_append, List.set_cons_succ, List.set_cons_zero, Value.cells, iv_snoc, tv_snoc] at hS; simp only [List.take_zero, List.nil_append, List.append_nil, List.drop_succ_cons, List.drop_zero, List.drop_nil, List.take_succ_cons, List.cons_append, List.size_toArray, List.length_cons, List.length_nil, Nat.reduceAdd] at hS) | ((with_reducible refine g_load (T := 3) ?_); refine seq_of hS rfl (stp_load_blk (T := 3) 2 Try.isAgg3 rfl rfl rfl ?_); simp only [Act.put, List.setIfInBounds_toArray, List.set_cons_succ, List.set_cons_zero, Int.toNat_natCast, Int.toNat_zero, Int.toNat_one, nth_zero, nth_one]) | ((with_reducible refine g_load (T := 22) ?_); refine seq_of hS rfl (stp_load_blk (T := 22) 1 Try.isAgg22 rfl rfl rfl ?_); simp only [Act.put, List.setIfInBounds_toArray, List.set_cons_succ, List.set_cons_zero, Int.toNat_natCast, Int.toNat_zero, Int.toNat_one, nth_zero, nth_one]))
              by_cases hk0 : k = 0
              · subst hk0
                have HS : Hid (badS N 0 = false) := rfl
                refine wp_region_sched [.pure 0, .pure 1, .pure 2, .pure 3, .read 4, .pure 5, .pure 6, .pure 7, .pure 8, .pure 9, .ext 10, .pure 11, .pure 12] [] (fun w' => Heap w w' _) (by kernel_rfl) (by kernel_rfl) hS.drew (fun w1 hS => ?_)
                repeat (first | ((first | ((with_reducible refine m_pure ?_); refine skip_pure rfl rfl ?_) | ((with_reducible refine m_read ?_); refine skip_read rfl rfl ?_)); simp only [Act.put, List.setIfInBounds_toArray, List.set_cons_succ, List.set_cons_zero, Int.toNat_natCast, Int.toNat_zero, Int.toNat_one, nth_zero, nth_one]) | fail | ((with_reducible refine m_pure ?_); refine run_pure rfl rfl (fun K hK => ?_); go_simp; refine hK _ ?_; clear hK K))
                refine ext_at rfl ?_
                refine wpList_unwanted rfl ?_
                simp only [Act.put, List.setIfInBounds_toArray, List.set_cons_succ, List.set_cons_zero, Int.toNat_natCast, Int.toNat_zero, Int.toNat_one, nth_zero, nth_one]
                refine ext_end (hS.sub (by repeat (first | exact List.Sublist.refl _ | apply List.Sublist.cons_cons | apply List.Sublist.cons | exact List.nil_sublist _))) ?_
                repeat (first | ((first | ((with_reducible refine m_pure ?_); refine skip_pure rfl rfl ?_) | ((with_reducible refine m_read ?_); refine skip_read rfl rfl ?_)); simp only [Act.put, List.setIfInBounds_toArray, List.set_cons_succ, List.set_cons_zero, Int.toNat_natCast, Int.toNat_zero, Int.toNat_one, nth_zero, nth_one]) | fail | ((with_reducible refine m_pure ?_); refine run_pure rfl rfl (fun K hK => ?_); go_simp; refine hK _ ?_; clear hK K))
                refine sched_nil ?_
                simp only [NoPanic]
                go_wp2_with (fail)
                go_roundw
                case rel => exact ⟨1, by omega, by go_num, by rw [HTO.out, HA.out, HE.out, HS.out]; rfl, (hS.sub (by repeat (first | exact List.Sublist.refl _ | apply List.Sublist.cons_cons | apply List.Sublist.cons | exact List.nil_sublist _)))⟩
                case measure => simp [intOf]; omega
              · have hk1 : decide (0 < k) = true := by simp; omega
                refine wp_region_sched [.pure 0, .pure 1, .pure 2, .pure 3, .read 4, .pure 5, .pure 6, .pure 7, .pure 8, .pure 9, .ext 10, .pure 11, .pure 12] [] (fun w' => Heap w w' _) (by kernel_rfl) (by kernel_rfl) hS.drew (fun w1 hS => ?_)
                repeat (first | ((first | ((with_reducible refine m_pure ?_); refine skip_pure rfl rfl ?_) | ((with_reducible refine m_read ?_); refine skip_read rfl rfl ?_)); simp only [Act.put, List.setIfInBounds_toArray, List.set_cons_succ, List.set_cons_zero, Int.toNat_natCast, Int.toNat_zero, Int.toNat_one, nth_zero, nth_one]) | ((with_reducible refine m_read ?_); refine sched_of rfl rfl (stp_load_blk (T := 23) 1 Try.isAgg23 rfl rfl rfl ?_); simp only [Act.put, List.setIfInBounds_toArray, List.set_cons_succ, List.set_cons_zero, Int.toNat_natCast, Int.toNat_zero, Int.toNat_one, nth_zero, nth_one]) | ((with_reducible refine m_pure ?_); refine run_pure rfl rfl (fun K hK => ?_); go_simp; refine hK _ ?_; clear hK K))
                simp only [show IntKind.i64.wrap ((k : Int) - 1) = ((k - 1 : Nat) : Int) by rw [IntKind.wrap_i64]; omega]
                ((with_reducible refine m_pure ?_); refine sched_any rfl rfl (any_index_tri (T := 23) Try.underlying23 Try.sizeOf55 rfl rfl (by with_reducible assumption) (by omega) (by omega) (fun bq oq hcq => ?_)); simp only [Act.put, List.setIfInBounds_toArray, List.set_cons_succ, List.set_cons_zero, Int.toNat_natCast, Int.toNat_zero, Int.toNat_one, nth_zero, nth_one])
                repeat (first | ((first | ((with_reducible refine m_pure ?_); refine skip_pure rfl rfl ?_) | ((with_reducible refine m_read ?_); refine skip_read rfl rfl ?_)); simp only [Act.put, List.setIfInBounds_toArray, List.set_cons_succ, List.set_cons_zero, Int.toNat_natCast, Int.toNat_zero, Int.toNat_one, nth_zero, nth_one]) | fail | ((with_reducible refine m_pure ?_); refine run_pure rfl rfl (fun K hK => ?_); go_simp; refine hK _ ?_; clear hK K))
                have hx0 : w1.cell? ⟨bq, oq, none⟩ = some (.int .i64 (nth tz N (k - 1)).1) := by simpa using (hcq.later hS (by simp)).cell 0 _ rfl
                have hx1 : w1.cell? ⟨bq, oq + 1, none⟩ = some (.int .i64 (nth tz N (k - 1)).2.1) := (hcq.later hS (by simp)).cell 1 _ rfl
                have hy0 : w1.cell? ⟨b3, 0, none⟩ = some (.int .i64 (nth tz N k).1) := by rw [cell_of_row w1 b3 0 _ _ _ (hS.blk (List.mem_of_getElem? (i := 2) rfl))]; rfl
                have hy1 : w1.cell? ⟨b3, 0 + 1, none⟩ = some (.int .i64 (nth tz N k).2.1) := by rw [cell_of_row w1 b3 (0 + 1) _ _ _ (hS.blk (List.mem_of_getElem? (i := 2) rfl))]; rfl
                have HX0 := Lib.hid hx0
                have HX1 := Lib.hid hx1
                have HY0 := Lib.hid hy0
                have HY1 := Lib.hid hy1
                clear hx0 hx1 hy0 hy1
                have hbs : badS N k = !lt2 (nth tz N (k - 1)).1 (nth tz N (k - 1)).2.1 (nth tz N k).1 (nth tz N k).2.1 := by unfold badS; rw [show decide (0 < k) = true from hk1, Bool.true_and]
                cases hl : lt2 (nth tz N (k - 1)).1 (nth tz N (k - 1)).2.1 (nth tz N k).1 (nth tz N k).2.1
                all_goals
                  rw [hl] at hbs
                  have HBS := Lib.hid hbs
                  have HLT := Lib.hid hl
                  clear hbs hl
                  refine ext_at rfl ?_
                  go_wp2_with (fail)
                  refine (compare2_any _ _ _ _ _ _ _ _ _ _ _ HX0.out HX1.out HY0.out HY1.out).mono ?_
                  rintro e w' ⟨⟨r, rfl, hr1, hr2, hr3⟩, rfl⟩
                  simp only []
                  go_step
                  rw [HLT.out] at hr3
                  simp only [Bool.not_true, Bool.not_false] at hr3
                  refine ext_end (hS.sub (by repeat (first | exact List.Sublist.refl _ | apply List.Sublist.cons_cons | apply List.Sublist.cons | exact List.nil_sublist _))) ?_
                  repeat (first | ((first | ((with_reducible refine m_pure ?_); refine skip_pure rfl rfl ?_) | ((with_reducible refine m_read ?_); refine skip_read rfl rfl ?_)); simp only [Act.put, List.setIfInBounds_toArray, List.set_cons_succ, List.set_cons_zero, Int.toNat_natCast, Int.toNat_zero, Int.toNat_one, nth_zero, nth_one]) | fail | ((with_reducible refine m_pure ?_); refine run_pure rfl rfl (fun K hK => ?_); go_simp; refine hK _ ?_; clear hK K))
                  refine sched_nil ?_
                  simp only [NoPanic]
                  go_wp2_with (fail)
                · go_ret
                  refine ⟨?_, hS.toBelow (by simp)⟩
                  have h1 : badTo W.length N N.length = true := badTo_mono (show k + 1 ≤ N.length by omega) (by rw [HTO.out, HBS.out]; simp)
                  rw [HV.out, h1]; rfl
                · go_roundw
                  case rel => exact ⟨k + 1, by omega, by go_num, by rw [HTO.out, HA.out, HE.out, HBS.out]; rfl, (hS.sub (by repeat (first | exact List.Sublist.refl _ | apply List.Sublist.cons_cons | apply List.Sublist.cons | exact List.nil_sublist _)))⟩
                  case measure => simp [intOf]; omega
          · obtain rfl : k = N.length := by omega
            have HA := Lib.hid hA
            clear hA
            go_wp2
            go_ret
            exact ⟨by rw [HV.out, HA.out]; rfl, hS.toBelow (by simp)⟩
end Go.Proofs.Ytdibpfbibgicaaa
