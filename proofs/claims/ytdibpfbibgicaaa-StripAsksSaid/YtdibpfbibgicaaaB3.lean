/- B3: meresmanref22.At at one list of groups. -/
import Derived.Test.YtdibpfbibgicaaaC2
import Derived.Test.YtdibpfbibgicaaaR1
set_option linter.unusedVariables false
set_option linter.unusedSimpArgs false
namespace Go.Proofs.Ytdibpfbibgicaaa
open Go.RowKit Go.Hp

set_option maxHeartbeats 1000000 in
set_option maxRecDepth 100000 in
theorem listed_ok (gv : Value) (a : Option Addr) (n c : Nat) (W : List Int) (N : List Tri) (l : List Nat) (w : World) (hg : GraphAt w (Old w) gv W N) (hx : Nats w (Old w) (.slice a n c) l) (hl : l.length = W.length) (hle : W.length ≤ 4096) (hok : ListOk l) :
    Calls Try.prog 42 #[gv, .slice a n c] w fun e w' => e = .returned (.int .i64 0) ∧ Below w.heap.size w w' := by
  have hn := hx.len
  subst hn
  obtain ⟨aw, cw, an, cn, rfl, hw, hnn⟩ := hg
  have hS := Heap.start w
  have f1 : (((l.length : Nat) : Int) != (W.length : Int)) = false := by simp; omega
  have hle2 : l.length ≤ 4096 := by omega
  clear hl
  go_enter Try.func42, Try.ntmps42
  go_wp2_with (first | ((with_reducible refine g_box (T := 25) ?_); refine seq_box (T := 25) (v := .agg _) hS rfl (fun bg wbg hS => ?_); simp only [Act.put, List.setIfInBounds_toArray, List.set_cons_succ, List.set_cons_zero, Int.toNat_natCast, Int.toNat_zero, Int.toNat_one, nth_zero, nth_one]; simp only [List.cons_append, List.nil_append, List.set_cons_succ, List.set_cons_zero, Value.cells, iv_snoc, tv_snoc] at hS) | ((with_reducible refine g_load (T := 22) ?_); refine seq_of hS rfl (stp_load_blk (T := 22) 1 Try.isAgg22 rfl rfl rfl ?_); simp only [Act.put, List.setIfInBounds_toArray, List.set_cons_succ, List.set_cons_zero, Int.toNat_natCast, Int.toNat_zero, Int.toNat_one, nth_zero, nth_one]))
  simp only [List.getElem_toArray, List.getElem_cons_zero, List.getElem_cons_succ]
  go_loopw [5, 6] (fun mo i wr => ∃ k : Nat, k ≤ l.length ∧ i = .int .i64 k ∧ mo = .int .i64 (mxTo l k : Nat) ∧ Heap w wr [.frz (Old w) w]) (fun _ i _ => l.length - (intOf i).toNat)
  case atStart => exact ⟨0, by omega, rfl, rfl, (hS.sub (by repeat (first | exact List.Sublist.refl _ | apply List.Sublist.cons_cons | apply List.Sublist.cons | exact List.nil_sublist _)))⟩
  case round =>
    clear hS
    obtain ⟨k, hk, rfl, rfl, hS⟩ := hrel
    have hmk := mxTo_le hok k hk
    by_cases hlt : k < l.length
    · have hokk := hok k hlt
      have hst : max (mxTo l k : Int) (((nth 0 l k : Nat) : Int) + 1) = ((mxTo l (k + 1) : Nat) : Int) := by simp only [mxTo]; omega
      have f2 : decide (((nth 0 l k : Nat) : Int) < 0) = false := by simp
      have f3 : decide (mxTo l k < nth 0 l k) = false := by simp; omega
      have HST := Lib.hid hst
      clear hst
      go_wp2_with (first | ((with_reducible refine g_idx (T := 22) ?_); refine seq_any rfl (any_index_nat (T := 22) Try.underlying22 Try.sizeOf3 rfl rfl (by with_reducible assumption) (by omega) (by omega) (fun _ _ _ => ?_)); simp only [Act.put, List.setIfInBounds_toArray, List.set_cons_succ, List.set_cons_zero, Int.toNat_natCast, Int.toNat_zero, Int.toNat_one, nth_zero, nth_one]) | ((with_reducible refine g_load (T := 3) ?_); refine seq_of hS rfl (stp_load (T := 3) Try.isAgg3 rfl (by with_reducible assumption) (by simp) rfl ?_); simp only [Act.put, List.setIfInBounds_toArray, List.set_cons_succ, List.set_cons_zero, Int.toNat_natCast, Int.toNat_zero, Int.toNat_one, nth_zero, nth_one]))
      go_roundw
      case rel => exact ⟨k + 1, by omega, by go_num, by rw [← HST.out], hS⟩
      case measure => simp [intOf]; omega
    · obtain rfl : k = l.length := by omega
      go_wp2
      go_ret
      exact ⟨rfl, hS.toBelow (by simp)⟩

theorem over_weight {W : List Int} {N : List Tri} {of : List Nat} {i : Nat} (hi : i < (hds of).length) (h : 1099511627776 < weight W of (nth 0 (hds of) i)) : qOver W N of = true := by
  unfold qOver
  rw [Bool.or_eq_true]
  right
  refine List.any_eq_true.2 ⟨_, List.mem_map_of_mem (nth_mem 0 (hds of) i hi), by simpa using h⟩
theorem over_common {W : List Int} {N : List Tri} {of : List Nat} {i k : Nat} (hik : i < k) (hk : k < (hds of).length) (h : 1099511627776 < common N of (nth 0 (hds of) i) (nth 0 (hds of) k)) : qOver W N of = true := by
  unfold qOver
  rw [Bool.or_eq_true]
  left
  exact List.any_eq_true.2 ⟨_, mem_qN.2 ⟨i, k, hik, hk, by omega, rfl⟩, by simpa using h⟩
theorem over_none {W : List Int} {N : List Tri} {of : List Nat} (h1 : ∀ i, i < (hds of).length → weight W of (nth 0 (hds of) i) ≤ 1099511627776) (h2 : ∀ i k, i < k → k < (hds of).length → common N of (nth 0 (hds of) i) (nth 0 (hds of) k) ≤ 1099511627776) : qOver W N of = false := by
  unfold qOver
  rw [Bool.or_eq_false_iff, List.any_eq_false, List.any_eq_false]
  constructor
  · intro e he
    obtain ⟨i, k, hik, hk, _, rfl⟩ := mem_qN.1 he
    have := h2 i k hik hk
    simpa using this
  · intro x hx
    simp only [qW, List.mem_map] at hx
    obtain ⟨g, hg, rfl⟩ := hx
    obtain ⟨i, hi, rfl⟩ := List.mem_iff_getElem.1 hg
    have := h1 i hi
    rw [nth_eq 0 _ _ hi] at this
    simpa using this
theorem hds_take {of : List Nat} (k : Nat) : (List.range (k + 1)).filter (fun i => decide (nth 0 of i = i)) = (List.range k).filter (fun i => decide (nth 0 of i = i)) ++ if nth 0 of k = k then [k] else [] := by
  rw [List.range_succ, List.filter_append]
  congr 1
  by_cases h : nth 0 of k = k <;> simp [h]
theorem qW_take {W : List Int} {of : List Nat} {i : Nat} (hi : i < (hds of).length) : (qW W of).take (i + 1) = (qW W of).take i ++ [weight W of (nth 0 (hds of) i)] := by
  rw [take_snoc 0 _ i (by simpa [qW] using hi)]
  congr 2
  unfold qW
  rw [nth_eq 0 (List.map _ _) _ (by simpa using hi), List.getElem_map, nth_eq 0 _ _ hi]
theorem qcell_pos {N : List Tri} {of : List Nat} {i k : Nat} (h : i < k) (hc : 0 < common N of (nth 0 (hds of) i) (nth 0 (hds of) k)) : qcell N of i k = [((i : Int), (k : Int), common N of (nth 0 (hds of) i) (nth 0 (hds of) k))] := by
  unfold qcell; rw [if_pos ⟨h, hc⟩]
theorem qcell_zero {N : List Tri} {of : List Nat} {i k : Nat} (hc : ¬ 0 < common N of (nth 0 (hds of) i) (nth 0 (hds of) k)) : qcell N of i k = [] := by
  unfold qcell; rw [if_neg (fun h => hc h.2)]

set_option maxHeartbeats 4000000 in
set_option maxRecDepth 100000 in
theorem refat_any (gv : Value) (al : Option Addr) (n cl bc cc : Nat) (Tb : TypeId) (W : List Int) (N : List Tri) (of : List Nat) (w : World) (hg : GraphAt w (Old w) gv W N) (hv : VG W N) (hsm : W.length ≤ 64) (hgr : Gr W.length of) (hx : Nats w (Old w) (.slice al n cl) (idx of)) (hc : Fz w (Old w) bc (.cells #[.slice al n cl] Tb (0, 0)))
    (hrv : ∀ w, GraphAt w (Old w) gv W N → Calls Try.prog 11 #[gv] w fun e w' => e = .returned (.int .i64 0) ∧ Below w.heap.size w w') :
    Calls Try.prog 17 #[gv, .slice (some ⟨bc, 0, none⟩) 1 cc, .int .i64 0] w fun e w' => Below w.heap.size w w' ∧
      ((qOver W N of = true ∧ e = .returned (.tuple #[.agg #[.slice none 0 0, .slice none 0 0], .int .i64 4])) ∨ (qOver W N of = false ∧ ∃ gv', e = .returned (.tuple #[gv', .int .i64 0]) ∧ GraphAt w' (New w w') gv' (qW W of) (qN N of))) := by
  have hn := hx.len
  rw [idx_len, hgr.len] at hn
  subst hn
  have hil := idx_len of
  rw [hgr.len] at hil
  have hg' := hg
  obtain ⟨aw, cw, an, cn, rfl, hw, hnn⟩ := hg'
  have hS := (((Heap.start w).addNil 3 1).addNil 3 1).addNil 55 3
  have hle := hv.wlen
  have hle2 := hv.nlen
  have hok := listOk_idx hgr
  have HIL := Lib.hid hil
  have hol := hgr.len
  have HOL := Lib.hid hol
  have HRV := Lib.hid hrv
  clear hil hrv
  have hnam : ∀ w, Nats w (Old w) (.slice al W.length cl) (idx of) → Calls Try.prog 43 #[.slice al W.length cl] w fun e w' => ∃ a' c', e = .returned (.slice a' W.length c') ∧ Below w.heap.size w w' ∧ Nats w' (New w w') (.slice a' W.length c') of := by
    intro w h
    have := named_any al W.length cl of w h (by rw [hol]; exact hgr) (by omega)
    rw [hol] at this
    exact this
  have HNAM := Lib.hid hnam
  clear hnam
  go_enter Try.func17, Try.ntmps17
  repeat ((fail_if_success ((with_reducible refine g_box ?_))); go_step)
  ((with_reducible refine g_box (T := 25) ?_); refine seq_box (T := 25) (v := .agg _) hS rfl (fun b3 wb3 hS => ?_); simp only [Act.put, List.setIfInBounds_toArray, List.set_cons_succ, List.set_cons_zero, Int.toNat_natCast, Int.toNat_zero, Int.toNat_one, nth_zero, nth_one]; simp only [List.cons_append, List.nil_append, List.set_cons_succ, List.set_cons_zero, Value.cells, iv_snoc, tv_snoc] at hS)
  repeat ((fail_if_success ((with_reducible refine g_alloc ?_))); go_step)
  ((with_reducible refine g_alloc (T := 25) ?_); refine seq_alloc (T := 25) hS Try.zeroValue25 (fun b6 wb6 hS => ?_); simp only [Act.put, List.setIfInBounds_toArray, List.set_cons_succ, List.set_cons_zero, Int.toNat_natCast, Int.toNat_zero, Int.toNat_one, nth_zero, nth_one]; simp only [List.cons_append, List.nil_append, List.set_cons_succ, List.set_cons_zero, Value.cells, iv_snoc, tv_snoc] at hS)
  go_wp2_with (first | ((with_reducible refine g_load (T := 25) ?_); refine seq_of hS rfl (stp_load_all (T := 25) 4 Try.isAgg25 Try.sizeOf25 rfl rfl rfl ?_); simp only [Act.put, List.setIfInBounds_toArray, List.set_cons_succ, List.set_cons_zero, Int.toNat_natCast, Int.toNat_zero, Int.toNat_one, nth_zero, nth_one]) | (go_at_call 11; refine (HRV.out _ (hg.arg hS (by simp))).mono ?_; rintro e w' ⟨rfl, hB⟩; have hS := hS.below hB))
  refine wp_region_sched [.read 0, .pure 1, .pure 2, .pure 3, .read 4, .ext 5, .pure 6] [] (fun w' => Heap w w' _) (by kernel_rfl) (by kernel_rfl) hS.drew (fun w1 hS => ?_)
  repeat (first | ((first | ((with_reducible refine m_pure ?_); refine skip_pure rfl rfl ?_) | ((with_reducible refine m_read ?_); refine skip_read rfl rfl ?_)); simp only [Act.put, List.setIfInBounds_toArray, List.set_cons_succ, List.set_cons_zero, Int.toNat_natCast, Int.toNat_zero, Int.toNat_one, nth_zero, nth_one]) | ((with_reducible refine m_read ?_); refine sched_of rfl rfl (stp_load_all (T := 25) 4 Try.isAgg25 Try.sizeOf25 rfl rfl rfl ?_); simp only [Act.put, List.setIfInBounds_toArray, List.set_cons_succ, List.set_cons_zero, Int.toNat_natCast, Int.toNat_zero, Int.toNat_one, nth_zero, nth_one]) | ((with_reducible refine m_pure ?_); refine sched_any rfl rfl (any_index_at (T := 45) Try.underlying45 Try.sizeOf22 rfl rfl (by omega) (by omega) ?_); simp only [Act.put, List.setIfInBounds_toArray, List.set_cons_succ, List.set_cons_zero, Int.toNat_natCast, Int.toNat_zero, Int.toNat_one, nth_zero, nth_one]; simp only [Nat.zero_add, Int.toNat_natCast]) | ((with_reducible refine m_read ?_); refine sched_of rfl rfl (stp_load_kn (T := 22) Try.isAgg22 rfl (Fz.known (by with_reducible assumption) (by simp)) rfl ?_); simp only [Act.put, List.setIfInBounds_toArray, List.set_cons_succ, List.set_cons_zero, Int.toNat_natCast, Int.toNat_zero, Int.toNat_one, nth_zero, nth_one]) | ((with_reducible refine m_pure ?_); refine run_pure rfl rfl (fun K hK => ?_); go_simp; refine hK _ ?_; clear hK K))
  refine ext_at rfl ?_
  go_wp2_with (fail)
  refine (listed_ok _ _ _ _ _ _ _ _ (hg.arg hS (by simp)) (hx.arg hS (by simp)) HIL.out hle hok).mono ?_
  rintro e w' ⟨rfl, hB⟩
  simp only []
  go_step
  have hS := hS.below hB
  refine ext_end hS ?_
  repeat (first | ((first | ((with_reducible refine m_pure ?_); refine skip_pure rfl rfl ?_) | ((with_reducible refine m_read ?_); refine skip_read rfl rfl ?_)); simp only [Act.put, List.setIfInBounds_toArray, List.set_cons_succ, List.set_cons_zero, Int.toNat_natCast, Int.toNat_zero, Int.toNat_one, nth_zero, nth_one]) | fail | ((with_reducible refine m_pure ?_); refine run_pure rfl rfl (fun K hK => ?_); go_simp; refine hK _ ?_; clear hK K))
  refine sched_nil ?_
  simp only [NoPanic]
  go_wp2_with (first | ((with_reducible refine g_idx (T := 45) ?_); refine seq_any rfl (any_index_at (T := 45) Try.underlying45 Try.sizeOf22 rfl rfl (by omega) (by omega) ?_); simp only [Act.put, List.setIfInBounds_toArray, List.set_cons_succ, List.set_cons_zero, Int.toNat_natCast, Int.toNat_zero, Int.toNat_one, nth_zero, nth_one]; simp only [Nat.zero_add, Int.toNat_natCast]) | ((with_reducible refine g_load (T := 22) ?_); refine seq_of hS rfl (stp_load_kn (T := 22) Try.isAgg22 rfl (Fz.known (by with_reducible assumption) (by simp)) rfl ?_); simp only [Act.put, List.setIfInBounds_toArray, List.set_cons_succ, List.set_cons_zero, Int.toNat_natCast, Int.toNat_zero, Int.toNat_one, nth_zero, nth_one]) | (go_at_call 43; refine (HNAM.out _ (hx.arg hS (by simp))).mono ?_; rintro e wof ⟨af, cf, rfl, hB, hof⟩; have hS := hS.call hB; simp only [List.cons_append, List.nil_append, List.set_cons_succ, List.set_cons_zero, Value.cells, iv_snoc, tv_snoc] at hS))
  generalize New _ wof = S at *
  go_loopw [11, 12] (fun nv i wr => ∃ (k : Nat) (a1 : Option Addr) (c1 : Nat) (Z : List Nat), k ≤ W.length ∧ i = .int .i64 k ∧ nv = .slice a1 Z.length c1 ∧ Hid (Z = (List.range k).filter (fun i => decide (nth 0 of i = i))) ∧ Heap w wr [.frz (Old w) w, .row (.slice a1 Z.length c1) 3 1 Z.length (iv (zs Z)), .row (.slice none 0 0) 3 1 0 [], .row (.slice none 0 0) 55 3 0 [], .blk b3 (.cells #[.slice aw W.length cw, .slice an N.length cn] 25 (0, 0)), .blk b6 (.cells #[.slice none 0 0, .slice none 0 0] 25 (0, 0)), .frz S wof]) (fun _ i _ => W.length - (intOf i).toNat)
  case atStart => exact ⟨0, none, 0, [], by omega, rfl, rfl, rfl, hS⟩
  case round =>
    clear hS hB
    obtain ⟨k, a1, c1, Z, hk, rfl, rfl, HZ, hS⟩ := hrel
    have hzl : Z.length ≤ k := by
      have h1 := HZ.out
      have h2 := List.length_filter_le (fun i => decide (nth 0 of i = i)) (List.range k)
      rw [← h1, List.length_range] at h2
      exact h2
    by_cases hlt : k < W.length
    · have ht := hds_take (of := of) k
      rw [← HZ.out] at ht
      rcases nat_beq_cases (nth 0 of k) k with ⟨hcc, hh⟩ | ⟨hcc, hh⟩
      · rw [if_pos hh.out] at ht
        have HT := Lib.hid ht
        clear ht
        go_wp2_with (first | ((with_reducible refine g_idx (T := 22) ?_); refine seq_any rfl (any_index_nat (T := 22) Try.underlying22 Try.sizeOf3 rfl rfl (by with_reducible assumption) (by omega) (by omega) (fun _ _ _ => ?_)); simp only [Act.put, List.setIfInBounds_toArray, List.set_cons_succ, List.set_cons_zero, Int.toNat_natCast, Int.toNat_zero, Int.toNat_one, nth_zero, nth_one]) | ((with_reducible refine g_load (T := 3) ?_); refine seq_of hS rfl (stp_load (T := 3) Try.isAgg3 rfl (by with_reducible assumption) (by simp) rfl ?_); simp only [Act.put, List.setIfInBounds_toArray, List.set_cons_succ, List.set_cons_zero, Int.toNat_natCast, Int.toNat_zero, Int.toNat_one, nth_zero, nth_one]) | ((with_reducible refine g_bs (T := 22) ?_); refine seq_bs1 (T := 22) (v := .int .i64 _) hS Try.underlying22 Try.sizeOf3 Try.zeroValue3 rfl rfl rfl (by decide) (by decide) rfl (fun _ _ hS => ?_); simp only [Act.put, List.setIfInBounds_toArray, List.set_cons_succ, List.set_cons_zero, Int.toNat_natCast, Int.toNat_zero, Int.toNat_one, nth_zero, nth_one]; simp only [Value.cells] at hS) | ((with_reducible refine g_app ?_); refine seq_append_lit (t := 22) 1 hS Try.underlying22 Try.info3 rfl (by decide) rfl rfl rfl rfl (by simp [Value.oneCell']) (by omega) (by unfold maxLen; omega) (fun a2 c2 _ hS => ?_); simp only [Act.put, List.setIfInBounds_toArray, List.set_cons_succ, List.set_cons_zero, Int.toNat_natCast, Int.toNat_zero, Int.toNat_one, nth_zero, nth_one]; simp only [List.cons_append, List.nil_append, List.set_cons_succ, List.set_cons_zero, Value.cells, iv_snoc, tv_snoc] at hS))
        go_roundw
        case rel =>
          rw [zs_snoc] at hS
          refine ⟨k + 1, a2, c2, Z ++ [k], by omega, by go_num, by rw [List.length_append]; rfl, HT.out.symm, ?_⟩
          rw [List.length_append]
          exact hS
        case measure => simp [intOf]; omega
      · rw [if_neg hh.out, List.append_nil] at ht
        have HT := Lib.hid ht
        clear ht
        go_wp2_with (first | ((with_reducible refine g_idx (T := 22) ?_); refine seq_any rfl (any_index_nat (T := 22) Try.underlying22 Try.sizeOf3 rfl rfl (by with_reducible assumption) (by omega) (by omega) (fun _ _ _ => ?_)); simp only [Act.put, List.setIfInBounds_toArray, List.set_cons_succ, List.set_cons_zero, Int.toNat_natCast, Int.toNat_zero, Int.toNat_one, nth_zero, nth_one]) | ((with_reducible refine g_load (T := 3) ?_); refine seq_of hS rfl (stp_load (T := 3) Try.isAgg3 rfl (by with_reducible assumption) (by simp) rfl ?_); simp only [Act.put, List.setIfInBounds_toArray, List.set_cons_succ, List.set_cons_zero, Int.toNat_natCast, Int.toNat_zero, Int.toNat_one, nth_zero, nth_one]))
        go_roundw
        case rel => exact ⟨k + 1, a1, c1, Z, by omega, by go_num, rfl, HT.out.symm, hS⟩
        case measure => simp [intOf]; omega
    · obtain rfl : k = W.length := by omega
      have hZ : hds of = Z := by rw [HZ.out]; unfold hds; rw [HOL.out]
      have HZH := Lib.hid hZ
      clear hZ HZ
      have hzl2 : Z.length ≤ 64 := by omega
      go_wp2_with (first | ((with_reducible refine g_alloc (T := 25) ?_); refine seq_alloc (T := 25) hS Try.zeroValue25 (fun b13 wb13 hS => ?_); simp only [Act.put, List.setIfInBounds_toArray, List.set_cons_succ, List.set_cons_zero, Int.toNat_natCast, Int.toNat_zero, Int.toNat_one, nth_zero, nth_one]; simp only [List.cons_append, List.nil_append, List.set_cons_succ, List.set_cons_zero, Value.cells, iv_snoc, tv_snoc] at hS) | ((with_reducible refine g_store (T := 25) ?_); refine seq_store (T := 25) (u := .agg #[.slice none 0 0, .slice none 0 0]) 7 hS rfl rfl rfl Try.sizeOf25 (by simp [Value.cells, Value.oneCell']) (by simp [Value.cells]) (fun _ hS => ?_); simp only [Act.put, List.setIfInBounds_toArray, List.set_cons_succ, List.set_cons_zero, Int.toNat_natCast, Int.toNat_zero, Int.toNat_one, nth_zero, nth_one]; simp only [List.cons_append, List.nil_append, List.set_cons_succ, List.set_cons_zero, Value.cells, iv_snoc, tv_snoc] at hS; simp only [List.take_zero, List.nil_append, List.append_nil, List.drop_succ_cons, List.drop_zero, List.drop_nil, List.take_succ_cons, List.cons_append, List.size_toArray, List.length_cons, List.length_nil, Nat.reduceAdd] at hS))
      go_loopw [14] (fun i wr => ∃ (k : Nat) (a2 a3 : Option Addr) (c2 c3 : Nat) (Wn : List Int) (Nn : List Tri), k ≤ Z.length ∧ i = .int .i64 k ∧ Hid (Wn = (qW W of).take k) ∧ Wn.length = k ∧ Hid (Nn = qrows N of k) ∧ Nn.length ≤ k * 64 ∧ (∀ j, j < k → weight W of (nth 0 (hds of) j) ≤ 1099511627776) ∧ (∀ j m, j < k → j < m → m < Z.length → common N of (nth 0 (hds of) j) (nth 0 (hds of) m) ≤ 1099511627776) ∧ Heap w wr [.frz (Old w) w, .row (.slice a1 Z.length c1) 3 1 Z.length (iv (zs Z)), .row (.slice a2 Wn.length c2) 3 1 Wn.length (iv Wn), .row (.slice a3 Nn.length c3) 55 3 Nn.length (tv Nn), .blk b3 (.cells #[.slice aw W.length cw, .slice an N.length cn] 25 (0, 0)), .blk b6 (.cells #[.slice none 0 0, .slice none 0 0] 25 (0, 0)), .frz S wof, .blk b13 (.cells #[.slice a2 Wn.length c2, .slice a3 Nn.length c3] 25 (0, 0))]) (fun i _ => Z.length - (intOf i).toNat)
      case atStart => exact ⟨0, none, none, 0, 0, [], [], by omega, rfl, rfl, rfl, rfl, by simp, (fun j hj => by omega), (fun j m hj => by omega), hS⟩
      case round =>
        clear hS
        obtain ⟨k, a2, a3, c2, c3, Wn, Nn, hk, rfl, HWn, hwn, HNn, hnn2, hw1, hn1, hS⟩ := hrel
        by_cases hlt : k < Z.length
        · have hks : k < (hds of).length := by rw [HZH.out]; exact hlt
          have hqt := qW_take (W := W) hks
          rw [← HWn.out] at hqt
          have hzk : nth 0 (zs Z) k = ((nth 0 (hds of) k : Nat) : Int) := by rw [nth_zs, HZH.out]
          obtain ⟨x, hx'⟩ : ∃ x, nth 0 (hds of) k = x := ⟨_, rfl⟩
          rw [hx'] at hzk hqt
          have hwb := weight_bd hv hgr.len x
          obtain ⟨wt, hwt⟩ : ∃ wt, weight W of x = wt := ⟨_, rfl⟩
          rw [hwt] at hwb hqt
          have HX := Lib.hid hx'
          have HZK := Lib.hid hzk
          have HWT := Lib.hid hwt
          have HQT := Lib.hid hqt
          have HW1 := Lib.hid hw1
          have HN1 := Lib.hid hn1
          obtain ⟨gz, rfl⟩ := hS.rowAt 1 rfl (by omega)
          clear hx' hzk hwt hqt hw1 hn1
          go_wp2_with (fail)
          refine wp_region_sched [.read 0, .pure 1, .pure 2, .pure 3, .pure 4, .read 5, .ext 6, .pure 7] [] (fun w' => Heap w w' _) (by kernel_rfl) (by kernel_rfl) hS.drew (fun w1 hS => ?_)
          repeat (first | ((first | ((with_reducible refine m_pure ?_); refine skip_pure rfl rfl ?_) | ((with_reducible refine m_read ?_); refine skip_read rfl rfl ?_)); simp only [Act.put, List.setIfInBounds_toArray, List.set_cons_succ, List.set_cons_zero, Int.toNat_natCast, Int.toNat_zero, Int.toNat_one, nth_zero, nth_one]) | ((with_reducible refine m_read ?_); refine sched_of rfl rfl (stp_load_all (T := 25) 4 Try.isAgg25 Try.sizeOf25 rfl rfl rfl ?_); simp only [Act.put, List.setIfInBounds_toArray, List.set_cons_succ, List.set_cons_zero, Int.toNat_natCast, Int.toNat_zero, Int.toNat_one, nth_zero, nth_one]) | ((with_reducible refine m_pure ?_); refine sched_any rfl rfl (any_index_at (T := 22) Try.underlying22 Try.sizeOf3 rfl rfl (by omega) (by omega) ?_); simp only [Act.put, List.setIfInBounds_toArray, List.set_cons_succ, List.set_cons_zero, Int.toNat_natCast, Int.toNat_zero, Int.toNat_one, nth_zero, nth_one]; simp only [Nat.zero_add, Int.toNat_natCast]) | (((with_reducible refine m_read ?_); refine sched_of rfl rfl (stp_load_row (T := 3) 1 Try.isAgg3 rfl rfl (by omega) ?_); simp only [Act.put, List.setIfInBounds_toArray, List.set_cons_succ, List.set_cons_zero, Int.toNat_natCast, Int.toNat_zero, Int.toNat_one, nth_zero, nth_one]); rw [HZK.out]) | ((with_reducible refine m_pure ?_); refine run_pure rfl rfl (fun K hK => ?_); go_simp; refine hK _ ?_; clear hK K))
          refine ext_at rfl ?_
          go_wp2_with (fail)
          refine (weight_any _ _ _ _ _ _ _ _ _ (hg.arg hS (List.mem_of_getElem? (i := 0) rfl)) (hof.arg hS (List.mem_of_getElem? (i := 6) rfl)) hv HOL.out).mono ?_
          rintro e w' ⟨rfl, hB⟩
          simp only []
          go_step
          have hS := hS.below hB
          rw [HWT.out]
          refine ext_end hS ?_
          repeat (first | ((first | ((with_reducible refine m_pure ?_); refine skip_pure rfl rfl ?_) | ((with_reducible refine m_read ?_); refine skip_read rfl rfl ?_)); simp only [Act.put, List.setIfInBounds_toArray, List.set_cons_succ, List.set_cons_zero, Int.toNat_natCast, Int.toNat_zero, Int.toNat_one, nth_zero, nth_one]) | fail | ((with_reducible refine m_pure ?_); refine run_pure rfl rfl (fun K hK => ?_); go_simp; refine hK _ ?_; clear hK K))
          refine sched_nil ?_
          simp only [NoPanic]
          by_cases hov : 1099511627776 < wt
          · have f1 : decide (1099511627776 < wt) = true := by simpa using hov
            go_wp2_with (first | ((with_reducible refine g_store (T := 25) ?_); refine seq_store (T := 25) (u := .agg #[.slice none 0 0, .slice none 0 0]) 5 hS rfl rfl rfl Try.sizeOf25 (by simp [Value.cells, Value.oneCell']) (by simp [Value.cells]) (fun _ hS => ?_); simp only [Act.put, List.setIfInBounds_toArray, List.set_cons_succ, List.set_cons_zero, Int.toNat_natCast, Int.toNat_zero, Int.toNat_one, nth_zero, nth_one]; simp only [List.cons_append, List.nil_append, List.set_cons_succ, List.set_cons_zero, Value.cells, iv_snoc, tv_snoc] at hS; simp only [List.take_zero, List.nil_append, List.append_nil, List.drop_succ_cons, List.drop_zero, List.drop_nil, List.take_succ_cons, List.cons_append, List.size_toArray, List.length_cons, List.length_nil, Nat.reduceAdd] at hS))
            refine ret_cell_tmp 5 hS rfl rfl rfl Try.isAgg25 Try.sizeOf25 rfl rfl ⟨hS.toBelow (by simp), .inl ⟨over_weight hks ?_, rfl⟩⟩
            rw [HX.out, HWT.out]; exact hov
          · have f1 : decide (1099511627776 < wt) = false := by simpa using hov
            go_wp2_with (first | ((with_reducible refine g_load (T := 22) ?_); refine seq_of hS rfl (stp_load_blk (T := 22) 7 Try.isAgg22 rfl rfl rfl ?_); simp only [Act.put, List.setIfInBounds_toArray, List.set_cons_succ, List.set_cons_zero, Int.toNat_natCast, Int.toNat_zero, Int.toNat_one, nth_zero, nth_one]) | ((with_reducible refine g_bs (T := 22) ?_); refine seq_bs1 (T := 22) (v := .int .i64 _) hS Try.underlying22 Try.sizeOf3 Try.zeroValue3 rfl rfl rfl (by decide) (by decide) rfl (fun _ _ hS => ?_); simp only [Act.put, List.setIfInBounds_toArray, List.set_cons_succ, List.set_cons_zero, Int.toNat_natCast, Int.toNat_zero, Int.toNat_one, nth_zero, nth_one]; simp only [Value.cells] at hS) | ((with_reducible refine g_app ?_); refine seq_append_lit (t := 22) 2 hS Try.underlying22 Try.info3 rfl (by decide) rfl rfl rfl rfl (by simp [Value.oneCell']) (by omega) (by unfold maxLen; omega) (fun a4 c4 _ hS => ?_); simp only [Act.put, List.setIfInBounds_toArray, List.set_cons_succ, List.set_cons_zero, Int.toNat_natCast, Int.toNat_zero, Int.toNat_one, nth_zero, nth_one]; simp only [List.cons_append, List.nil_append, List.set_cons_succ, List.set_cons_zero, Value.cells, iv_snoc, tv_snoc] at hS) | ((with_reducible refine g_store (T := 22) ?_); refine seq_store (T := 22) (u := .slice _ _ _) 7 hS rfl rfl rfl Try.sizeOf22 (by simp [Value.cells, Value.oneCell']) (by simp [Value.cells]) (fun _ hS => ?_); simp only [Act.put, List.setIfInBounds_toArray, List.set_cons_succ, List.set_cons_zero, Int.toNat_natCast, Int.toNat_zero, Int.toNat_one, nth_zero, nth_one]; simp only [List.cons_append, List.nil_append, List.set_cons_succ, List.set_cons_zero, Value.cells, iv_snoc, tv_snoc] at hS; simp only [List.take_zero, List.nil_append, List.append_nil, List.drop_succ_cons, List.drop_zero, List.drop_nil, List.take_succ_cons, List.cons_append, List.size_toArray, List.length_cons, List.length_nil, Nat.reduceAdd] at hS))
            go_loopw [16] (fun i wr => ∃ (m : Nat) (a3 : Option Addr) (c3 : Nat) (Nn : List Tri), k < m ∧ m ≤ Z.length ∧ i = .int .i64 m ∧ Hid (Nn = qrows N of k ++ qrow N of k m) ∧ Nn.length ≤ k * 64 + m ∧ (∀ q, k < q → q < m → common N of (nth 0 (hds of) k) (nth 0 (hds of) q) ≤ 1099511627776) ∧ Heap w wr [.frz (Old w) w, .row (.slice (some ⟨gz, 0, none⟩) Z.length c1) 3 1 Z.length (iv (zs Z)), .row (.slice a4 (Wn.length + 1) c4) 3 1 (Wn.length + 1) (iv (Wn ++ [wt])), .row (.slice a3 Nn.length c3) 55 3 Nn.length (tv Nn), .blk b3 (.cells #[.slice aw W.length cw, .slice an N.length cn] 25 (0, 0)), .blk b6 (.cells #[.slice none 0 0, .slice none 0 0] 25 (0, 0)), .frz S wof, .blk b13 (.cells #[.slice a4 (Wn.length + 1) c4, .slice a3 Nn.length c3] 25 (0, 0))]) (fun i _ => Z.length - (intOf i).toNat)
            case atStart => exact ⟨k + 1, a3, c3, Nn, by omega, by omega, by go_num, by rw [qrow_low _ _ _ _ (Nat.le_refl _), List.append_nil]; exact HNn, by omega, (fun q h1 h2 => by omega), hS⟩
            case round =>
              clear hS
              obtain ⟨m, a3, c3, Nn, hkm, hm, rfl, HNn, hnn3, hn2, hS⟩ := hrel
              have hkb : k * 64 ≤ 64 * 64 := Nat.mul_le_mul_right 64 (by omega)
              by_cases hltm : m < Z.length
              · have hms : m < (hds of).length := by rw [HZH.out]; exact hltm
                have hzm : nth 0 (zs Z) m = ((nth 0 (hds of) m : Nat) : Int) := by rw [nth_zs, HZH.out]
                obtain ⟨y, hy'⟩ : ∃ y, nth 0 (hds of) m = y := ⟨_, rfl⟩
                rw [hy'] at hzm
                have hcb := common_bd hv of x y
                have hqr := qrow_succ N of k m
                have hqp := qcell_pos (N := N) (of := of) (i := k) (k := m)
                have hqz := qcell_zero (N := N) (of := of) (i := k) (k := m)
                rw [HX.out, hy'] at hqp hqz
                obtain ⟨ct, hct⟩ : ∃ ct, common N of x y = ct := ⟨_, rfl⟩
                rw [hct] at hcb hqp hqz
                have HY := Lib.hid hy'
                have HZM := Lib.hid hzm
                have HCT := Lib.hid hct
                have HQR := Lib.hid hqr
                have HQP := Lib.hid hqp
                have HQZ := Lib.hid hqz
                have HN2 := Lib.hid hn2
                clear hy' hzm hct hqr hqp hqz hn2
                go_wp2_with (fail)
                refine wp_region_sched [.read 0, .pure 1, .pure 2, .pure 3, .pure 4, .read 5, .pure 6, .pure 7, .pure 8, .read 9, .ext 10, .pure 11] [] (fun w' => Heap w w' _) (by kernel_rfl) (by kernel_rfl) hS.drew (fun w1 hS => ?_)
                repeat (first | ((first | ((with_reducible refine m_pure ?_); refine skip_pure rfl rfl ?_) | ((with_reducible refine m_read ?_); refine skip_read rfl rfl ?_)); simp only [Act.put, List.setIfInBounds_toArray, List.set_cons_succ, List.set_cons_zero, Int.toNat_natCast, Int.toNat_zero, Int.toNat_one, nth_zero, nth_one]) | ((with_reducible refine m_read ?_); refine sched_of rfl rfl (stp_load_all (T := 25) 4 Try.isAgg25 Try.sizeOf25 rfl rfl rfl ?_); simp only [Act.put, List.setIfInBounds_toArray, List.set_cons_succ, List.set_cons_zero, Int.toNat_natCast, Int.toNat_zero, Int.toNat_one, nth_zero, nth_one]) | ((with_reducible refine m_pure ?_); refine sched_any rfl rfl (any_index_at (T := 22) Try.underlying22 Try.sizeOf3 rfl rfl (by omega) (by omega) ?_); simp only [Act.put, List.setIfInBounds_toArray, List.set_cons_succ, List.set_cons_zero, Int.toNat_natCast, Int.toNat_zero, Int.toNat_one, nth_zero, nth_one]; simp only [Nat.zero_add, Int.toNat_natCast]) | (((with_reducible refine m_read ?_); refine sched_of rfl rfl (stp_load_row (T := 3) 1 Try.isAgg3 rfl rfl (by omega) ?_); simp only [Act.put, List.setIfInBounds_toArray, List.set_cons_succ, List.set_cons_zero, Int.toNat_natCast, Int.toNat_zero, Int.toNat_one, nth_zero, nth_one]); rw [HZK.out]) | (((with_reducible refine m_read ?_); refine sched_of rfl rfl (stp_load_row (T := 3) 1 Try.isAgg3 rfl rfl (by omega) ?_); simp only [Act.put, List.setIfInBounds_toArray, List.set_cons_succ, List.set_cons_zero, Int.toNat_natCast, Int.toNat_zero, Int.toNat_one, nth_zero, nth_one]); rw [HZM.out]) | ((with_reducible refine m_pure ?_); refine run_pure rfl rfl (fun K hK => ?_); go_simp; refine hK _ ?_; clear hK K))
                refine ext_at rfl ?_
                go_wp2_with (fail)
                refine (common_any _ _ _ _ _ _ _ _ _ _ (hg.arg hS (List.mem_of_getElem? (i := 0) rfl)) (hof.arg hS (List.mem_of_getElem? (i := 6) rfl)) hv HOL.out).mono ?_
                rintro e w' ⟨rfl, hB⟩
                simp only []
                go_step
                have hS := hS.below hB
                rw [HCT.out]
                refine ext_end hS ?_
                repeat (first | ((first | ((with_reducible refine m_pure ?_); refine skip_pure rfl rfl ?_) | ((with_reducible refine m_read ?_); refine skip_read rfl rfl ?_)); simp only [Act.put, List.setIfInBounds_toArray, List.set_cons_succ, List.set_cons_zero, Int.toNat_natCast, Int.toNat_zero, Int.toNat_one, nth_zero, nth_one]) | fail | ((with_reducible refine m_pure ?_); refine run_pure rfl rfl (fun K hK => ?_); go_simp; refine hK _ ?_; clear hK K))
                refine sched_nil ?_
                simp only [NoPanic]
                by_cases hoc : 1099511627776 < ct
                · have f2 : decide (1099511627776 < ct) = true := by simpa using hoc
                  go_wp2_with (first | ((with_reducible refine g_store (T := 25) ?_); refine seq_store (T := 25) (u := .agg #[.slice none 0 0, .slice none 0 0]) 5 hS rfl rfl rfl Try.sizeOf25 (by simp [Value.cells, Value.oneCell']) (by simp [Value.cells]) (fun _ hS => ?_); simp only [Act.put, List.setIfInBounds_toArray, List.set_cons_succ, List.set_cons_zero, Int.toNat_natCast, Int.toNat_zero, Int.toNat_one, nth_zero, nth_one]; simp only [List.cons_append, List.nil_append, List.set_cons_succ, List.set_cons_zero, Value.cells, iv_snoc, tv_snoc] at hS; simp only [List.take_zero, List.nil_append, List.append_nil, List.drop_succ_cons, List.drop_zero, List.drop_nil, List.take_succ_cons, List.cons_append, List.size_toArray, List.length_cons, List.length_nil, Nat.reduceAdd] at hS))
                  refine ret_cell_tmp 5 hS rfl rfl rfl Try.isAgg25 Try.sizeOf25 rfl rfl ⟨hS.toBelow (by simp), .inl ⟨over_common hkm hms ?_, rfl⟩⟩
                  rw [HX.out, HY.out, HCT.out]; exact hoc
                · have f2 : decide (1099511627776 < ct) = false := by simpa using hoc
                  have hn3 : ∀ q, k < q → q < m + 1 → common N of (nth 0 (hds of) k) (nth 0 (hds of) q) ≤ 1099511627776 := by
                    intro q h1 h2
                    rcases Nat.lt_or_ge q m with h3 | h3
                    · exact HN2.out q h1 h3
                    · obtain rfl : q = m := by omega
                      rw [HX.out, HY.out, HCT.out]; omega
                  have HN3 := Lib.hid hn3
                  clear hn3
                  by_cases hpc : 0 < ct
                  · have f3 : decide (0 < ct) = true := by simpa using hpc
                    go_wp2_with (first | ((with_reducible refine g_load (T := 23) ?_); refine seq_of hS rfl (stp_load_blk (T := 23) 7 Try.isAgg23 rfl rfl rfl ?_); simp only [Act.put, List.setIfInBounds_toArray, List.set_cons_succ, List.set_cons_zero, Int.toNat_natCast, Int.toNat_zero, Int.toNat_one, nth_zero, nth_one]) | ((with_reducible refine g_bs (T := 23) ?_); refine seq_bs1 (T := 23) (v := .agg _) hS Try.underlying23 Try.sizeOf55 Try.zeroValue55 rfl rfl rfl (by decide) (by decide) rfl (fun _ _ hS => ?_); simp only [Act.put, List.setIfInBounds_toArray, List.set_cons_succ, List.set_cons_zero, Int.toNat_natCast, Int.toNat_zero, Int.toNat_one, nth_zero, nth_one]; simp only [Value.cells] at hS) | ((with_reducible refine g_app ?_); refine seq_append_lit (t := 23) 3 hS Try.underlying23 Try.info55 rfl (by decide) rfl rfl rfl rfl (by simp [Value.oneCell']) (by omega) (by unfold maxLen; omega) (fun a5 c5 _ hS => ?_); simp only [Act.put, List.setIfInBounds_toArray, List.set_cons_succ, List.set_cons_zero, Int.toNat_natCast, Int.toNat_zero, Int.toNat_one, nth_zero, nth_one]; simp only [List.cons_append, List.nil_append, List.set_cons_succ, List.set_cons_zero, Value.cells, iv_snoc, tv_snoc] at hS) | ((with_reducible refine g_store (T := 23) ?_); refine seq_store (T := 23) (u := .slice _ _ _) 7 hS rfl rfl rfl Try.sizeOf23 (by simp [Value.cells, Value.oneCell']) (by simp [Value.cells]) (fun _ hS => ?_); simp only [Act.put, List.setIfInBounds_toArray, List.set_cons_succ, List.set_cons_zero, Int.toNat_natCast, Int.toNat_zero, Int.toNat_one, nth_zero, nth_one]; simp only [List.cons_append, List.nil_append, List.set_cons_succ, List.set_cons_zero, Value.cells, iv_snoc, tv_snoc] at hS; simp only [List.take_zero, List.nil_append, List.append_nil, List.drop_succ_cons, List.drop_zero, List.drop_nil, List.take_succ_cons, List.cons_append, List.size_toArray, List.length_cons, List.length_nil, Nat.reduceAdd] at hS))
                    go_roundw
                    case rel =>
                      have ht := tv_snoc Nn ((k : Int), (m : Int), ct)
                      simp only at ht
                      first | rw [ht] at hS | skip
                      refine ⟨m + 1, a5, c5, Nn ++ [((k : Int), (m : Int), ct)], by omega, by omega, by go_num, ?_, by rw [List.length_append, List.length_singleton]; omega, HN3.out, ?_⟩
                      · unfold Hid; rw [HQR.out, HQP.out hkm hpc, ← List.append_assoc, ← HNn.out]
                      · rw [List.length_append, List.length_singleton]; exact hS
                    case measure => simp [intOf]; omega
                  · have f3 : decide (0 < ct) = false := by simpa using hpc
                    go_wp2_with (fail)
                    go_roundw
                    case rel => exact ⟨m + 1, a3, c3, Nn, by omega, by omega, by go_num, by unfold Hid; rw [HQR.out, HQZ.out (by omega), List.append_nil, ← HNn.out], by omega, HN3.out, hS⟩
                    case measure => simp [intOf]; omega
              · obtain rfl : m = Z.length := by omega
                have HN2 := Lib.hid hn2
                clear hn2
                go_wp2_with (fail)
                go_roundw
                case rel =>
                  refine ⟨k + 1, a4, a3, c4, c3, Wn ++ [wt], Nn, by omega, by go_num, HQT.out.symm, by rw [List.length_append]; simp; omega, ?_, by omega, ?_, ?_, ?_⟩
                  · unfold Hid; rw [qrows_succ, HZH.out, ← HNn.out]
                  · intro j hj
                    rcases Nat.lt_or_ge j k with h | h
                    · exact HW1.out j h
                    · obtain rfl : j = k := by omega
                      rw [HX.out, HWT.out]; omega
                  · intro j q hj hjq hq
                    rcases Nat.lt_or_ge j k with h | h
                    · exact HN1.out j q h hjq hq
                    · obtain rfl : j = k := by omega
                      exact HN2.out q hjq hq
                  · rw [List.length_append, List.length_singleton]; exact hS
                case measure => simp [intOf]; omega
        · obtain rfl : k = Z.length := by omega
          have hno := over_none (W := W) (N := N) (of := of) (fun i hi => hw1 i (by rw [← HZH.out]; exact hi)) (fun i k hik hk => hn1 i k (by rw [← HZH.out]; omega) hik (by rw [← HZH.out]; exact hk))
          have hWq : Wn = qW W of := by
            rw [HWn.out]
            refine List.take_of_length_le ?_
            unfold qW
            rw [List.length_map, HZH.out]; exact Nat.le_refl _
          have hNq : Nn = qN N of := by rw [HNn.out]; unfold qN; rw [HZH.out]
          have HNO := Lib.hid hno
          clear hno hw1 hn1
          go_wp2_with (first | ((with_reducible refine g_load (T := 25) ?_); refine seq_of hS rfl (stp_load_all (T := 25) 7 Try.isAgg25 Try.sizeOf25 rfl rfl rfl ?_); simp only [Act.put, List.setIfInBounds_toArray, List.set_cons_succ, List.set_cons_zero, Int.toNat_natCast, Int.toNat_zero, Int.toNat_one, nth_zero, nth_one]) | ((with_reducible refine g_store (T := 25) ?_); refine seq_store (T := 25) (u := .agg #[.slice _ _ _, .slice _ _ _]) 5 hS rfl rfl rfl Try.sizeOf25 (by simp [Value.cells, Value.oneCell']) (by simp [Value.cells]) (fun _ hS => ?_); simp only [Act.put, List.setIfInBounds_toArray, List.set_cons_succ, List.set_cons_zero, Int.toNat_natCast, Int.toNat_zero, Int.toNat_one, nth_zero, nth_one]; simp only [List.cons_append, List.nil_append, List.set_cons_succ, List.set_cons_zero, Value.cells, iv_snoc, tv_snoc] at hS; simp only [List.take_zero, List.nil_append, List.append_nil, List.drop_succ_cons, List.drop_zero, List.drop_nil, List.take_succ_cons, List.cons_append, List.size_toArray, List.length_cons, List.length_nil, Nat.reduceAdd] at hS))
          refine ret_cell_tmp 5 hS rfl rfl rfl Try.isAgg25 Try.sizeOf25 rfl rfl ⟨hS.toBelow (by simp), .inr ⟨HNO.out, _, rfl, ?_⟩⟩
          rw [← hWq, ← hNq]
          have hno := HNO.out
          unfold qOver at hno
          rw [Bool.or_eq_false_iff, List.any_eq_false, List.any_eq_false, ← hWq, ← hNq] at hno
          refine ⟨_, _, _, _, rfl, hS.resultInts 1 rfl (fun z hz => ?_), hS.resultTris 2 rfl (fun e he => ?_)⟩
          · have h1 := hno.2 z hz
            rw [hWq] at hz
            simp only [qW, List.mem_map] at hz
            obtain ⟨g, _, rfl⟩ := hz
            have h2 := weight_bd hv hgr.len g
            unfold InI; omega
          · rw [hNq] at he
            obtain ⟨i, j, h1, h2, h3, rfl⟩ := mem_qN.1 he
            have h4 := common_bd hv of (nth 0 (hds of) i) (nth 0 (hds of) j)
            rw [HZH.out] at h2
            exact ⟨by unfold InI; simp only; omega, by unfold InI; simp only; omega, by unfold InI; simp only; omega⟩
end Go.Proofs.Ytdibpfbibgicaaa
