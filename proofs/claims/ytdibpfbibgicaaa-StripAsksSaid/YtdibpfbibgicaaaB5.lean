/- B5: meresmanref22.Spoilt: a graph of numbers. -/
import Derived.Test.YtdibpfbibgicaaaB0
import Derived.Test.YtdibpfbibgicaaaR2
set_option linter.unusedVariables false
set_option linter.unusedSimpArgs false
namespace Go.Proofs.Ytdibpfbibgicaaa
open Go.RowKit Go.Hp

theorem tdiv3 (z : Int) (h1 : -9223372036854775808 ≤ z) (h2 : z ≤ 9223372036854775807) : -9223372036854775808 ≤ z.tdiv 3 ∧ z.tdiv 3 ≤ 9223372036854775807 := by
  rcases Int.le_total 0 z with h | h
  · rw [Int.tdiv_eq_ediv_of_nonneg h]; omega
  · have e := Int.neg_tdiv (a := -z) (b := 3)
    rw [Int.neg_neg] at e
    rw [e, Int.tdiv_eq_ediv_of_nonneg (by omega)]; omega
theorem wrap64_id (z : Int) (h1 : -9223372036854775808 ≤ z) (h2 : z ≤ 9223372036854775807) : wrap64 z = z := by
  unfold wrap64; omega

set_option maxHeartbeats 8000000 in
set_option maxRecDepth 100000 in
theorem spoilt_any (gv : Value) (at' how by' : Int) (W : List Int) (N : List Tri) (w : World) (hg : GraphAt w (Old w) gv W N) (hwl : W.length ≤ 64) (hnl : N.length ≤ 4096) (ha : InI at') (hh : InI how) (hb : InI by') :
    Calls Try.prog 9 #[gv, .int .i64 at', .int .i64 how, .int .i64 by'] w fun e w' => ∃ gv' W' N', e = .returned gv' ∧ Below w.heap.size w w' ∧ GraphAt w' (New w w') gv' W' N' ∧ W'.length ≤ 64 := by
  obtain ⟨aw, cw, an, cn, rfl, hw, hnn⟩ := hg
  have hS := ((Heap.start w).addNil 3 1).addNil 55 3
  have hwb := hw.2
  have hnb := hnn.2
  go_enter Try.func9, Try.ntmps9
  repeat ((fail_if_success ((with_reducible refine g_box ?_))); go_step)
  ((with_reducible refine g_box (T := 25) ?_); refine seq_box (T := 25) (v := .agg _) hS rfl (fun b4 wb4 hS => ?_); simp only [Act.put, List.setIfInBounds_toArray, List.set_cons_succ, List.set_cons_zero, Int.toNat_natCast, Int.toNat_zero, Int.toNat_one, nth_zero, nth_one]; simp only [List.cons_append, List.nil_append, List.set_cons_succ, List.set_cons_zero, Value.cells, iv_snoc, tv_snoc] at hS)
  repeat ((fail_if_success ((with_reducible refine g_alloc ?_))); go_step)
  ((with_reducible refine g_alloc (T := 25) ?_); refine seq_alloc (T := 25) hS Try.zeroValue25 (fun b8 wb8 hS => ?_); simp only [Act.put, List.setIfInBounds_toArray, List.set_cons_succ, List.set_cons_zero, Int.toNat_natCast, Int.toNat_zero, Int.toNat_one, nth_zero, nth_one]; simp only [List.cons_append, List.nil_append, List.set_cons_succ, List.set_cons_zero, Value.cells, iv_snoc, tv_snoc] at hS)
  repeat ((fail_if_success ((with_reducible refine g_alloc ?_))); go_step)
  ((with_reducible refine g_alloc (T := 25) ?_); refine seq_alloc (T := 25) hS Try.zeroValue25 (fun b9 wb9 hS => ?_); simp only [Act.put, List.setIfInBounds_toArray, List.set_cons_succ, List.set_cons_zero, Int.toNat_natCast, Int.toNat_zero, Int.toNat_one, nth_zero, nth_one]; simp only [List.cons_append, List.nil_append, List.set_cons_succ, List.set_cons_zero, Value.cells, iv_snoc, tv_snoc] at hS)
  repeat ((fail_if_success ((with_reducible refine g_store ?_))); go_step)
  ((with_reducible refine g_store (T := 25) ?_); refine seq_store (T := 25) (u := .agg #[.slice none 0 0, .slice none 0 0]) 5 hS rfl rfl rfl Try.sizeOf25 (by simp [Value.cells, Value.oneCell']) (by simp [Value.cells]) (fun _ hS => ?_); simp only [Act.put, List.setIfInBounds_toArray, List.set_cons_succ, List.set_cons_zero, Int.toNat_natCast, Int.toNat_zero, Int.toNat_one, nth_zero, nth_one]; simp only [List.cons_append, List.nil_append, List.set_cons_succ, List.set_cons_zero, Value.cells, iv_snoc, tv_snoc] at hS; simp only [List.take_zero, List.nil_append, List.append_nil, List.drop_succ_cons, List.drop_zero, List.drop_nil, List.take_succ_cons, List.cons_append, List.size_toArray, List.length_cons, List.length_nil, Nat.reduceAdd] at hS)
  repeat ((fail_if_success ((with_reducible refine g_load ?_))); go_step)
  ((with_reducible refine g_load (T := 22) ?_); refine seq_of hS rfl (stp_load_blk (T := 22) 5 Try.isAgg22 rfl rfl rfl ?_); simp only [Act.put, List.setIfInBounds_toArray, List.set_cons_succ, List.set_cons_zero, Int.toNat_natCast, Int.toNat_zero, Int.toNat_one, nth_zero, nth_one])
  repeat ((fail_if_success ((with_reducible refine g_load ?_))); go_step)
  ((with_reducible refine g_load (T := 22) ?_); refine seq_of hS rfl (stp_load_blk (T := 22) 3 Try.isAgg22 rfl rfl rfl ?_); simp only [Act.put, List.setIfInBounds_toArray, List.set_cons_succ, List.set_cons_zero, Int.toNat_natCast, Int.toNat_zero, Int.toNat_one, nth_zero, nth_one])
  repeat ((fail_if_success ((with_reducible refine g_app ?_))); go_step)
  ((with_reducible refine g_app ?_); refine seq_append (t := 22) 1 hS Try.underlying22 Try.info3 rfl (by decide) rfl rfl rfl (show SlC w (Old w) 1 _ _ (iv W) from hw.1) (by simp) (iv_one W) (by omega) (by unfold maxLen; omega) (fun a1 c1 _ hS => ?_); simp only [Act.put, List.setIfInBounds_toArray, List.set_cons_succ, List.set_cons_zero, Int.toNat_natCast, Int.toNat_zero, Int.toNat_one, nth_zero, nth_one]; simp only [List.cons_append, List.nil_append, List.set_cons_succ, List.set_cons_zero, Value.cells, iv_snoc, tv_snoc] at hS; try simp only [List.nil_append, Nat.zero_add] at hS ⊢)
  repeat ((fail_if_success ((with_reducible refine g_store ?_))); go_step)
  ((with_reducible refine g_store (T := 22) ?_); refine seq_store (T := 22) (u := .slice _ _ _) 5 hS rfl rfl rfl Try.sizeOf22 (by simp [Value.cells, Value.oneCell']) (by simp [Value.cells]) (fun _ hS => ?_); simp only [Act.put, List.setIfInBounds_toArray, List.set_cons_succ, List.set_cons_zero, Int.toNat_natCast, Int.toNat_zero, Int.toNat_one, nth_zero, nth_one]; simp only [List.cons_append, List.nil_append, List.set_cons_succ, List.set_cons_zero, Value.cells, iv_snoc, tv_snoc] at hS; simp only [List.take_zero, List.nil_append, List.append_nil, List.drop_succ_cons, List.drop_zero, List.drop_nil, List.take_succ_cons, List.cons_append, List.size_toArray, List.length_cons, List.length_nil, Nat.reduceAdd] at hS)
  repeat ((fail_if_success ((with_reducible refine g_load ?_))); go_step)
  ((with_reducible refine g_load (T := 23) ?_); refine seq_of hS rfl (stp_load_blk (T := 23) 5 Try.isAgg23 rfl rfl rfl ?_); simp only [Act.put, List.setIfInBounds_toArray, List.set_cons_succ, List.set_cons_zero, Int.toNat_natCast, Int.toNat_zero, Int.toNat_one, nth_zero, nth_one])
  repeat ((fail_if_success ((with_reducible refine g_load ?_))); go_step)
  ((with_reducible refine g_load (T := 23) ?_); refine seq_of hS rfl (stp_load_blk (T := 23) 3 Try.isAgg23 rfl rfl rfl ?_); simp only [Act.put, List.setIfInBounds_toArray, List.set_cons_succ, List.set_cons_zero, Int.toNat_natCast, Int.toNat_zero, Int.toNat_one, nth_zero, nth_one])
  repeat ((fail_if_success ((with_reducible refine g_app ?_))); go_step)
  ((with_reducible refine g_app ?_); refine seq_append (t := 23) 2 hS Try.underlying23 Try.info55 rfl (by decide) rfl rfl rfl (show SlC w (Old w) 3 _ _ (tv N) from hnn.1) (by simp) (tv_one N) (by omega) (by unfold maxLen; omega) (fun a2 c2 _ hS => ?_); simp only [Act.put, List.setIfInBounds_toArray, List.set_cons_succ, List.set_cons_zero, Int.toNat_natCast, Int.toNat_zero, Int.toNat_one, nth_zero, nth_one]; simp only [List.cons_append, List.nil_append, List.set_cons_succ, List.set_cons_zero, Value.cells, iv_snoc, tv_snoc] at hS; try simp only [List.nil_append, Nat.zero_add] at hS ⊢)
  repeat ((fail_if_success ((with_reducible refine g_store ?_))); go_step)
  ((with_reducible refine g_store (T := 23) ?_); refine seq_store (T := 23) (u := .slice _ _ _) 5 hS rfl rfl rfl Try.sizeOf23 (by simp [Value.cells, Value.oneCell']) (by simp [Value.cells]) (fun _ hS => ?_); simp only [Act.put, List.setIfInBounds_toArray, List.set_cons_succ, List.set_cons_zero, Int.toNat_natCast, Int.toNat_zero, Int.toNat_one, nth_zero, nth_one]; simp only [List.cons_append, List.nil_append, List.set_cons_succ, List.set_cons_zero, Value.cells, iv_snoc, tv_snoc] at hS; simp only [List.take_zero, List.nil_append, List.append_nil, List.drop_succ_cons, List.drop_zero, List.drop_nil, List.take_succ_cons, List.cons_append, List.size_toArray, List.length_cons, List.length_nil, Nat.reduceAdd] at hS)
  rename_i w5
  by_cases h0 : W.length = 0
  · have f0 : (((W.length : Nat) : Int) == 0) = true := by simp [h0]
    go_wp2_with (first | ((with_reducible refine g_load (T := 22) ?_); refine seq_of hS rfl (stp_load_blk (T := 22) 5 Try.isAgg22 rfl rfl rfl ?_); simp only [Act.put, List.setIfInBounds_toArray, List.set_cons_succ, List.set_cons_zero, Int.toNat_natCast, Int.toNat_zero, Int.toNat_one, nth_zero, nth_one]) | ((with_reducible refine g_load (T := 25) ?_); refine seq_of hS rfl (stp_load_all (T := 25) 5 Try.isAgg25 Try.sizeOf25 rfl rfl rfl ?_); simp only [Act.put, List.setIfInBounds_toArray, List.set_cons_succ, List.set_cons_zero, Int.toNat_natCast, Int.toNat_zero, Int.toNat_one, nth_zero, nth_one]) | ((with_reducible refine g_store (T := 25) ?_); refine seq_store (T := 25) (u := .agg #[.slice _ _ _, .slice _ _ _]) 4 hS rfl rfl rfl Try.sizeOf25 (by simp [Value.cells, Value.oneCell']) (by simp [Value.cells]) (fun _ hS => ?_); simp only [Act.put, List.setIfInBounds_toArray, List.set_cons_succ, List.set_cons_zero, Int.toNat_natCast, Int.toNat_zero, Int.toNat_one, nth_zero, nth_one]; simp only [List.cons_append, List.nil_append, List.set_cons_succ, List.set_cons_zero, Value.cells, iv_snoc, tv_snoc] at hS; simp only [List.take_zero, List.nil_append, List.append_nil, List.drop_succ_cons, List.drop_zero, List.drop_nil, List.take_succ_cons, List.cons_append, List.size_toArray, List.length_cons, List.length_nil, Nat.reduceAdd] at hS))
    refine ret_cell1 4 hS rfl rfl rfl Try.isAgg25 Try.sizeOf25 rfl rfl ?_
    exact ⟨_, W, N, rfl, hS.toBelow (by simp), ⟨_, _, _, _, rfl, hS.resultInts 0 rfl hwb, hS.resultTris 1 rfl hnb⟩, hwl⟩
  · have f0 : (((W.length : Nat) : Int) == 0) = false := by simp [h0]
    have hk := aro_lt at' (most := W.length) (by omega)
    obtain ⟨k, hk'⟩ : ∃ k : Nat, aro at' W.length = (k : Int) := ⟨(aro at' W.length).toNat, by omega⟩
    rw [hk'] at hk
    have HK := Lib.hid hk'
    clear hk' h0
    have hq := aro_lt how (most := 6) (by omega)
    have hcase : aro how 6 = 0 ∨ aro how 6 = 1 ∨ aro how 6 = 2 ∨ aro how 6 = 3 ∨ aro how 6 = 4 ∨ aro how 6 = 5 := by omega
    clear hq
    have f3 : decide (k ≤ c1) = true := by have := hS.rowCap 1 rfl; simp; omega
    have HWK : Hid (((W.length : Int) - 1) = ((W.length - 1 : Nat) : Int)) := by unfold Hid; omega
    obtain ⟨g1, rfl⟩ := hS.rowAt 1 rfl (by omega)
    have hc1 := hS.rowCap 1 rfl
    rcases hcase with hq | hq | hq | hq | hq | hq
    · -- a weight
      have HQ := Lib.hid hq
      clear hq
      obtain ⟨p, hp⟩ : ∃ p : Nat, aro by' 5 = (p : Int) := ⟨(aro by' 5).toNat, by have := aro_lt by' (most := 5) (by omega); omega⟩
      have hp5 : p < 5 := by have := aro_lt by' (most := 5) (by omega); omega
      obtain ⟨v, hv, hvi⟩ : ∃ v, (#[Value.int .i64 by', .int .i64 (-1), .int .i64 0, .int .i64 1099511627776, .int .i64 1099511627777] : Array Value)[p]? = some (.int .i64 v) ∧ InI v := by
        rcases (show p = 0 ∨ p = 1 ∨ p = 2 ∨ p = 3 ∨ p = 4 by omega) with rfl | rfl | rfl | rfl | rfl
        · exact ⟨by', rfl, hb⟩
        · exact ⟨-1, rfl, by unfold InI; omega⟩
        · exact ⟨0, rfl, by unfold InI; omega⟩
        · exact ⟨1099511627776, rfl, by unfold InI; omega⟩
        · exact ⟨1099511627777, rfl, by unfold InI; omega⟩
      have HP := Lib.hid hp
      have HV := Lib.hid hv
      clear hp hv
      go_wp2_with (first | ((with_reducible refine g_load (T := 22) ?_); refine seq_of hS rfl (stp_load_blk (T := 22) 5 Try.isAgg22 rfl rfl rfl ?_); simp only [Act.put, List.setIfInBounds_toArray, List.set_cons_succ, List.set_cons_zero, Int.toNat_natCast, Int.toNat_zero, Int.toNat_one, nth_zero, nth_one]) | (go_at_call 10; refine (around_any _ _ _ (by omega) (by omega) (by with_reducible assumption)).mono ?_; rintro e w' ⟨rfl, rfl⟩; first | rw [HK.out] | rw [HQ.out]))
      refine wp_region_tr (.fork [.pure 0, .read 1, .pure 2, .pure 3, .pure 5] 4 (.line [.ext 6, .pure 7, .ext 8, .pure 9, .mutt 10]) 6 (.line [.ext 4, .pure 7, .ext 8, .pure 9, .mutt 10])) [10] (fun w' => Heap w w' _) (by kernel_rfl) (by kernel_rfl) hS.drew (fun w1 hS => ?_)
      refine tr_fork ?_
      repeat (first | ((first | ((with_reducible refine m_pure ?_); refine skip_pure rfl rfl ?_) | ((with_reducible refine m_read ?_); refine skip_read rfl rfl ?_)); simp only [Act.put, List.setIfInBounds_toArray, List.set_cons_succ, List.set_cons_zero, Int.toNat_natCast, Int.toNat_zero, Int.toNat_one, nth_zero, nth_one]) | ((with_reducible refine m_read ?_); refine sched_of rfl rfl (stp_load_blk (T := 22) 5 Try.isAgg22 rfl rfl rfl ?_); simp only [Act.put, List.setIfInBounds_toArray, List.set_cons_succ, List.set_cons_zero, Int.toNat_natCast, Int.toNat_zero, Int.toNat_one, nth_zero, nth_one]) | ((with_reducible refine m_pure ?_); refine run_pure rfl rfl (fun K hK => ?_); go_simp; refine hK _ ?_; clear hK K))
      refine sched_nil ?_
      simp only [NoPanic, WithK]
      refine ⟨?_, ?_⟩
      · refine fork_op rfl ?_
        ((with_reducible refine g_bs (T := 22) ?_); refine seq_bsL (n := 5) (k := 1) (z := .int .i64 0) (T := 22) hS Try.underlying22 Try.sizeOf3 Try.zeroValue3 (by decide) (by decide) (fill5 _ _ _ _ _) rfl rfl (fun _ _ hS => ?_); simp only [Act.put, List.setIfInBounds_toArray, List.set_cons_succ, List.set_cons_zero, Int.toNat_natCast, Int.toNat_zero, Int.toNat_one, nth_zero, nth_one]; simp only [List.cons_append, List.nil_append, List.set_cons_succ, List.set_cons_zero, Value.cells, iv_snoc, tv_snoc] at hS)
        refine ext_end (hS.sub (by repeat (first | exact List.Sublist.refl _ | apply List.Sublist.cons_cons | apply List.Sublist.cons | exact List.nil_sublist _))) ?_
        refine tr_line ?_
        refine ext_at rfl ?_
        go_wp2_with (fail)
        refine (around_any _ _ _ (by omega) (by omega) hb).mono ?_
        rintro e w' ⟨rfl, rfl⟩
        simp only []
        go_step
        rw [HP.out]
        refine ext_end (hS.sub (by repeat (first | exact List.Sublist.refl _ | apply List.Sublist.cons_cons | apply List.Sublist.cons | exact List.nil_sublist _))) ?_
        repeat (first | ((first | ((with_reducible refine m_pure ?_); refine skip_pure rfl rfl ?_) | ((with_reducible refine m_read ?_); refine skip_read rfl rfl ?_)); simp only [Act.put, List.setIfInBounds_toArray, List.set_cons_succ, List.set_cons_zero, Int.toNat_natCast, Int.toNat_zero, Int.toNat_one, nth_zero, nth_one]) | ((with_reducible refine m_pure ?_); refine sched_any rfl rfl (any_index_at (T := 22) Try.underlying22 Try.sizeOf3 rfl rfl (by omega) (by omega) ?_); simp only [Act.put, List.setIfInBounds_toArray, List.set_cons_succ, List.set_cons_zero, Int.toNat_natCast, Int.toNat_zero, Int.toNat_one, nth_zero, nth_one]; simp only [Nat.zero_add, Int.toNat_natCast]) | ((with_reducible refine m_pure ?_); refine run_pure rfl rfl (fun K hK => ?_); go_simp; refine hK _ ?_; clear hK K))
        refine ext_at rfl ?_
        ((with_reducible refine g_load (T := 3) ?_); refine seq_of hS rfl (stp_load_blk (T := 3) 6 Try.isAgg3 rfl rfl HV.out ?_); simp only [Act.put, List.setIfInBounds_toArray, List.set_cons_succ, List.set_cons_zero, Int.toNat_natCast, Int.toNat_zero, Int.toNat_one, nth_zero, nth_one])
        refine ext_end (hS.sub (by repeat (first | exact List.Sublist.refl _ | apply List.Sublist.cons_cons | apply List.Sublist.cons | exact List.nil_sublist _))) ?_
        repeat (first | ((first | ((with_reducible refine m_pure ?_); refine skip_pure rfl rfl ?_) | ((with_reducible refine m_read ?_); refine skip_read rfl rfl ?_)); simp only [Act.put, List.setIfInBounds_toArray, List.set_cons_succ, List.set_cons_zero, Int.toNat_natCast, Int.toNat_zero, Int.toNat_one, nth_zero, nth_one]) | ((with_reducible refine m_pure ?_); refine sched_any rfl rfl (any_index_at (T := 22) Try.underlying22 Try.sizeOf3 rfl rfl (by omega) (by omega) ?_); simp only [Act.put, List.setIfInBounds_toArray, List.set_cons_succ, List.set_cons_zero, Int.toNat_natCast, Int.toNat_zero, Int.toNat_one, nth_zero, nth_one]; simp only [Nat.zero_add, Int.toNat_natCast]) | ((with_reducible refine m_pure ?_); refine run_pure rfl rfl (fun K hK => ?_); go_simp; refine hK _ ?_; clear hK K))
        refine mut_at rfl ?_
        ((with_reducible refine g_store (T := 3) ?_); refine seq_store_row (T := 3) 1 hS rfl rfl rfl (by omega) Try.sizeOf3 (fun _ hS => ?_); simp only [Act.put, List.setIfInBounds_toArray, List.set_cons_succ, List.set_cons_zero, Int.toNat_natCast, Int.toNat_zero, Int.toNat_one, nth_zero, nth_one]; simp only [List.cons_append, List.nil_append, List.set_cons_succ, List.set_cons_zero, Value.cells, iv_snoc, tv_snoc] at hS)
        refine mut_end ?_
        refine sched_nil ?_
        simp only [NoPanic]
        go_wp2_with (first | ((with_reducible refine g_load (T := 25) ?_); refine seq_of hS rfl (stp_load_all (T := 25) 5 Try.isAgg25 Try.sizeOf25 rfl rfl rfl ?_); simp only [Act.put, List.setIfInBounds_toArray, List.set_cons_succ, List.set_cons_zero, Int.toNat_natCast, Int.toNat_zero, Int.toNat_one, nth_zero, nth_one]) | ((with_reducible refine g_store (T := 25) ?_); refine seq_store (T := 25) (u := .agg #[.slice _ _ _, .slice _ _ _]) 4 hS rfl rfl rfl Try.sizeOf25 (by simp [Value.cells, Value.oneCell']) (by simp [Value.cells]) (fun _ hS => ?_); simp only [Act.put, List.setIfInBounds_toArray, List.set_cons_succ, List.set_cons_zero, Int.toNat_natCast, Int.toNat_zero, Int.toNat_one, nth_zero, nth_one]; simp only [List.cons_append, List.nil_append, List.set_cons_succ, List.set_cons_zero, Value.cells, iv_snoc, tv_snoc] at hS; simp only [List.take_zero, List.nil_append, List.append_nil, List.drop_succ_cons, List.drop_zero, List.drop_nil, List.take_succ_cons, List.cons_append, List.size_toArray, List.length_cons, List.length_nil, Nat.reduceAdd] at hS))
        refine ret_cell1 4 hS rfl rfl rfl Try.isAgg25 Try.sizeOf25 rfl rfl ?_
        have hl : W.length = (W.set k v).length := by simp
        rw [hl] at hS ⊢
        refine ⟨_, W.set k v, N, rfl, hS.toBelow (by simp), ⟨_, _, _, _, rfl, hS.resultInts 0 rfl (fun x hx => ?_), hS.resultTris 1 rfl hnb⟩, by rw [List.length_set]; exact hwl⟩
        rcases List.mem_or_eq_of_mem_set hx with h | h
        · exact hwb x h
        · subst h; exact hvi
      · refine fork_op rfl ?_
        go_wp2_with (fail)
        refine (around_any _ _ _ (by omega) (by omega) hb).mono ?_
        rintro e w' ⟨rfl, rfl⟩
        simp only []
        go_step
        rw [HP.out]
        refine ext_end hS ?_
        refine tr_line ?_
        refine ext_at rfl ?_
        ((with_reducible refine g_bs (T := 22) ?_); refine seq_bsL (n := 5) (k := 1) (z := .int .i64 0) (T := 22) hS Try.underlying22 Try.sizeOf3 Try.zeroValue3 (by decide) (by decide) (fill5 _ _ _ _ _) rfl rfl (fun _ _ hS => ?_); simp only [Act.put, List.setIfInBounds_toArray, List.set_cons_succ, List.set_cons_zero, Int.toNat_natCast, Int.toNat_zero, Int.toNat_one, nth_zero, nth_one]; simp only [List.cons_append, List.nil_append, List.set_cons_succ, List.set_cons_zero, Value.cells, iv_snoc, tv_snoc] at hS)
        refine ext_end (hS.sub (by repeat (first | exact List.Sublist.refl _ | apply List.Sublist.cons_cons | apply List.Sublist.cons | exact List.nil_sublist _))) ?_
        repeat (first | ((first | ((with_reducible refine m_pure ?_); refine skip_pure rfl rfl ?_) | ((with_reducible refine m_read ?_); refine skip_read rfl rfl ?_)); simp only [Act.put, List.setIfInBounds_toArray, List.set_cons_succ, List.set_cons_zero, Int.toNat_natCast, Int.toNat_zero, Int.toNat_one, nth_zero, nth_one]) | ((with_reducible refine m_pure ?_); refine sched_any rfl rfl (any_index_at (T := 22) Try.underlying22 Try.sizeOf3 rfl rfl (by omega) (by omega) ?_); simp only [Act.put, List.setIfInBounds_toArray, List.set_cons_succ, List.set_cons_zero, Int.toNat_natCast, Int.toNat_zero, Int.toNat_one, nth_zero, nth_one]; simp only [Nat.zero_add, Int.toNat_natCast]) | ((with_reducible refine m_pure ?_); refine run_pure rfl rfl (fun K hK => ?_); go_simp; refine hK _ ?_; clear hK K))
        refine ext_at rfl ?_
        ((with_reducible refine g_load (T := 3) ?_); refine seq_of hS rfl (stp_load_blk (T := 3) 6 Try.isAgg3 rfl rfl HV.out ?_); simp only [Act.put, List.setIfInBounds_toArray, List.set_cons_succ, List.set_cons_zero, Int.toNat_natCast, Int.toNat_zero, Int.toNat_one, nth_zero, nth_one])
        refine ext_end (hS.sub (by repeat (first | exact List.Sublist.refl _ | apply List.Sublist.cons_cons | apply List.Sublist.cons | exact List.nil_sublist _))) ?_
        repeat (first | ((first | ((with_reducible refine m_pure ?_); refine skip_pure rfl rfl ?_) | ((with_reducible refine m_read ?_); refine skip_read rfl rfl ?_)); simp only [Act.put, List.setIfInBounds_toArray, List.set_cons_succ, List.set_cons_zero, Int.toNat_natCast, Int.toNat_zero, Int.toNat_one, nth_zero, nth_one]) | ((with_reducible refine m_pure ?_); refine sched_any rfl rfl (any_index_at (T := 22) Try.underlying22 Try.sizeOf3 rfl rfl (by omega) (by omega) ?_); simp only [Act.put, List.setIfInBounds_toArray, List.set_cons_succ, List.set_cons_zero, Int.toNat_natCast, Int.toNat_zero, Int.toNat_one, nth_zero, nth_one]; simp only [Nat.zero_add, Int.toNat_natCast]) | ((with_reducible refine m_pure ?_); refine run_pure rfl rfl (fun K hK => ?_); go_simp; refine hK _ ?_; clear hK K))
        refine mut_at rfl ?_
        ((with_reducible refine g_store (T := 3) ?_); refine seq_store_row (T := 3) 1 hS rfl rfl rfl (by omega) Try.sizeOf3 (fun _ hS => ?_); simp only [Act.put, List.setIfInBounds_toArray, List.set_cons_succ, List.set_cons_zero, Int.toNat_natCast, Int.toNat_zero, Int.toNat_one, nth_zero, nth_one]; simp only [List.cons_append, List.nil_append, List.set_cons_succ, List.set_cons_zero, Value.cells, iv_snoc, tv_snoc] at hS)
        refine mut_end ?_
        refine sched_nil ?_
        simp only [NoPanic]
        go_wp2_with (first | ((with_reducible refine g_load (T := 25) ?_); refine seq_of hS rfl (stp_load_all (T := 25) 5 Try.isAgg25 Try.sizeOf25 rfl rfl rfl ?_); simp only [Act.put, List.setIfInBounds_toArray, List.set_cons_succ, List.set_cons_zero, Int.toNat_natCast, Int.toNat_zero, Int.toNat_one, nth_zero, nth_one]) | ((with_reducible refine g_store (T := 25) ?_); refine seq_store (T := 25) (u := .agg #[.slice _ _ _, .slice _ _ _]) 4 hS rfl rfl rfl Try.sizeOf25 (by simp [Value.cells, Value.oneCell']) (by simp [Value.cells]) (fun _ hS => ?_); simp only [Act.put, List.setIfInBounds_toArray, List.set_cons_succ, List.set_cons_zero, Int.toNat_natCast, Int.toNat_zero, Int.toNat_one, nth_zero, nth_one]; simp only [List.cons_append, List.nil_append, List.set_cons_succ, List.set_cons_zero, Value.cells, iv_snoc, tv_snoc] at hS; simp only [List.take_zero, List.nil_append, List.append_nil, List.drop_succ_cons, List.drop_zero, List.drop_nil, List.take_succ_cons, List.cons_append, List.size_toArray, List.length_cons, List.length_nil, Nat.reduceAdd] at hS))
        refine ret_cell1 4 hS rfl rfl rfl Try.isAgg25 Try.sizeOf25 rfl rfl ?_
        have hl : W.length = (W.set k v).length := by simp
        rw [hl] at hS ⊢
        refine ⟨_, W.set k v, N, rfl, hS.toBelow (by simp), ⟨_, _, _, _, rfl, hS.resultInts 0 rfl (fun x hx => ?_), hS.resultTris 1 rfl hnb⟩, by rw [List.length_set]; exact hwl⟩
        rcases List.mem_or_eq_of_mem_set hx with h | h
        · exact hwb x h
        · subst h; exact hvi
    · -- a border more
      have HQ := Lib.hid hq
      clear hq
      go_wp2_with (first | ((with_reducible refine g_load (T := 22) ?_); refine seq_of hS rfl (stp_load_blk (T := 22) 5 Try.isAgg22 rfl rfl rfl ?_); simp only [Act.put, List.setIfInBounds_toArray, List.set_cons_succ, List.set_cons_zero, Int.toNat_natCast, Int.toNat_zero, Int.toNat_one, nth_zero, nth_one]) | ((with_reducible refine g_load (T := 23) ?_); refine seq_of hS rfl (stp_load_blk (T := 23) 5 Try.isAgg23 rfl rfl rfl ?_); simp only [Act.put, List.setIfInBounds_toArray, List.set_cons_succ, List.set_cons_zero, Int.toNat_natCast, Int.toNat_zero, Int.toNat_one, nth_zero, nth_one]) | (go_at_call 10; refine (around_any _ _ _ (by omega) (by omega) (by with_reducible assumption)).mono ?_; rintro e w' ⟨rfl, rfl⟩; first | rw [HK.out] | rw [HQ.out]) | ((with_reducible refine g_bs (T := 23) ?_); refine seq_bs1 (T := 23) (v := .agg _) hS Try.underlying23 Try.sizeOf55 Try.zeroValue55 rfl rfl rfl (by decide) (by decide) rfl (fun _ _ hS => ?_); simp only [Act.put, List.setIfInBounds_toArray, List.set_cons_succ, List.set_cons_zero, Int.toNat_natCast, Int.toNat_zero, Int.toNat_one, nth_zero, nth_one]; simp only [Value.cells] at hS) | ((with_reducible refine g_app ?_); refine seq_append_lit (t := 23) 2 hS Try.underlying23 Try.info55 rfl (by decide) rfl rfl rfl rfl (by simp [Value.oneCell']) (by omega) (by unfold maxLen; omega) (fun _ _ _ hS => ?_); simp only [Act.put, List.setIfInBounds_toArray, List.set_cons_succ, List.set_cons_zero, Int.toNat_natCast, Int.toNat_zero, Int.toNat_one, nth_zero, nth_one]; simp only [List.cons_append, List.nil_append, List.set_cons_succ, List.set_cons_zero, Value.cells, iv_snoc, tv_snoc] at hS) | ((with_reducible refine g_store (T := 23) ?_); refine seq_store (T := 23) (u := .slice _ _ _) 5 hS rfl rfl rfl Try.sizeOf23 (by simp [Value.cells, Value.oneCell']) (by simp [Value.cells]) (fun _ hS => ?_); simp only [Act.put, List.setIfInBounds_toArray, List.set_cons_succ, List.set_cons_zero, Int.toNat_natCast, Int.toNat_zero, Int.toNat_one, nth_zero, nth_one]; simp only [List.cons_append, List.nil_append, List.set_cons_succ, List.set_cons_zero, Value.cells, iv_snoc, tv_snoc] at hS; simp only [List.take_zero, List.nil_append, List.append_nil, List.drop_succ_cons, List.drop_zero, List.drop_nil, List.take_succ_cons, List.cons_append, List.size_toArray, List.length_cons, List.length_nil, Nat.reduceAdd] at hS) | ((with_reducible refine g_load (T := 25) ?_); refine seq_of hS rfl (stp_load_all (T := 25) 5 Try.isAgg25 Try.sizeOf25 rfl rfl rfl ?_); simp only [Act.put, List.setIfInBounds_toArray, List.set_cons_succ, List.set_cons_zero, Int.toNat_natCast, Int.toNat_zero, Int.toNat_one, nth_zero, nth_one]) | ((with_reducible refine g_store (T := 25) ?_); refine seq_store (T := 25) (u := .agg #[.slice _ _ _, .slice _ _ _]) 4 hS rfl rfl rfl Try.sizeOf25 (by simp [Value.cells, Value.oneCell']) (by simp [Value.cells]) (fun _ hS => ?_); simp only [Act.put, List.setIfInBounds_toArray, List.set_cons_succ, List.set_cons_zero, Int.toNat_natCast, Int.toNat_zero, Int.toNat_one, nth_zero, nth_one]; simp only [List.cons_append, List.nil_append, List.set_cons_succ, List.set_cons_zero, Value.cells, iv_snoc, tv_snoc] at hS; simp only [List.take_zero, List.nil_append, List.append_nil, List.drop_succ_cons, List.drop_zero, List.drop_nil, List.take_succ_cons, List.cons_append, List.size_toArray, List.length_cons, List.length_nil, Nat.reduceAdd] at hS))
      refine ret_cell1 4 hS rfl rfl rfl Try.isAgg25 Try.sizeOf25 rfl rfl ?_
      rw [HWK.out] at hS
      have ht := tv_snoc N ((k : Int), ((W.length - 1 : Nat) : Int), by')
      simp only at ht
      rw [ht] at hS
      have hl : N.length + 1 = (N ++ [((k : Int), ((W.length - 1 : Nat) : Int), by')]).length := by simp
      rw [hl] at hS ⊢
      refine ⟨_, W, _, rfl, hS.toBelow (by simp), ⟨_, _, _, _, rfl, hS.resultInts 0 rfl hwb, hS.resultTris 1 rfl (fun e he => ?_)⟩, hwl⟩
      rcases List.mem_append.1 he with h | h
      · exact hnb e h
      · simp only [List.mem_singleton] at h; subst h; exact ⟨by unfold InI; simp only; omega, by unfold InI; simp only; omega, hb⟩
    · -- a border ahead
      have HQ := Lib.hid hq
      clear hq
      have hr := aro_lt by' (most := (W.length : Int) + 1) (by omega)
      obtain ⟨r, hr'⟩ : ∃ r : Nat, aro by' ((W.length : Int) + 1) = (r : Int) := ⟨(aro by' ((W.length : Int) + 1)).toNat, by omega⟩
      rw [hr'] at hr
      have HR := Lib.hid hr'
      clear hr'
      go_wp2_with (first | ((with_reducible refine g_load (T := 22) ?_); refine seq_of hS rfl (stp_load_blk (T := 22) 5 Try.isAgg22 rfl rfl rfl ?_); simp only [Act.put, List.setIfInBounds_toArray, List.set_cons_succ, List.set_cons_zero, Int.toNat_natCast, Int.toNat_zero, Int.toNat_one, nth_zero, nth_one]) | (go_at_call 10; refine (around_any _ _ _ (by omega) (by omega) (by with_reducible assumption)).mono ?_; rintro e w' ⟨rfl, rfl⟩; first | rw [HK.out] | rw [HQ.out]))
      refine wp_region_sched [.pure 0, .pure 1, .pure 2, .read 3, .pure 4, .pure 5, .pure 9, .read 10, .ext 6, .pure 7, .ext 8, .mutt 11, .pure 12, .mutt 13] [11, 13] (fun w' => Heap w w' _) (by kernel_rfl) (by kernel_rfl) hS.drew (fun w1 hS => ?_)
      repeat (first | ((first | ((with_reducible refine m_pure ?_); refine skip_pure rfl rfl ?_) | ((with_reducible refine m_read ?_); refine skip_read rfl rfl ?_)); simp only [Act.put, List.setIfInBounds_toArray, List.set_cons_succ, List.set_cons_zero, Int.toNat_natCast, Int.toNat_zero, Int.toNat_one, nth_zero, nth_one]) | ((with_reducible refine m_read ?_); refine sched_of rfl rfl (stp_load_blk (T := 22) 5 Try.isAgg22 rfl rfl rfl ?_); simp only [Act.put, List.setIfInBounds_toArray, List.set_cons_succ, List.set_cons_zero, Int.toNat_natCast, Int.toNat_zero, Int.toNat_one, nth_zero, nth_one]) | ((with_reducible refine m_read ?_); refine sched_of rfl rfl (stp_load_blk (T := 23) 5 Try.isAgg23 rfl rfl rfl ?_); simp only [Act.put, List.setIfInBounds_toArray, List.set_cons_succ, List.set_cons_zero, Int.toNat_natCast, Int.toNat_zero, Int.toNat_one, nth_zero, nth_one]) | ((with_reducible refine m_pure ?_); refine run_pure rfl rfl (fun K hK => ?_); go_simp; refine hK _ ?_; clear hK K))
      refine ext_at rfl ?_
      go_wp2_with (fail)
      refine (around_any _ _ _ (by omega) (by omega) hb).mono ?_
      rintro e w' ⟨rfl, rfl⟩
      simp only []
      go_step
      rw [HR.out]
      refine ext_end hS ?_
      repeat (first | ((first | ((with_reducible refine m_pure ?_); refine skip_pure rfl rfl ?_) | ((with_reducible refine m_read ?_); refine skip_read rfl rfl ?_)); simp only [Act.put, List.setIfInBounds_toArray, List.set_cons_succ, List.set_cons_zero, Int.toNat_natCast, Int.toNat_zero, Int.toNat_one, nth_zero, nth_one]) | fail | ((with_reducible refine m_pure ?_); refine run_pure rfl rfl (fun K hK => ?_); go_simp; refine hK _ ?_; clear hK K))
      refine ext_at rfl ?_
      ((with_reducible refine g_bs (T := 23) ?_); refine seq_bs1 (T := 23) (v := .agg _) hS Try.underlying23 Try.sizeOf55 Try.zeroValue55 rfl rfl rfl (by decide) (by decide) rfl (fun _ _ hS => ?_); simp only [Act.put, List.setIfInBounds_toArray, List.set_cons_succ, List.set_cons_zero, Int.toNat_natCast, Int.toNat_zero, Int.toNat_one, nth_zero, nth_one]; simp only [Value.cells] at hS)
      refine ext_end (hS.sub (by repeat (first | exact List.Sublist.refl _ | apply List.Sublist.cons_cons | apply List.Sublist.cons | exact List.nil_sublist _))) ?_
      simp only [List.cons_append, List.nil_append, List.set_cons_succ, List.set_cons_zero, Value.cells, iv_snoc, tv_snoc] at hS
      have hN := hS.rowSl 2 rfl
      have hS := (hS.freeze 2 rfl).toRow (k := 3) (m := 1) 6 rfl rfl (by decide)
      simp only [List.cons_append, List.nil_append, List.set_cons_succ, List.set_cons_zero, Value.cells, iv_snoc, tv_snoc] at hS
      refine mut_at rfl ?_
      ((with_reducible refine g_app ?_); refine seq_append (t := 23) 6 hS Try.underlying23 Try.info55 rfl (by decide) rfl rfl rfl hN (by simp) (tv_one N) (by omega) (by unfold maxLen; omega) (fun a4 c4 _ hS => ?_); simp only [Act.put, List.setIfInBounds_toArray, List.set_cons_succ, List.set_cons_zero, Int.toNat_natCast, Int.toNat_zero, Int.toNat_one, nth_zero, nth_one]; simp only [List.cons_append, List.nil_append, List.set_cons_succ, List.set_cons_zero, Value.cells, iv_snoc, tv_snoc] at hS; try simp only [List.nil_append, Nat.zero_add] at hS ⊢)
      refine mut_end ?_
      repeat (first | ((first | ((with_reducible refine m_pure ?_); refine skip_pure rfl rfl ?_) | ((with_reducible refine m_read ?_); refine skip_read rfl rfl ?_)); simp only [Act.put, List.setIfInBounds_toArray, List.set_cons_succ, List.set_cons_zero, Int.toNat_natCast, Int.toNat_zero, Int.toNat_one, nth_zero, nth_one]) | fail | ((with_reducible refine m_pure ?_); refine run_pure rfl rfl (fun K hK => ?_); go_simp; refine hK _ ?_; clear hK K))
      refine mut_at rfl ?_
      ((with_reducible refine g_store (T := 23) ?_); refine seq_store (T := 23) (u := .slice _ _ _) 5 hS rfl rfl rfl Try.sizeOf23 (by simp [Value.cells, Value.oneCell']) (by simp [Value.cells]) (fun _ hS => ?_); simp only [Act.put, List.setIfInBounds_toArray, List.set_cons_succ, List.set_cons_zero, Int.toNat_natCast, Int.toNat_zero, Int.toNat_one, nth_zero, nth_one]; simp only [List.cons_append, List.nil_append, List.set_cons_succ, List.set_cons_zero, Value.cells, iv_snoc, tv_snoc] at hS; simp only [List.take_zero, List.nil_append, List.append_nil, List.drop_succ_cons, List.drop_zero, List.drop_nil, List.take_succ_cons, List.cons_append, List.size_toArray, List.length_cons, List.length_nil, Nat.reduceAdd] at hS)
      refine mut_end ?_
      refine sched_nil ?_
      simp only [NoPanic]
      go_wp2_with (first | ((with_reducible refine g_load (T := 25) ?_); refine seq_of hS rfl (stp_load_all (T := 25) 5 Try.isAgg25 Try.sizeOf25 rfl rfl rfl ?_); simp only [Act.put, List.setIfInBounds_toArray, List.set_cons_succ, List.set_cons_zero, Int.toNat_natCast, Int.toNat_zero, Int.toNat_one, nth_zero, nth_one]) | ((with_reducible refine g_store (T := 25) ?_); refine seq_store (T := 25) (u := .agg #[.slice _ _ _, .slice _ _ _]) 4 hS rfl rfl rfl Try.sizeOf25 (by simp [Value.cells, Value.oneCell']) (by simp [Value.cells]) (fun _ hS => ?_); simp only [Act.put, List.setIfInBounds_toArray, List.set_cons_succ, List.set_cons_zero, Int.toNat_natCast, Int.toNat_zero, Int.toNat_one, nth_zero, nth_one]; simp only [List.cons_append, List.nil_append, List.set_cons_succ, List.set_cons_zero, Value.cells, iv_snoc, tv_snoc] at hS; simp only [List.take_zero, List.nil_append, List.append_nil, List.drop_succ_cons, List.drop_zero, List.drop_nil, List.take_succ_cons, List.cons_append, List.size_toArray, List.length_cons, List.length_nil, Nat.reduceAdd] at hS))
      refine ret_cell1 4 hS rfl rfl rfl Try.isAgg25 Try.sizeOf25 rfl rfl ?_
      have h5 := hS.result (T := 55) (k := 3) (n := 1 + N.length) (v := .slice a4 (1 + N.length) c4) (cs := tv (((k : Int), (r : Int), (1 : Int)) :: N)) (by simp [tv, enc3])
      have hl : 1 + N.length = (((k : Int), (r : Int), (1 : Int)) :: N).length := by simp; omega
      rw [hl] at h5 ⊢
      refine ⟨_, W, _, rfl, hS.toBelow (by simp), ⟨_, _, _, _, rfl, hS.resultInts 0 rfl hwb, ⟨h5, fun e he => ?_⟩⟩, hwl⟩
      rcases List.mem_cons.1 he with h | h
      · subst h; exact ⟨by unfold InI; simp only; omega, by unfold InI; simp only; omega, by unfold InI; simp only; omega⟩
      · exact hnb e h
    · -- a part of a border
      have HQ := Lib.hid hq
      clear hq
      by_cases h0 : N.length = 0
      · have f1 : (((N.length : Nat) : Int) == 0) = true := by simp [h0]
        have f2 : decide (0 < N.length) = false := by simp [h0]
        go_wp2_with (first | ((with_reducible refine g_load (T := 22) ?_); refine seq_of hS rfl (stp_load_blk (T := 22) 5 Try.isAgg22 rfl rfl rfl ?_); simp only [Act.put, List.setIfInBounds_toArray, List.set_cons_succ, List.set_cons_zero, Int.toNat_natCast, Int.toNat_zero, Int.toNat_one, nth_zero, nth_one]) | ((with_reducible refine g_load (T := 23) ?_); refine seq_of hS rfl (stp_load_blk (T := 23) 5 Try.isAgg23 rfl rfl rfl ?_); simp only [Act.put, List.setIfInBounds_toArray, List.set_cons_succ, List.set_cons_zero, Int.toNat_natCast, Int.toNat_zero, Int.toNat_one, nth_zero, nth_one]) | (go_at_call 10; refine (around_any _ _ _ (by omega) (by omega) (by with_reducible assumption)).mono ?_; rintro e w' ⟨rfl, rfl⟩; first | rw [HK.out] | rw [HQ.out]) | ((with_reducible refine g_load (T := 25) ?_); refine seq_of hS rfl (stp_load_all (T := 25) 5 Try.isAgg25 Try.sizeOf25 rfl rfl rfl ?_); simp only [Act.put, List.setIfInBounds_toArray, List.set_cons_succ, List.set_cons_zero, Int.toNat_natCast, Int.toNat_zero, Int.toNat_one, nth_zero, nth_one]) | ((with_reducible refine g_store (T := 25) ?_); refine seq_store (T := 25) (u := .agg #[.slice _ _ _, .slice _ _ _]) 4 hS rfl rfl rfl Try.sizeOf25 (by simp [Value.cells, Value.oneCell']) (by simp [Value.cells]) (fun _ hS => ?_); simp only [Act.put, List.setIfInBounds_toArray, List.set_cons_succ, List.set_cons_zero, Int.toNat_natCast, Int.toNat_zero, Int.toNat_one, nth_zero, nth_one]; simp only [List.cons_append, List.nil_append, List.set_cons_succ, List.set_cons_zero, Value.cells, iv_snoc, tv_snoc] at hS; simp only [List.take_zero, List.nil_append, List.append_nil, List.drop_succ_cons, List.drop_zero, List.drop_nil, List.take_succ_cons, List.cons_append, List.size_toArray, List.length_cons, List.length_nil, Nat.reduceAdd] at hS))
        refine ret_cell1 4 hS rfl rfl rfl Try.isAgg25 Try.sizeOf25 rfl rfl ?_
        exact ⟨_, W, N, rfl, hS.toBelow (by simp), ⟨_, _, _, _, rfl, hS.resultInts 0 rfl hwb, hS.resultTris 1 rfl hnb⟩, hwl⟩
      · have f2 : decide (0 < N.length) = true := by simp; omega
        have hi := aro_lt at' (most := N.length) (by omega)
        obtain ⟨i, hi'⟩ : ∃ i : Nat, aro at' N.length = (i : Int) := ⟨(aro at' N.length).toNat, by omega⟩
        rw [hi'] at hi
        have HI := Lib.hid hi'
        clear hi' h0
        obtain ⟨g2, rfl⟩ := hS.rowAt 2 rfl (by omega)
        have hdv : InI (Int.tdiv by' 3) := by exact tdiv3 by' hb.1 hb.2
        have HW6 : Hid (Go.RowKit.wrap64 (Int.tdiv by' 3) = Int.tdiv by' 3) := by unfold Hid; exact wrap64_id _ hdv.1 hdv.2
        obtain ⟨p, hp⟩ : ∃ p : Nat, aro (Int.tdiv by' 3) 6 = (p : Int) := ⟨(aro (Int.tdiv by' 3) 6).toNat, by have := aro_lt (Int.tdiv by' 3) (most := 6) (by omega); omega⟩
        have hp5 : p < 6 := by have := aro_lt (Int.tdiv by' 3) (most := 6) (by omega); omega
        obtain ⟨v, hv, hvi⟩ : ∃ v, (#[Value.int .i64 by', .int .i64 (-1), .int .i64 0, .int .i64 1, .int .i64 1099511627776, .int .i64 1099511627777] : Array Value)[p]? = some (.int .i64 v) ∧ InI v := by
          rcases (show p = 0 ∨ p = 1 ∨ p = 2 ∨ p = 3 ∨ p = 4 ∨ p = 5 by omega) with rfl | rfl | rfl | rfl | rfl | rfl
          · exact ⟨by', rfl, hb⟩
          · exact ⟨-1, rfl, by unfold InI; omega⟩
          · exact ⟨0, rfl, by unfold InI; omega⟩
          · exact ⟨1, rfl, by unfold InI; omega⟩
          · exact ⟨1099511627776, rfl, by unfold InI; omega⟩
          · exact ⟨1099511627777, rfl, by unfold InI; omega⟩
        have HP := Lib.hid hp
        have HV := Lib.hid hv
        have h3 : aro by' 3 = 0 ∨ aro by' 3 = 1 ∨ aro by' 3 = 2 := by have := aro_lt by' (most := 3) (by omega); omega
        clear hp hv
        rcases h3 with h3 | h3 | h3
        · have H3 := Lib.hid h3
          clear h3
          go_wp2_with (first | ((with_reducible refine g_load (T := 22) ?_); refine seq_of hS rfl (stp_load_blk (T := 22) 5 Try.isAgg22 rfl rfl rfl ?_); simp only [Act.put, List.setIfInBounds_toArray, List.set_cons_succ, List.set_cons_zero, Int.toNat_natCast, Int.toNat_zero, Int.toNat_one, nth_zero, nth_one]) | ((with_reducible refine g_load (T := 23) ?_); refine seq_of hS rfl (stp_load_blk (T := 23) 5 Try.isAgg23 rfl rfl rfl ?_); simp only [Act.put, List.setIfInBounds_toArray, List.set_cons_succ, List.set_cons_zero, Int.toNat_natCast, Int.toNat_zero, Int.toNat_one, nth_zero, nth_one]) | (go_at_call 10; refine (around_any _ _ _ (by omega) (by omega) (by with_reducible assumption)).mono ?_; rintro e w' ⟨rfl, rfl⟩; first | rw [HK.out] | rw [HQ.out] | rw [HI.out]))
          refine wp_region_tr (.fork [.pure 0, .read 1, .pure 2, .pure 3, .pure 5, .pure 7, .pure 8, .pure 12] 4 (.fork [] 6 (.line [.ext 9, .pure 10, .ext 11, .pure 13, .mutt 14]) 9 (.line [.ext 6, .pure 10, .ext 11, .pure 13, .mutt 14])) 6 (.line [.ext 4, .ext 9, .pure 10, .ext 11, .pure 13, .mutt 14])) [14] (fun w' => Heap w w' _) (by kernel_rfl) (by kernel_rfl) hS.drew (fun w1 hS => ?_)
          refine tr_fork ?_
          repeat (first | ((first | ((with_reducible refine m_pure ?_); refine skip_pure rfl rfl ?_) | ((with_reducible refine m_read ?_); refine skip_read rfl rfl ?_)); simp only [Act.put, List.setIfInBounds_toArray, List.set_cons_succ, List.set_cons_zero, Int.toNat_natCast, Int.toNat_zero, Int.toNat_one, nth_zero, nth_one]) | ((with_reducible refine m_read ?_); refine sched_of rfl rfl (stp_load_blk (T := 23) 5 Try.isAgg23 rfl rfl rfl ?_); simp only [Act.put, List.setIfInBounds_toArray, List.set_cons_succ, List.set_cons_zero, Int.toNat_natCast, Int.toNat_zero, Int.toNat_one, nth_zero, nth_one]) | ((with_reducible refine m_pure ?_); refine sched_any rfl rfl (any_index_atk (T := 23) Try.underlying23 Try.sizeOf55 rfl rfl (by omega) (by omega) ?_); simp only [Act.put, List.setIfInBounds_toArray, List.set_cons_succ, List.set_cons_zero, Int.toNat_natCast, Int.toNat_zero, Int.toNat_one, nth_zero, nth_one]; simp only [Nat.zero_add, Int.toNat_natCast]) | ((with_reducible refine m_pure ?_); refine run_pure rfl rfl (fun K hK => ?_); go_simp; refine hK _ ?_; clear hK K))
          refine sched_nil ?_
          simp only [NoPanic, WithK]
          refine ⟨?_, ?_⟩
          · refine fork_op rfl ?_
            go_wp2_with (fail)
            refine (around_any _ _ _ (by omega) (by omega) hb).mono ?_
            rintro e w' ⟨rfl, rfl⟩
            simp only []
            go_step
            rw [H3.out]
            refine ext_end hS ?_
            refine tr_fork ?_
            refine sched_nil ?_
            simp only [NoPanic, WithK]
            refine ⟨?_, ?_⟩
            · refine fork_op rfl ?_
              ((with_reducible refine g_bs (T := 22) ?_); refine seq_bsL (n := 6) (k := 1) (z := .int .i64 0) (T := 22) hS Try.underlying22 Try.sizeOf3 Try.zeroValue3 (by decide) (by decide) (fill6 _ _ _ _ _ _) rfl rfl (fun _ _ hS => ?_); simp only [Act.put, List.setIfInBounds_toArray, List.set_cons_succ, List.set_cons_zero, Int.toNat_natCast, Int.toNat_zero, Int.toNat_one, nth_zero, nth_one]; simp only [List.cons_append, List.nil_append, List.set_cons_succ, List.set_cons_zero, Value.cells, iv_snoc, tv_snoc] at hS)
              refine ext_end (hS.sub (by repeat (first | exact List.Sublist.refl _ | apply List.Sublist.cons_cons | apply List.Sublist.cons | exact List.nil_sublist _))) ?_
              refine tr_line ?_
              refine ext_at rfl ?_
              go_wp2_with (fail)
              rw [HW6.out]
              refine (around_any _ _ _ (by omega) (by omega) hdv).mono ?_
              rintro e w' ⟨rfl, rfl⟩
              simp only []
              go_step
              rw [HP.out]
              refine ext_end (hS.sub (by repeat (first | exact List.Sublist.refl _ | apply List.Sublist.cons_cons | apply List.Sublist.cons | exact List.nil_sublist _))) ?_
              repeat (first | ((first | ((with_reducible refine m_pure ?_); refine skip_pure rfl rfl ?_) | ((with_reducible refine m_read ?_); refine skip_read rfl rfl ?_)); simp only [Act.put, List.setIfInBounds_toArray, List.set_cons_succ, List.set_cons_zero, Int.toNat_natCast, Int.toNat_zero, Int.toNat_one, nth_zero, nth_one]) | ((with_reducible refine m_pure ?_); refine sched_any rfl rfl (any_index_at (T := 22) Try.underlying22 Try.sizeOf3 rfl rfl (by omega) (by omega) ?_); simp only [Act.put, List.setIfInBounds_toArray, List.set_cons_succ, List.set_cons_zero, Int.toNat_natCast, Int.toNat_zero, Int.toNat_one, nth_zero, nth_one]; simp only [Nat.zero_add, Int.toNat_natCast]) | ((with_reducible refine m_pure ?_); refine run_pure rfl rfl (fun K hK => ?_); go_simp; refine hK _ ?_; clear hK K))
              refine ext_at rfl ?_
              ((with_reducible refine g_load (T := 3) ?_); refine seq_of hS rfl (stp_load_blk (T := 3) 6 Try.isAgg3 rfl rfl HV.out ?_); simp only [Act.put, List.setIfInBounds_toArray, List.set_cons_succ, List.set_cons_zero, Int.toNat_natCast, Int.toNat_zero, Int.toNat_one, nth_zero, nth_one])
              refine ext_end (hS.sub (by repeat (first | exact List.Sublist.refl _ | apply List.Sublist.cons_cons | apply List.Sublist.cons | exact List.nil_sublist _))) ?_
              repeat (first | ((first | ((with_reducible refine m_pure ?_); refine skip_pure rfl rfl ?_) | ((with_reducible refine m_read ?_); refine skip_read rfl rfl ?_)); simp only [Act.put, List.setIfInBounds_toArray, List.set_cons_succ, List.set_cons_zero, Int.toNat_natCast, Int.toNat_zero, Int.toNat_one, nth_zero, nth_one]) | fail | ((with_reducible refine m_pure ?_); refine run_pure rfl rfl (fun K hK => ?_); go_simp; refine hK _ ?_; clear hK K))
              refine mut_at rfl ?_
              ((with_reducible refine g_store (T := 3) ?_); refine seq_store_rowv (T := 3) 2 hS rfl rfl rfl (by rw [tv_length]; omega) Try.sizeOf3 (fun _ hS => ?_); simp only [Act.put, List.setIfInBounds_toArray, List.set_cons_succ, List.set_cons_zero, Int.toNat_natCast, Int.toNat_zero, Int.toNat_one, nth_zero, nth_one]; simp only [List.cons_append, List.nil_append, List.set_cons_succ, List.set_cons_zero, Value.cells, iv_snoc, tv_snoc] at hS)
              refine mut_end ?_
              refine sched_nil ?_
              simp only [NoPanic]
              go_wp2_with (first | ((with_reducible refine g_load (T := 25) ?_); refine seq_of hS rfl (stp_load_all (T := 25) 5 Try.isAgg25 Try.sizeOf25 rfl rfl rfl ?_); simp only [Act.put, List.setIfInBounds_toArray, List.set_cons_succ, List.set_cons_zero, Int.toNat_natCast, Int.toNat_zero, Int.toNat_one, nth_zero, nth_one]) | ((with_reducible refine g_store (T := 25) ?_); refine seq_store (T := 25) (u := .agg #[.slice _ _ _, .slice _ _ _]) 4 hS rfl rfl rfl Try.sizeOf25 (by simp [Value.cells, Value.oneCell']) (by simp [Value.cells]) (fun _ hS => ?_); simp only [Act.put, List.setIfInBounds_toArray, List.set_cons_succ, List.set_cons_zero, Int.toNat_natCast, Int.toNat_zero, Int.toNat_one, nth_zero, nth_one]; simp only [List.cons_append, List.nil_append, List.set_cons_succ, List.set_cons_zero, Value.cells, iv_snoc, tv_snoc] at hS; simp only [List.take_zero, List.nil_append, List.append_nil, List.drop_succ_cons, List.drop_zero, List.drop_nil, List.take_succ_cons, List.cons_append, List.size_toArray, List.length_cons, List.length_nil, Nat.reduceAdd] at hS))
              refine ret_cell1 4 hS rfl rfl rfl Try.isAgg25 Try.sizeOf25 rfl rfl ?_
              have hset := tv_set0 (N := N) (i := i) (v := v) (by omega)
              rw [hset] at hS
              obtain ⟨N', hN', hl, hm⟩ : ∃ N', N' = N.set i (v, (nth tz N i).2.1, (nth tz N i).2.2) ∧ N.length = N'.length ∧ ∀ e ∈ N', InT e := ⟨_, rfl, by simp, fun e he => by
                have hi2 := hnb _ (nth_mem tz N i (by omega))
                rcases List.mem_or_eq_of_mem_set he with h | h
                · exact hnb e h
                · subst h; unfold InT at hi2 ⊢; simp only; exact ⟨hvi, hi2.2.1, hi2.2.2⟩⟩
              rw [← hN'] at hS
              rw [hl] at hS ⊢
              exact ⟨_, W, N', rfl, hS.toBelow (by simp), ⟨_, _, _, _, rfl, hS.resultInts 0 rfl hwb, hS.resultTris 1 rfl hm⟩, hwl⟩
            · refine fork_op rfl ?_
              go_wp2_with (fail)
              rw [HW6.out]
              refine (around_any _ _ _ (by omega) (by omega) hdv).mono ?_
              rintro e w' ⟨rfl, rfl⟩
              simp only []
              go_step
              rw [HP.out]
              refine ext_end hS ?_
              refine tr_line ?_
              refine ext_at rfl ?_
              ((with_reducible refine g_bs (T := 22) ?_); refine seq_bsL (n := 6) (k := 1) (z := .int .i64 0) (T := 22) hS Try.underlying22 Try.sizeOf3 Try.zeroValue3 (by decide) (by decide) (fill6 _ _ _ _ _ _) rfl rfl (fun _ _ hS => ?_); simp only [Act.put, List.setIfInBounds_toArray, List.set_cons_succ, List.set_cons_zero, Int.toNat_natCast, Int.toNat_zero, Int.toNat_one, nth_zero, nth_one]; simp only [List.cons_append, List.nil_append, List.set_cons_succ, List.set_cons_zero, Value.cells, iv_snoc, tv_snoc] at hS)
              refine ext_end (hS.sub (by repeat (first | exact List.Sublist.refl _ | apply List.Sublist.cons_cons | apply List.Sublist.cons | exact List.nil_sublist _))) ?_
              repeat (first | ((first | ((with_reducible refine m_pure ?_); refine skip_pure rfl rfl ?_) | ((with_reducible refine m_read ?_); refine skip_read rfl rfl ?_)); simp only [Act.put, List.setIfInBounds_toArray, List.set_cons_succ, List.set_cons_zero, Int.toNat_natCast, Int.toNat_zero, Int.toNat_one, nth_zero, nth_one]) | ((with_reducible refine m_pure ?_); refine sched_any rfl rfl (any_index_at (T := 22) Try.underlying22 Try.sizeOf3 rfl rfl (by omega) (by omega) ?_); simp only [Act.put, List.setIfInBounds_toArray, List.set_cons_succ, List.set_cons_zero, Int.toNat_natCast, Int.toNat_zero, Int.toNat_one, nth_zero, nth_one]; simp only [Nat.zero_add, Int.toNat_natCast]) | ((with_reducible refine m_pure ?_); refine run_pure rfl rfl (fun K hK => ?_); go_simp; refine hK _ ?_; clear hK K))
              refine ext_at rfl ?_
              ((with_reducible refine g_load (T := 3) ?_); refine seq_of hS rfl (stp_load_blk (T := 3) 6 Try.isAgg3 rfl rfl HV.out ?_); simp only [Act.put, List.setIfInBounds_toArray, List.set_cons_succ, List.set_cons_zero, Int.toNat_natCast, Int.toNat_zero, Int.toNat_one, nth_zero, nth_one])
              refine ext_end (hS.sub (by repeat (first | exact List.Sublist.refl _ | apply List.Sublist.cons_cons | apply List.Sublist.cons | exact List.nil_sublist _))) ?_
              repeat (first | ((first | ((with_reducible refine m_pure ?_); refine skip_pure rfl rfl ?_) | ((with_reducible refine m_read ?_); refine skip_read rfl rfl ?_)); simp only [Act.put, List.setIfInBounds_toArray, List.set_cons_succ, List.set_cons_zero, Int.toNat_natCast, Int.toNat_zero, Int.toNat_one, nth_zero, nth_one]) | fail | ((with_reducible refine m_pure ?_); refine run_pure rfl rfl (fun K hK => ?_); go_simp; refine hK _ ?_; clear hK K))
              refine mut_at rfl ?_
              ((with_reducible refine g_store (T := 3) ?_); refine seq_store_rowv (T := 3) 2 hS rfl rfl rfl (by rw [tv_length]; omega) Try.sizeOf3 (fun _ hS => ?_); simp only [Act.put, List.setIfInBounds_toArray, List.set_cons_succ, List.set_cons_zero, Int.toNat_natCast, Int.toNat_zero, Int.toNat_one, nth_zero, nth_one]; simp only [List.cons_append, List.nil_append, List.set_cons_succ, List.set_cons_zero, Value.cells, iv_snoc, tv_snoc] at hS)
              refine mut_end ?_
              refine sched_nil ?_
              simp only [NoPanic]
              go_wp2_with (first | ((with_reducible refine g_load (T := 25) ?_); refine seq_of hS rfl (stp_load_all (T := 25) 5 Try.isAgg25 Try.sizeOf25 rfl rfl rfl ?_); simp only [Act.put, List.setIfInBounds_toArray, List.set_cons_succ, List.set_cons_zero, Int.toNat_natCast, Int.toNat_zero, Int.toNat_one, nth_zero, nth_one]) | ((with_reducible refine g_store (T := 25) ?_); refine seq_store (T := 25) (u := .agg #[.slice _ _ _, .slice _ _ _]) 4 hS rfl rfl rfl Try.sizeOf25 (by simp [Value.cells, Value.oneCell']) (by simp [Value.cells]) (fun _ hS => ?_); simp only [Act.put, List.setIfInBounds_toArray, List.set_cons_succ, List.set_cons_zero, Int.toNat_natCast, Int.toNat_zero, Int.toNat_one, nth_zero, nth_one]; simp only [List.cons_append, List.nil_append, List.set_cons_succ, List.set_cons_zero, Value.cells, iv_snoc, tv_snoc] at hS; simp only [List.take_zero, List.nil_append, List.append_nil, List.drop_succ_cons, List.drop_zero, List.drop_nil, List.take_succ_cons, List.cons_append, List.size_toArray, List.length_cons, List.length_nil, Nat.reduceAdd] at hS))
              refine ret_cell1 4 hS rfl rfl rfl Try.isAgg25 Try.sizeOf25 rfl rfl ?_
              have hset := tv_set0 (N := N) (i := i) (v := v) (by omega)
              rw [hset] at hS
              obtain ⟨N', hN', hl, hm⟩ : ∃ N', N' = N.set i (v, (nth tz N i).2.1, (nth tz N i).2.2) ∧ N.length = N'.length ∧ ∀ e ∈ N', InT e := ⟨_, rfl, by simp, fun e he => by
                have hi2 := hnb _ (nth_mem tz N i (by omega))
                rcases List.mem_or_eq_of_mem_set he with h | h
                · exact hnb e h
                · subst h; unfold InT at hi2 ⊢; simp only; exact ⟨hvi, hi2.2.1, hi2.2.2⟩⟩
              rw [← hN'] at hS
              rw [hl] at hS ⊢
              exact ⟨_, W, N', rfl, hS.toBelow (by simp), ⟨_, _, _, _, rfl, hS.resultInts 0 rfl hwb, hS.resultTris 1 rfl hm⟩, hwl⟩
          · refine fork_op rfl ?_
            ((with_reducible refine g_bs (T := 22) ?_); refine seq_bsL (n := 6) (k := 1) (z := .int .i64 0) (T := 22) hS Try.underlying22 Try.sizeOf3 Try.zeroValue3 (by decide) (by decide) (fill6 _ _ _ _ _ _) rfl rfl (fun _ _ hS => ?_); simp only [Act.put, List.setIfInBounds_toArray, List.set_cons_succ, List.set_cons_zero, Int.toNat_natCast, Int.toNat_zero, Int.toNat_one, nth_zero, nth_one]; simp only [List.cons_append, List.nil_append, List.set_cons_succ, List.set_cons_zero, Value.cells, iv_snoc, tv_snoc] at hS)
            refine ext_end (hS.sub (by repeat (first | exact List.Sublist.refl _ | apply List.Sublist.cons_cons | apply List.Sublist.cons | exact List.nil_sublist _))) ?_
            refine tr_line ?_
            refine ext_at rfl ?_
            go_wp2_with (fail)
            refine (around_any _ _ _ (by omega) (by omega) hb).mono ?_
            rintro e w' ⟨rfl, rfl⟩
            simp only []
            go_step
            rw [H3.out]
            refine ext_end (hS.sub (by repeat (first | exact List.Sublist.refl _ | apply List.Sublist.cons_cons | apply List.Sublist.cons | exact List.nil_sublist _))) ?_
            refine ext_at rfl ?_
            go_wp2_with (fail)
            rw [HW6.out]
            refine (around_any _ _ _ (by omega) (by omega) hdv).mono ?_
            rintro e w' ⟨rfl, rfl⟩
            simp only []
            go_step
            rw [HP.out]
            refine ext_end (hS.sub (by repeat (first | exact List.Sublist.refl _ | apply List.Sublist.cons_cons | apply List.Sublist.cons | exact List.nil_sublist _))) ?_
            repeat (first | ((first | ((with_reducible refine m_pure ?_); refine skip_pure rfl rfl ?_) | ((with_reducible refine m_read ?_); refine skip_read rfl rfl ?_)); simp only [Act.put, List.setIfInBounds_toArray, List.set_cons_succ, List.set_cons_zero, Int.toNat_natCast, Int.toNat_zero, Int.toNat_one, nth_zero, nth_one]) | ((with_reducible refine m_pure ?_); refine sched_any rfl rfl (any_index_at (T := 22) Try.underlying22 Try.sizeOf3 rfl rfl (by omega) (by omega) ?_); simp only [Act.put, List.setIfInBounds_toArray, List.set_cons_succ, List.set_cons_zero, Int.toNat_natCast, Int.toNat_zero, Int.toNat_one, nth_zero, nth_one]; simp only [Nat.zero_add, Int.toNat_natCast]) | ((with_reducible refine m_pure ?_); refine run_pure rfl rfl (fun K hK => ?_); go_simp; refine hK _ ?_; clear hK K))
            refine ext_at rfl ?_
            ((with_reducible refine g_load (T := 3) ?_); refine seq_of hS rfl (stp_load_blk (T := 3) 6 Try.isAgg3 rfl rfl HV.out ?_); simp only [Act.put, List.setIfInBounds_toArray, List.set_cons_succ, List.set_cons_zero, Int.toNat_natCast, Int.toNat_zero, Int.toNat_one, nth_zero, nth_one])
            refine ext_end (hS.sub (by repeat (first | exact List.Sublist.refl _ | apply List.Sublist.cons_cons | apply List.Sublist.cons | exact List.nil_sublist _))) ?_
            repeat (first | ((first | ((with_reducible refine m_pure ?_); refine skip_pure rfl rfl ?_) | ((with_reducible refine m_read ?_); refine skip_read rfl rfl ?_)); simp only [Act.put, List.setIfInBounds_toArray, List.set_cons_succ, List.set_cons_zero, Int.toNat_natCast, Int.toNat_zero, Int.toNat_one, nth_zero, nth_one]) | fail | ((with_reducible refine m_pure ?_); refine run_pure rfl rfl (fun K hK => ?_); go_simp; refine hK _ ?_; clear hK K))
            refine mut_at rfl ?_
            ((with_reducible refine g_store (T := 3) ?_); refine seq_store_rowv (T := 3) 2 hS rfl rfl rfl (by rw [tv_length]; omega) Try.sizeOf3 (fun _ hS => ?_); simp only [Act.put, List.setIfInBounds_toArray, List.set_cons_succ, List.set_cons_zero, Int.toNat_natCast, Int.toNat_zero, Int.toNat_one, nth_zero, nth_one]; simp only [List.cons_append, List.nil_append, List.set_cons_succ, List.set_cons_zero, Value.cells, iv_snoc, tv_snoc] at hS)
            refine mut_end ?_
            refine sched_nil ?_
            simp only [NoPanic]
            go_wp2_with (first | ((with_reducible refine g_load (T := 25) ?_); refine seq_of hS rfl (stp_load_all (T := 25) 5 Try.isAgg25 Try.sizeOf25 rfl rfl rfl ?_); simp only [Act.put, List.setIfInBounds_toArray, List.set_cons_succ, List.set_cons_zero, Int.toNat_natCast, Int.toNat_zero, Int.toNat_one, nth_zero, nth_one]) | ((with_reducible refine g_store (T := 25) ?_); refine seq_store (T := 25) (u := .agg #[.slice _ _ _, .slice _ _ _]) 4 hS rfl rfl rfl Try.sizeOf25 (by simp [Value.cells, Value.oneCell']) (by simp [Value.cells]) (fun _ hS => ?_); simp only [Act.put, List.setIfInBounds_toArray, List.set_cons_succ, List.set_cons_zero, Int.toNat_natCast, Int.toNat_zero, Int.toNat_one, nth_zero, nth_one]; simp only [List.cons_append, List.nil_append, List.set_cons_succ, List.set_cons_zero, Value.cells, iv_snoc, tv_snoc] at hS; simp only [List.take_zero, List.nil_append, List.append_nil, List.drop_succ_cons, List.drop_zero, List.drop_nil, List.take_succ_cons, List.cons_append, List.size_toArray, List.length_cons, List.length_nil, Nat.reduceAdd] at hS))
            refine ret_cell1 4 hS rfl rfl rfl Try.isAgg25 Try.sizeOf25 rfl rfl ?_
            have hset := tv_set0 (N := N) (i := i) (v := v) (by omega)
            rw [hset] at hS
            obtain ⟨N', hN', hl, hm⟩ : ∃ N', N' = N.set i (v, (nth tz N i).2.1, (nth tz N i).2.2) ∧ N.length = N'.length ∧ ∀ e ∈ N', InT e := ⟨_, rfl, by simp, fun e he => by
              have hi2 := hnb _ (nth_mem tz N i (by omega))
              rcases List.mem_or_eq_of_mem_set he with h | h
              · exact hnb e h
              · subst h; unfold InT at hi2 ⊢; simp only; exact ⟨hvi, hi2.2.1, hi2.2.2⟩⟩
            rw [← hN'] at hS
            rw [hl] at hS ⊢
            exact ⟨_, W, N', rfl, hS.toBelow (by simp), ⟨_, _, _, _, rfl, hS.resultInts 0 rfl hwb, hS.resultTris 1 rfl hm⟩, hwl⟩
        · have H3 := Lib.hid h3
          clear h3
          go_wp2_with (first | ((with_reducible refine g_load (T := 22) ?_); refine seq_of hS rfl (stp_load_blk (T := 22) 5 Try.isAgg22 rfl rfl rfl ?_); simp only [Act.put, List.setIfInBounds_toArray, List.set_cons_succ, List.set_cons_zero, Int.toNat_natCast, Int.toNat_zero, Int.toNat_one, nth_zero, nth_one]) | ((with_reducible refine g_load (T := 23) ?_); refine seq_of hS rfl (stp_load_blk (T := 23) 5 Try.isAgg23 rfl rfl rfl ?_); simp only [Act.put, List.setIfInBounds_toArray, List.set_cons_succ, List.set_cons_zero, Int.toNat_natCast, Int.toNat_zero, Int.toNat_one, nth_zero, nth_one]) | (go_at_call 10; refine (around_any _ _ _ (by omega) (by omega) (by with_reducible assumption)).mono ?_; rintro e w' ⟨rfl, rfl⟩; first | rw [HK.out] | rw [HQ.out] | rw [HI.out]))
          refine wp_region_tr (.fork [.pure 0, .read 1, .pure 2, .pure 3, .pure 5, .pure 7, .pure 8, .pure 12] 4 (.fork [] 6 (.line [.ext 9, .pure 10, .ext 11, .pure 13, .mutt 14]) 9 (.line [.ext 6, .pure 10, .ext 11, .pure 13, .mutt 14])) 6 (.line [.ext 4, .ext 9, .pure 10, .ext 11, .pure 13, .mutt 14])) [14] (fun w' => Heap w w' _) (by kernel_rfl) (by kernel_rfl) hS.drew (fun w1 hS => ?_)
          refine tr_fork ?_
          repeat (first | ((first | ((with_reducible refine m_pure ?_); refine skip_pure rfl rfl ?_) | ((with_reducible refine m_read ?_); refine skip_read rfl rfl ?_)); simp only [Act.put, List.setIfInBounds_toArray, List.set_cons_succ, List.set_cons_zero, Int.toNat_natCast, Int.toNat_zero, Int.toNat_one, nth_zero, nth_one]) | ((with_reducible refine m_read ?_); refine sched_of rfl rfl (stp_load_blk (T := 23) 5 Try.isAgg23 rfl rfl rfl ?_); simp only [Act.put, List.setIfInBounds_toArray, List.set_cons_succ, List.set_cons_zero, Int.toNat_natCast, Int.toNat_zero, Int.toNat_one, nth_zero, nth_one]) | ((with_reducible refine m_pure ?_); refine sched_any rfl rfl (any_index_atk (T := 23) Try.underlying23 Try.sizeOf55 rfl rfl (by omega) (by omega) ?_); simp only [Act.put, List.setIfInBounds_toArray, List.set_cons_succ, List.set_cons_zero, Int.toNat_natCast, Int.toNat_zero, Int.toNat_one, nth_zero, nth_one]; simp only [Nat.zero_add, Int.toNat_natCast]) | ((with_reducible refine m_pure ?_); refine run_pure rfl rfl (fun K hK => ?_); go_simp; refine hK _ ?_; clear hK K))
          refine sched_nil ?_
          simp only [NoPanic, WithK]
          refine ⟨?_, ?_⟩
          · refine fork_op rfl ?_
            go_wp2_with (fail)
            refine (around_any _ _ _ (by omega) (by omega) hb).mono ?_
            rintro e w' ⟨rfl, rfl⟩
            simp only []
            go_step
            rw [H3.out]
            refine ext_end hS ?_
            refine tr_fork ?_
            refine sched_nil ?_
            simp only [NoPanic, WithK]
            refine ⟨?_, ?_⟩
            · refine fork_op rfl ?_
              ((with_reducible refine g_bs (T := 22) ?_); refine seq_bsL (n := 6) (k := 1) (z := .int .i64 0) (T := 22) hS Try.underlying22 Try.sizeOf3 Try.zeroValue3 (by decide) (by decide) (fill6 _ _ _ _ _ _) rfl rfl (fun _ _ hS => ?_); simp only [Act.put, List.setIfInBounds_toArray, List.set_cons_succ, List.set_cons_zero, Int.toNat_natCast, Int.toNat_zero, Int.toNat_one, nth_zero, nth_one]; simp only [List.cons_append, List.nil_append, List.set_cons_succ, List.set_cons_zero, Value.cells, iv_snoc, tv_snoc] at hS)
              refine ext_end (hS.sub (by repeat (first | exact List.Sublist.refl _ | apply List.Sublist.cons_cons | apply List.Sublist.cons | exact List.nil_sublist _))) ?_
              refine tr_line ?_
              refine ext_at rfl ?_
              go_wp2_with (fail)
              rw [HW6.out]
              refine (around_any _ _ _ (by omega) (by omega) hdv).mono ?_
              rintro e w' ⟨rfl, rfl⟩
              simp only []
              go_step
              rw [HP.out]
              refine ext_end (hS.sub (by repeat (first | exact List.Sublist.refl _ | apply List.Sublist.cons_cons | apply List.Sublist.cons | exact List.nil_sublist _))) ?_
              repeat (first | ((first | ((with_reducible refine m_pure ?_); refine skip_pure rfl rfl ?_) | ((with_reducible refine m_read ?_); refine skip_read rfl rfl ?_)); simp only [Act.put, List.setIfInBounds_toArray, List.set_cons_succ, List.set_cons_zero, Int.toNat_natCast, Int.toNat_zero, Int.toNat_one, nth_zero, nth_one]) | ((with_reducible refine m_pure ?_); refine sched_any rfl rfl (any_index_at (T := 22) Try.underlying22 Try.sizeOf3 rfl rfl (by omega) (by omega) ?_); simp only [Act.put, List.setIfInBounds_toArray, List.set_cons_succ, List.set_cons_zero, Int.toNat_natCast, Int.toNat_zero, Int.toNat_one, nth_zero, nth_one]; simp only [Nat.zero_add, Int.toNat_natCast]) | ((with_reducible refine m_pure ?_); refine run_pure rfl rfl (fun K hK => ?_); go_simp; refine hK _ ?_; clear hK K))
              refine ext_at rfl ?_
              ((with_reducible refine g_load (T := 3) ?_); refine seq_of hS rfl (stp_load_blk (T := 3) 6 Try.isAgg3 rfl rfl HV.out ?_); simp only [Act.put, List.setIfInBounds_toArray, List.set_cons_succ, List.set_cons_zero, Int.toNat_natCast, Int.toNat_zero, Int.toNat_one, nth_zero, nth_one])
              refine ext_end (hS.sub (by repeat (first | exact List.Sublist.refl _ | apply List.Sublist.cons_cons | apply List.Sublist.cons | exact List.nil_sublist _))) ?_
              repeat (first | ((first | ((with_reducible refine m_pure ?_); refine skip_pure rfl rfl ?_) | ((with_reducible refine m_read ?_); refine skip_read rfl rfl ?_)); simp only [Act.put, List.setIfInBounds_toArray, List.set_cons_succ, List.set_cons_zero, Int.toNat_natCast, Int.toNat_zero, Int.toNat_one, nth_zero, nth_one]) | fail | ((with_reducible refine m_pure ?_); refine run_pure rfl rfl (fun K hK => ?_); go_simp; refine hK _ ?_; clear hK K))
              refine mut_at rfl ?_
              ((with_reducible refine g_store (T := 3) ?_); refine seq_store_rowv (T := 3) 2 hS rfl rfl rfl (by rw [tv_length]; omega) Try.sizeOf3 (fun _ hS => ?_); simp only [Act.put, List.setIfInBounds_toArray, List.set_cons_succ, List.set_cons_zero, Int.toNat_natCast, Int.toNat_zero, Int.toNat_one, nth_zero, nth_one]; simp only [List.cons_append, List.nil_append, List.set_cons_succ, List.set_cons_zero, Value.cells, iv_snoc, tv_snoc] at hS)
              refine mut_end ?_
              refine sched_nil ?_
              simp only [NoPanic]
              go_wp2_with (first | ((with_reducible refine g_load (T := 25) ?_); refine seq_of hS rfl (stp_load_all (T := 25) 5 Try.isAgg25 Try.sizeOf25 rfl rfl rfl ?_); simp only [Act.put, List.setIfInBounds_toArray, List.set_cons_succ, List.set_cons_zero, Int.toNat_natCast, Int.toNat_zero, Int.toNat_one, nth_zero, nth_one]) | ((with_reducible refine g_store (T := 25) ?_); refine seq_store (T := 25) (u := .agg #[.slice _ _ _, .slice _ _ _]) 4 hS rfl rfl rfl Try.sizeOf25 (by simp [Value.cells, Value.oneCell']) (by simp [Value.cells]) (fun _ hS => ?_); simp only [Act.put, List.setIfInBounds_toArray, List.set_cons_succ, List.set_cons_zero, Int.toNat_natCast, Int.toNat_zero, Int.toNat_one, nth_zero, nth_one]; simp only [List.cons_append, List.nil_append, List.set_cons_succ, List.set_cons_zero, Value.cells, iv_snoc, tv_snoc] at hS; simp only [List.take_zero, List.nil_append, List.append_nil, List.drop_succ_cons, List.drop_zero, List.drop_nil, List.take_succ_cons, List.cons_append, List.size_toArray, List.length_cons, List.length_nil, Nat.reduceAdd] at hS))
              refine ret_cell1 4 hS rfl rfl rfl Try.isAgg25 Try.sizeOf25 rfl rfl ?_
              have hset := tv_set1 (N := N) (i := i) (v := v) (by omega)
              rw [hset] at hS
              obtain ⟨N', hN', hl, hm⟩ : ∃ N', N' = N.set i ((nth tz N i).1, v, (nth tz N i).2.2) ∧ N.length = N'.length ∧ ∀ e ∈ N', InT e := ⟨_, rfl, by simp, fun e he => by
                have hi2 := hnb _ (nth_mem tz N i (by omega))
                rcases List.mem_or_eq_of_mem_set he with h | h
                · exact hnb e h
                · subst h; unfold InT at hi2 ⊢; simp only; exact ⟨hi2.1, hvi, hi2.2.2⟩⟩
              rw [← hN'] at hS
              rw [hl] at hS ⊢
              exact ⟨_, W, N', rfl, hS.toBelow (by simp), ⟨_, _, _, _, rfl, hS.resultInts 0 rfl hwb, hS.resultTris 1 rfl hm⟩, hwl⟩
            · refine fork_op rfl ?_
              go_wp2_with (fail)
              rw [HW6.out]
              refine (around_any _ _ _ (by omega) (by omega) hdv).mono ?_
              rintro e w' ⟨rfl, rfl⟩
              simp only []
              go_step
              rw [HP.out]
              refine ext_end hS ?_
              refine tr_line ?_
              refine ext_at rfl ?_
              ((with_reducible refine g_bs (T := 22) ?_); refine seq_bsL (n := 6) (k := 1) (z := .int .i64 0) (T := 22) hS Try.underlying22 Try.sizeOf3 Try.zeroValue3 (by decide) (by decide) (fill6 _ _ _ _ _ _) rfl rfl (fun _ _ hS => ?_); simp only [Act.put, List.setIfInBounds_toArray, List.set_cons_succ, List.set_cons_zero, Int.toNat_natCast, Int.toNat_zero, Int.toNat_one, nth_zero, nth_one]; simp only [List.cons_append, List.nil_append, List.set_cons_succ, List.set_cons_zero, Value.cells, iv_snoc, tv_snoc] at hS)
              refine ext_end (hS.sub (by repeat (first | exact List.Sublist.refl _ | apply List.Sublist.cons_cons | apply List.Sublist.cons | exact List.nil_sublist _))) ?_
              repeat (first | ((first | ((with_reducible refine m_pure ?_); refine skip_pure rfl rfl ?_) | ((with_reducible refine m_read ?_); refine skip_read rfl rfl ?_)); simp only [Act.put, List.setIfInBounds_toArray, List.set_cons_succ, List.set_cons_zero, Int.toNat_natCast, Int.toNat_zero, Int.toNat_one, nth_zero, nth_one]) | ((with_reducible refine m_pure ?_); refine sched_any rfl rfl (any_index_at (T := 22) Try.underlying22 Try.sizeOf3 rfl rfl (by omega) (by omega) ?_); simp only [Act.put, List.setIfInBounds_toArray, List.set_cons_succ, List.set_cons_zero, Int.toNat_natCast, Int.toNat_zero, Int.toNat_one, nth_zero, nth_one]; simp only [Nat.zero_add, Int.toNat_natCast]) | ((with_reducible refine m_pure ?_); refine run_pure rfl rfl (fun K hK => ?_); go_simp; refine hK _ ?_; clear hK K))
              refine ext_at rfl ?_
              ((with_reducible refine g_load (T := 3) ?_); refine seq_of hS rfl (stp_load_blk (T := 3) 6 Try.isAgg3 rfl rfl HV.out ?_); simp only [Act.put, List.setIfInBounds_toArray, List.set_cons_succ, List.set_cons_zero, Int.toNat_natCast, Int.toNat_zero, Int.toNat_one, nth_zero, nth_one])
              refine ext_end (hS.sub (by repeat (first | exact List.Sublist.refl _ | apply List.Sublist.cons_cons | apply List.Sublist.cons | exact List.nil_sublist _))) ?_
              repeat (first | ((first | ((with_reducible refine m_pure ?_); refine skip_pure rfl rfl ?_) | ((with_reducible refine m_read ?_); refine skip_read rfl rfl ?_)); simp only [Act.put, List.setIfInBounds_toArray, List.set_cons_succ, List.set_cons_zero, Int.toNat_natCast, Int.toNat_zero, Int.toNat_one, nth_zero, nth_one]) | fail | ((with_reducible refine m_pure ?_); refine run_pure rfl rfl (fun K hK => ?_); go_simp; refine hK _ ?_; clear hK K))
              refine mut_at rfl ?_
              ((with_reducible refine g_store (T := 3) ?_); refine seq_store_rowv (T := 3) 2 hS rfl rfl rfl (by rw [tv_length]; omega) Try.sizeOf3 (fun _ hS => ?_); simp only [Act.put, List.setIfInBounds_toArray, List.set_cons_succ, List.set_cons_zero, Int.toNat_natCast, Int.toNat_zero, Int.toNat_one, nth_zero, nth_one]; simp only [List.cons_append, List.nil_append, List.set_cons_succ, List.set_cons_zero, Value.cells, iv_snoc, tv_snoc] at hS)
              refine mut_end ?_
              refine sched_nil ?_
              simp only [NoPanic]
              go_wp2_with (first | ((with_reducible refine g_load (T := 25) ?_); refine seq_of hS rfl (stp_load_all (T := 25) 5 Try.isAgg25 Try.sizeOf25 rfl rfl rfl ?_); simp only [Act.put, List.setIfInBounds_toArray, List.set_cons_succ, List.set_cons_zero, Int.toNat_natCast, Int.toNat_zero, Int.toNat_one, nth_zero, nth_one]) | ((with_reducible refine g_store (T := 25) ?_); refine seq_store (T := 25) (u := .agg #[.slice _ _ _, .slice _ _ _]) 4 hS rfl rfl rfl Try.sizeOf25 (by simp [Value.cells, Value.oneCell']) (by simp [Value.cells]) (fun _ hS => ?_); simp only [Act.put, List.setIfInBounds_toArray, List.set_cons_succ, List.set_cons_zero, Int.toNat_natCast, Int.toNat_zero, Int.toNat_one, nth_zero, nth_one]; simp only [List.cons_append, List.nil_append, List.set_cons_succ, List.set_cons_zero, Value.cells, iv_snoc, tv_snoc] at hS; simp only [List.take_zero, List.nil_append, List.append_nil, List.drop_succ_cons, List.drop_zero, List.drop_nil, List.take_succ_cons, List.cons_append, List.size_toArray, List.length_cons, List.length_nil, Nat.reduceAdd] at hS))
              refine ret_cell1 4 hS rfl rfl rfl Try.isAgg25 Try.sizeOf25 rfl rfl ?_
              have hset := tv_set1 (N := N) (i := i) (v := v) (by omega)
              rw [hset] at hS
              obtain ⟨N', hN', hl, hm⟩ : ∃ N', N' = N.set i ((nth tz N i).1, v, (nth tz N i).2.2) ∧ N.length = N'.length ∧ ∀ e ∈ N', InT e := ⟨_, rfl, by simp, fun e he => by
                have hi2 := hnb _ (nth_mem tz N i (by omega))
                rcases List.mem_or_eq_of_mem_set he with h | h
                · exact hnb e h
                · subst h; unfold InT at hi2 ⊢; simp only; exact ⟨hi2.1, hvi, hi2.2.2⟩⟩
              rw [← hN'] at hS
              rw [hl] at hS ⊢
              exact ⟨_, W, N', rfl, hS.toBelow (by simp), ⟨_, _, _, _, rfl, hS.resultInts 0 rfl hwb, hS.resultTris 1 rfl hm⟩, hwl⟩
          · refine fork_op rfl ?_
            ((with_reducible refine g_bs (T := 22) ?_); refine seq_bsL (n := 6) (k := 1) (z := .int .i64 0) (T := 22) hS Try.underlying22 Try.sizeOf3 Try.zeroValue3 (by decide) (by decide) (fill6 _ _ _ _ _ _) rfl rfl (fun _ _ hS => ?_); simp only [Act.put, List.setIfInBounds_toArray, List.set_cons_succ, List.set_cons_zero, Int.toNat_natCast, Int.toNat_zero, Int.toNat_one, nth_zero, nth_one]; simp only [List.cons_append, List.nil_append, List.set_cons_succ, List.set_cons_zero, Value.cells, iv_snoc, tv_snoc] at hS)
            refine ext_end (hS.sub (by repeat (first | exact List.Sublist.refl _ | apply List.Sublist.cons_cons | apply List.Sublist.cons | exact List.nil_sublist _))) ?_
            refine tr_line ?_
            refine ext_at rfl ?_
            go_wp2_with (fail)
            refine (around_any _ _ _ (by omega) (by omega) hb).mono ?_
            rintro e w' ⟨rfl, rfl⟩
            simp only []
            go_step
            rw [H3.out]
            refine ext_end (hS.sub (by repeat (first | exact List.Sublist.refl _ | apply List.Sublist.cons_cons | apply List.Sublist.cons | exact List.nil_sublist _))) ?_
            refine ext_at rfl ?_
            go_wp2_with (fail)
            rw [HW6.out]
            refine (around_any _ _ _ (by omega) (by omega) hdv).mono ?_
            rintro e w' ⟨rfl, rfl⟩
            simp only []
            go_step
            rw [HP.out]
            refine ext_end (hS.sub (by repeat (first | exact List.Sublist.refl _ | apply List.Sublist.cons_cons | apply List.Sublist.cons | exact List.nil_sublist _))) ?_
            repeat (first | ((first | ((with_reducible refine m_pure ?_); refine skip_pure rfl rfl ?_) | ((with_reducible refine m_read ?_); refine skip_read rfl rfl ?_)); simp only [Act.put, List.setIfInBounds_toArray, List.set_cons_succ, List.set_cons_zero, Int.toNat_natCast, Int.toNat_zero, Int.toNat_one, nth_zero, nth_one]) | ((with_reducible refine m_pure ?_); refine sched_any rfl rfl (any_index_at (T := 22) Try.underlying22 Try.sizeOf3 rfl rfl (by omega) (by omega) ?_); simp only [Act.put, List.setIfInBounds_toArray, List.set_cons_succ, List.set_cons_zero, Int.toNat_natCast, Int.toNat_zero, Int.toNat_one, nth_zero, nth_one]; simp only [Nat.zero_add, Int.toNat_natCast]) | ((with_reducible refine m_pure ?_); refine run_pure rfl rfl (fun K hK => ?_); go_simp; refine hK _ ?_; clear hK K))
            refine ext_at rfl ?_
            ((with_reducible refine g_load (T := 3) ?_); refine seq_of hS rfl (stp_load_blk (T := 3) 6 Try.isAgg3 rfl rfl HV.out ?_); simp only [Act.put, List.setIfInBounds_toArray, List.set_cons_succ, List.set_cons_zero, Int.toNat_natCast, Int.toNat_zero, Int.toNat_one, nth_zero, nth_one])
            refine ext_end (hS.sub (by repeat (first | exact List.Sublist.refl _ | apply List.Sublist.cons_cons | apply List.Sublist.cons | exact List.nil_sublist _))) ?_
            repeat (first | ((first | ((with_reducible refine m_pure ?_); refine skip_pure rfl rfl ?_) | ((with_reducible refine m_read ?_); refine skip_read rfl rfl ?_)); simp only [Act.put, List.setIfInBounds_toArray, List.set_cons_succ, List.set_cons_zero, Int.toNat_natCast, Int.toNat_zero, Int.toNat_one, nth_zero, nth_one]) | fail | ((with_reducible refine m_pure ?_); refine run_pure rfl rfl (fun K hK => ?_); go_simp; refine hK _ ?_; clear hK K))
            refine mut_at rfl ?_
            ((with_reducible refine g_store (T := 3) ?_); refine seq_store_rowv (T := 3) 2 hS rfl rfl rfl (by rw [tv_length]; omega) Try.sizeOf3 (fun _ hS => ?_); simp only [Act.put, List.setIfInBounds_toArray, List.set_cons_succ, List.set_cons_zero, Int.toNat_natCast, Int.toNat_zero, Int.toNat_one, nth_zero, nth_one]; simp only [List.cons_append, List.nil_append, List.set_cons_succ, List.set_cons_zero, Value.cells, iv_snoc, tv_snoc] at hS)
            refine mut_end ?_
            refine sched_nil ?_
            simp only [NoPanic]
            go_wp2_with (first | ((with_reducible refine g_load (T := 25) ?_); refine seq_of hS rfl (stp_load_all (T := 25) 5 Try.isAgg25 Try.sizeOf25 rfl rfl rfl ?_); simp only [Act.put, List.setIfInBounds_toArray, List.set_cons_succ, List.set_cons_zero, Int.toNat_natCast, Int.toNat_zero, Int.toNat_one, nth_zero, nth_one]) | ((with_reducible refine g_store (T := 25) ?_); refine seq_store (T := 25) (u := .agg #[.slice _ _ _, .slice _ _ _]) 4 hS rfl rfl rfl Try.sizeOf25 (by simp [Value.cells, Value.oneCell']) (by simp [Value.cells]) (fun _ hS => ?_); simp only [Act.put, List.setIfInBounds_toArray, List.set_cons_succ, List.set_cons_zero, Int.toNat_natCast, Int.toNat_zero, Int.toNat_one, nth_zero, nth_one]; simp only [List.cons_append, List.nil_append, List.set_cons_succ, List.set_cons_zero, Value.cells, iv_snoc, tv_snoc] at hS; simp only [List.take_zero, List.nil_append, List.append_nil, List.drop_succ_cons, List.drop_zero, List.drop_nil, List.take_succ_cons, List.cons_append, List.size_toArray, List.length_cons, List.length_nil, Nat.reduceAdd] at hS))
            refine ret_cell1 4 hS rfl rfl rfl Try.isAgg25 Try.sizeOf25 rfl rfl ?_
            have hset := tv_set1 (N := N) (i := i) (v := v) (by omega)
            rw [hset] at hS
            obtain ⟨N', hN', hl, hm⟩ : ∃ N', N' = N.set i ((nth tz N i).1, v, (nth tz N i).2.2) ∧ N.length = N'.length ∧ ∀ e ∈ N', InT e := ⟨_, rfl, by simp, fun e he => by
              have hi2 := hnb _ (nth_mem tz N i (by omega))
              rcases List.mem_or_eq_of_mem_set he with h | h
              · exact hnb e h
              · subst h; unfold InT at hi2 ⊢; simp only; exact ⟨hi2.1, hvi, hi2.2.2⟩⟩
            rw [← hN'] at hS
            rw [hl] at hS ⊢
            exact ⟨_, W, N', rfl, hS.toBelow (by simp), ⟨_, _, _, _, rfl, hS.resultInts 0 rfl hwb, hS.resultTris 1 rfl hm⟩, hwl⟩
        · have H3 := Lib.hid h3
          clear h3
          go_wp2_with (first | ((with_reducible refine g_load (T := 22) ?_); refine seq_of hS rfl (stp_load_blk (T := 22) 5 Try.isAgg22 rfl rfl rfl ?_); simp only [Act.put, List.setIfInBounds_toArray, List.set_cons_succ, List.set_cons_zero, Int.toNat_natCast, Int.toNat_zero, Int.toNat_one, nth_zero, nth_one]) | ((with_reducible refine g_load (T := 23) ?_); refine seq_of hS rfl (stp_load_blk (T := 23) 5 Try.isAgg23 rfl rfl rfl ?_); simp only [Act.put, List.setIfInBounds_toArray, List.set_cons_succ, List.set_cons_zero, Int.toNat_natCast, Int.toNat_zero, Int.toNat_one, nth_zero, nth_one]) | (go_at_call 10; refine (around_any _ _ _ (by omega) (by omega) (by with_reducible assumption)).mono ?_; rintro e w' ⟨rfl, rfl⟩; first | rw [HK.out] | rw [HQ.out] | rw [HI.out]))
          refine wp_region_tr (.fork [.pure 0, .read 1, .pure 2, .pure 3, .pure 5, .pure 7, .pure 8, .pure 12] 4 (.fork [] 6 (.line [.ext 9, .pure 10, .ext 11, .pure 13, .mutt 14]) 9 (.line [.ext 6, .pure 10, .ext 11, .pure 13, .mutt 14])) 6 (.line [.ext 4, .ext 9, .pure 10, .ext 11, .pure 13, .mutt 14])) [14] (fun w' => Heap w w' _) (by kernel_rfl) (by kernel_rfl) hS.drew (fun w1 hS => ?_)
          refine tr_fork ?_
          repeat (first | ((first | ((with_reducible refine m_pure ?_); refine skip_pure rfl rfl ?_) | ((with_reducible refine m_read ?_); refine skip_read rfl rfl ?_)); simp only [Act.put, List.setIfInBounds_toArray, List.set_cons_succ, List.set_cons_zero, Int.toNat_natCast, Int.toNat_zero, Int.toNat_one, nth_zero, nth_one]) | ((with_reducible refine m_read ?_); refine sched_of rfl rfl (stp_load_blk (T := 23) 5 Try.isAgg23 rfl rfl rfl ?_); simp only [Act.put, List.setIfInBounds_toArray, List.set_cons_succ, List.set_cons_zero, Int.toNat_natCast, Int.toNat_zero, Int.toNat_one, nth_zero, nth_one]) | ((with_reducible refine m_pure ?_); refine sched_any rfl rfl (any_index_atk (T := 23) Try.underlying23 Try.sizeOf55 rfl rfl (by omega) (by omega) ?_); simp only [Act.put, List.setIfInBounds_toArray, List.set_cons_succ, List.set_cons_zero, Int.toNat_natCast, Int.toNat_zero, Int.toNat_one, nth_zero, nth_one]; simp only [Nat.zero_add, Int.toNat_natCast]) | ((with_reducible refine m_pure ?_); refine run_pure rfl rfl (fun K hK => ?_); go_simp; refine hK _ ?_; clear hK K))
          refine sched_nil ?_
          simp only [NoPanic, WithK]
          refine ⟨?_, ?_⟩
          · refine fork_op rfl ?_
            go_wp2_with (fail)
            refine (around_any _ _ _ (by omega) (by omega) hb).mono ?_
            rintro e w' ⟨rfl, rfl⟩
            simp only []
            go_step
            rw [H3.out]
            refine ext_end hS ?_
            refine tr_fork ?_
            refine sched_nil ?_
            simp only [NoPanic, WithK]
            refine ⟨?_, ?_⟩
            · refine fork_op rfl ?_
              ((with_reducible refine g_bs (T := 22) ?_); refine seq_bsL (n := 6) (k := 1) (z := .int .i64 0) (T := 22) hS Try.underlying22 Try.sizeOf3 Try.zeroValue3 (by decide) (by decide) (fill6 _ _ _ _ _ _) rfl rfl (fun _ _ hS => ?_); simp only [Act.put, List.setIfInBounds_toArray, List.set_cons_succ, List.set_cons_zero, Int.toNat_natCast, Int.toNat_zero, Int.toNat_one, nth_zero, nth_one]; simp only [List.cons_append, List.nil_append, List.set_cons_succ, List.set_cons_zero, Value.cells, iv_snoc, tv_snoc] at hS)
              refine ext_end (hS.sub (by repeat (first | exact List.Sublist.refl _ | apply List.Sublist.cons_cons | apply List.Sublist.cons | exact List.nil_sublist _))) ?_
              refine tr_line ?_
              refine ext_at rfl ?_
              go_wp2_with (fail)
              rw [HW6.out]
              refine (around_any _ _ _ (by omega) (by omega) hdv).mono ?_
              rintro e w' ⟨rfl, rfl⟩
              simp only []
              go_step
              rw [HP.out]
              refine ext_end (hS.sub (by repeat (first | exact List.Sublist.refl _ | apply List.Sublist.cons_cons | apply List.Sublist.cons | exact List.nil_sublist _))) ?_
              repeat (first | ((first | ((with_reducible refine m_pure ?_); refine skip_pure rfl rfl ?_) | ((with_reducible refine m_read ?_); refine skip_read rfl rfl ?_)); simp only [Act.put, List.setIfInBounds_toArray, List.set_cons_succ, List.set_cons_zero, Int.toNat_natCast, Int.toNat_zero, Int.toNat_one, nth_zero, nth_one]) | ((with_reducible refine m_pure ?_); refine sched_any rfl rfl (any_index_at (T := 22) Try.underlying22 Try.sizeOf3 rfl rfl (by omega) (by omega) ?_); simp only [Act.put, List.setIfInBounds_toArray, List.set_cons_succ, List.set_cons_zero, Int.toNat_natCast, Int.toNat_zero, Int.toNat_one, nth_zero, nth_one]; simp only [Nat.zero_add, Int.toNat_natCast]) | ((with_reducible refine m_pure ?_); refine run_pure rfl rfl (fun K hK => ?_); go_simp; refine hK _ ?_; clear hK K))
              refine ext_at rfl ?_
              ((with_reducible refine g_load (T := 3) ?_); refine seq_of hS rfl (stp_load_blk (T := 3) 6 Try.isAgg3 rfl rfl HV.out ?_); simp only [Act.put, List.setIfInBounds_toArray, List.set_cons_succ, List.set_cons_zero, Int.toNat_natCast, Int.toNat_zero, Int.toNat_one, nth_zero, nth_one])
              refine ext_end (hS.sub (by repeat (first | exact List.Sublist.refl _ | apply List.Sublist.cons_cons | apply List.Sublist.cons | exact List.nil_sublist _))) ?_
              repeat (first | ((first | ((with_reducible refine m_pure ?_); refine skip_pure rfl rfl ?_) | ((with_reducible refine m_read ?_); refine skip_read rfl rfl ?_)); simp only [Act.put, List.setIfInBounds_toArray, List.set_cons_succ, List.set_cons_zero, Int.toNat_natCast, Int.toNat_zero, Int.toNat_one, nth_zero, nth_one]) | fail | ((with_reducible refine m_pure ?_); refine run_pure rfl rfl (fun K hK => ?_); go_simp; refine hK _ ?_; clear hK K))
              refine mut_at rfl ?_
              ((with_reducible refine g_store (T := 3) ?_); refine seq_store_rowv (T := 3) 2 hS rfl rfl rfl (by rw [tv_length]; omega) Try.sizeOf3 (fun _ hS => ?_); simp only [Act.put, List.setIfInBounds_toArray, List.set_cons_succ, List.set_cons_zero, Int.toNat_natCast, Int.toNat_zero, Int.toNat_one, nth_zero, nth_one]; simp only [List.cons_append, List.nil_append, List.set_cons_succ, List.set_cons_zero, Value.cells, iv_snoc, tv_snoc] at hS)
              refine mut_end ?_
              refine sched_nil ?_
              simp only [NoPanic]
              go_wp2_with (first | ((with_reducible refine g_load (T := 25) ?_); refine seq_of hS rfl (stp_load_all (T := 25) 5 Try.isAgg25 Try.sizeOf25 rfl rfl rfl ?_); simp only [Act.put, List.setIfInBounds_toArray, List.set_cons_succ, List.set_cons_zero, Int.toNat_natCast, Int.toNat_zero, Int.toNat_one, nth_zero, nth_one]) | ((with_reducible refine g_store (T := 25) ?_); refine seq_store (T := 25) (u := .agg #[.slice _ _ _, .slice _ _ _]) 4 hS rfl rfl rfl Try.sizeOf25 (by simp [Value.cells, Value.oneCell']) (by simp [Value.cells]) (fun _ hS => ?_); simp only [Act.put, List.setIfInBounds_toArray, List.set_cons_succ, List.set_cons_zero, Int.toNat_natCast, Int.toNat_zero, Int.toNat_one, nth_zero, nth_one]; simp only [List.cons_append, List.nil_append, List.set_cons_succ, List.set_cons_zero, Value.cells, iv_snoc, tv_snoc] at hS; simp only [List.take_zero, List.nil_append, List.append_nil, List.drop_succ_cons, List.drop_zero, List.drop_nil, List.take_succ_cons, List.cons_append, List.size_toArray, List.length_cons, List.length_nil, Nat.reduceAdd] at hS))
              refine ret_cell1 4 hS rfl rfl rfl Try.isAgg25 Try.sizeOf25 rfl rfl ?_
              have hset := tv_set2 (N := N) (i := i) (v := v) (by omega)
              rw [hset] at hS
              obtain ⟨N', hN', hl, hm⟩ : ∃ N', N' = N.set i ((nth tz N i).1, (nth tz N i).2.1, v) ∧ N.length = N'.length ∧ ∀ e ∈ N', InT e := ⟨_, rfl, by simp, fun e he => by
                have hi2 := hnb _ (nth_mem tz N i (by omega))
                rcases List.mem_or_eq_of_mem_set he with h | h
                · exact hnb e h
                · subst h; unfold InT at hi2 ⊢; simp only; exact ⟨hi2.1, hi2.2.1, hvi⟩⟩
              rw [← hN'] at hS
              rw [hl] at hS ⊢
              exact ⟨_, W, N', rfl, hS.toBelow (by simp), ⟨_, _, _, _, rfl, hS.resultInts 0 rfl hwb, hS.resultTris 1 rfl hm⟩, hwl⟩
            · refine fork_op rfl ?_
              go_wp2_with (fail)
              rw [HW6.out]
              refine (around_any _ _ _ (by omega) (by omega) hdv).mono ?_
              rintro e w' ⟨rfl, rfl⟩
              simp only []
              go_step
              rw [HP.out]
              refine ext_end hS ?_
              refine tr_line ?_
              refine ext_at rfl ?_
              ((with_reducible refine g_bs (T := 22) ?_); refine seq_bsL (n := 6) (k := 1) (z := .int .i64 0) (T := 22) hS Try.underlying22 Try.sizeOf3 Try.zeroValue3 (by decide) (by decide) (fill6 _ _ _ _ _ _) rfl rfl (fun _ _ hS => ?_); simp only [Act.put, List.setIfInBounds_toArray, List.set_cons_succ, List.set_cons_zero, Int.toNat_natCast, Int.toNat_zero, Int.toNat_one, nth_zero, nth_one]; simp only [List.cons_append, List.nil_append, List.set_cons_succ, List.set_cons_zero, Value.cells, iv_snoc, tv_snoc] at hS)
              refine ext_end (hS.sub (by repeat (first | exact List.Sublist.refl _ | apply List.Sublist.cons_cons | apply List.Sublist.cons | exact List.nil_sublist _))) ?_
              repeat (first | ((first | ((with_reducible refine m_pure ?_); refine skip_pure rfl rfl ?_) | ((with_reducible refine m_read ?_); refine skip_read rfl rfl ?_)); simp only [Act.put, List.setIfInBounds_toArray, List.set_cons_succ, List.set_cons_zero, Int.toNat_natCast, Int.toNat_zero, Int.toNat_one, nth_zero, nth_one]) | ((with_reducible refine m_pure ?_); refine sched_any rfl rfl (any_index_at (T := 22) Try.underlying22 Try.sizeOf3 rfl rfl (by omega) (by omega) ?_); simp only [Act.put, List.setIfInBounds_toArray, List.set_cons_succ, List.set_cons_zero, Int.toNat_natCast, Int.toNat_zero, Int.toNat_one, nth_zero, nth_one]; simp only [Nat.zero_add, Int.toNat_natCast]) | ((with_reducible refine m_pure ?_); refine run_pure rfl rfl (fun K hK => ?_); go_simp; refine hK _ ?_; clear hK K))
              refine ext_at rfl ?_
              ((with_reducible refine g_load (T := 3) ?_); refine seq_of hS rfl (stp_load_blk (T := 3) 6 Try.isAgg3 rfl rfl HV.out ?_); simp only [Act.put, List.setIfInBounds_toArray, List.set_cons_succ, List.set_cons_zero, Int.toNat_natCast, Int.toNat_zero, Int.toNat_one, nth_zero, nth_one])
              refine ext_end (hS.sub (by repeat (first | exact List.Sublist.refl _ | apply List.Sublist.cons_cons | apply List.Sublist.cons | exact List.nil_sublist _))) ?_
              repeat (first | ((first | ((with_reducible refine m_pure ?_); refine skip_pure rfl rfl ?_) | ((with_reducible refine m_read ?_); refine skip_read rfl rfl ?_)); simp only [Act.put, List.setIfInBounds_toArray, List.set_cons_succ, List.set_cons_zero, Int.toNat_natCast, Int.toNat_zero, Int.toNat_one, nth_zero, nth_one]) | fail | ((with_reducible refine m_pure ?_); refine run_pure rfl rfl (fun K hK => ?_); go_simp; refine hK _ ?_; clear hK K))
              refine mut_at rfl ?_
              ((with_reducible refine g_store (T := 3) ?_); refine seq_store_rowv (T := 3) 2 hS rfl rfl rfl (by rw [tv_length]; omega) Try.sizeOf3 (fun _ hS => ?_); simp only [Act.put, List.setIfInBounds_toArray, List.set_cons_succ, List.set_cons_zero, Int.toNat_natCast, Int.toNat_zero, Int.toNat_one, nth_zero, nth_one]; simp only [List.cons_append, List.nil_append, List.set_cons_succ, List.set_cons_zero, Value.cells, iv_snoc, tv_snoc] at hS)
              refine mut_end ?_
              refine sched_nil ?_
              simp only [NoPanic]
              go_wp2_with (first | ((with_reducible refine g_load (T := 25) ?_); refine seq_of hS rfl (stp_load_all (T := 25) 5 Try.isAgg25 Try.sizeOf25 rfl rfl rfl ?_); simp only [Act.put, List.setIfInBounds_toArray, List.set_cons_succ, List.set_cons_zero, Int.toNat_natCast, Int.toNat_zero, Int.toNat_one, nth_zero, nth_one]) | ((with_reducible refine g_store (T := 25) ?_); refine seq_store (T := 25) (u := .agg #[.slice _ _ _, .slice _ _ _]) 4 hS rfl rfl rfl Try.sizeOf25 (by simp [Value.cells, Value.oneCell']) (by simp [Value.cells]) (fun _ hS => ?_); simp only [Act.put, List.setIfInBounds_toArray, List.set_cons_succ, List.set_cons_zero, Int.toNat_natCast, Int.toNat_zero, Int.toNat_one, nth_zero, nth_one]; simp only [List.cons_append, List.nil_append, List.set_cons_succ, List.set_cons_zero, Value.cells, iv_snoc, tv_snoc] at hS; simp only [List.take_zero, List.nil_append, List.append_nil, List.drop_succ_cons, List.drop_zero, List.drop_nil, List.take_succ_cons, List.cons_append, List.size_toArray, List.length_cons, List.length_nil, Nat.reduceAdd] at hS))
              refine ret_cell1 4 hS rfl rfl rfl Try.isAgg25 Try.sizeOf25 rfl rfl ?_
              have hset := tv_set2 (N := N) (i := i) (v := v) (by omega)
              rw [hset] at hS
              obtain ⟨N', hN', hl, hm⟩ : ∃ N', N' = N.set i ((nth tz N i).1, (nth tz N i).2.1, v) ∧ N.length = N'.length ∧ ∀ e ∈ N', InT e := ⟨_, rfl, by simp, fun e he => by
                have hi2 := hnb _ (nth_mem tz N i (by omega))
                rcases List.mem_or_eq_of_mem_set he with h | h
                · exact hnb e h
                · subst h; unfold InT at hi2 ⊢; simp only; exact ⟨hi2.1, hi2.2.1, hvi⟩⟩
              rw [← hN'] at hS
              rw [hl] at hS ⊢
              exact ⟨_, W, N', rfl, hS.toBelow (by simp), ⟨_, _, _, _, rfl, hS.resultInts 0 rfl hwb, hS.resultTris 1 rfl hm⟩, hwl⟩
          · refine fork_op rfl ?_
            ((with_reducible refine g_bs (T := 22) ?_); refine seq_bsL (n := 6) (k := 1) (z := .int .i64 0) (T := 22) hS Try.underlying22 Try.sizeOf3 Try.zeroValue3 (by decide) (by decide) (fill6 _ _ _ _ _ _) rfl rfl (fun _ _ hS => ?_); simp only [Act.put, List.setIfInBounds_toArray, List.set_cons_succ, List.set_cons_zero, Int.toNat_natCast, Int.toNat_zero, Int.toNat_one, nth_zero, nth_one]; simp only [List.cons_append, List.nil_append, List.set_cons_succ, List.set_cons_zero, Value.cells, iv_snoc, tv_snoc] at hS)
            refine ext_end (hS.sub (by repeat (first | exact List.Sublist.refl _ | apply List.Sublist.cons_cons | apply List.Sublist.cons | exact List.nil_sublist _))) ?_
            refine tr_line ?_
            refine ext_at rfl ?_
            go_wp2_with (fail)
            refine (around_any _ _ _ (by omega) (by omega) hb).mono ?_
            rintro e w' ⟨rfl, rfl⟩
            simp only []
            go_step
            rw [H3.out]
            refine ext_end (hS.sub (by repeat (first | exact List.Sublist.refl _ | apply List.Sublist.cons_cons | apply List.Sublist.cons | exact List.nil_sublist _))) ?_
            refine ext_at rfl ?_
            go_wp2_with (fail)
            rw [HW6.out]
            refine (around_any _ _ _ (by omega) (by omega) hdv).mono ?_
            rintro e w' ⟨rfl, rfl⟩
            simp only []
            go_step
            rw [HP.out]
            refine ext_end (hS.sub (by repeat (first | exact List.Sublist.refl _ | apply List.Sublist.cons_cons | apply List.Sublist.cons | exact List.nil_sublist _))) ?_
            repeat (first | ((first | ((with_reducible refine m_pure ?_); refine skip_pure rfl rfl ?_) | ((with_reducible refine m_read ?_); refine skip_read rfl rfl ?_)); simp only [Act.put, List.setIfInBounds_toArray, List.set_cons_succ, List.set_cons_zero, Int.toNat_natCast, Int.toNat_zero, Int.toNat_one, nth_zero, nth_one]) | ((with_reducible refine m_pure ?_); refine sched_any rfl rfl (any_index_at (T := 22) Try.underlying22 Try.sizeOf3 rfl rfl (by omega) (by omega) ?_); simp only [Act.put, List.setIfInBounds_toArray, List.set_cons_succ, List.set_cons_zero, Int.toNat_natCast, Int.toNat_zero, Int.toNat_one, nth_zero, nth_one]; simp only [Nat.zero_add, Int.toNat_natCast]) | ((with_reducible refine m_pure ?_); refine run_pure rfl rfl (fun K hK => ?_); go_simp; refine hK _ ?_; clear hK K))
            refine ext_at rfl ?_
            ((with_reducible refine g_load (T := 3) ?_); refine seq_of hS rfl (stp_load_blk (T := 3) 6 Try.isAgg3 rfl rfl HV.out ?_); simp only [Act.put, List.setIfInBounds_toArray, List.set_cons_succ, List.set_cons_zero, Int.toNat_natCast, Int.toNat_zero, Int.toNat_one, nth_zero, nth_one])
            refine ext_end (hS.sub (by repeat (first | exact List.Sublist.refl _ | apply List.Sublist.cons_cons | apply List.Sublist.cons | exact List.nil_sublist _))) ?_
            repeat (first | ((first | ((with_reducible refine m_pure ?_); refine skip_pure rfl rfl ?_) | ((with_reducible refine m_read ?_); refine skip_read rfl rfl ?_)); simp only [Act.put, List.setIfInBounds_toArray, List.set_cons_succ, List.set_cons_zero, Int.toNat_natCast, Int.toNat_zero, Int.toNat_one, nth_zero, nth_one]) | fail | ((with_reducible refine m_pure ?_); refine run_pure rfl rfl (fun K hK => ?_); go_simp; refine hK _ ?_; clear hK K))
            refine mut_at rfl ?_
            ((with_reducible refine g_store (T := 3) ?_); refine seq_store_rowv (T := 3) 2 hS rfl rfl rfl (by rw [tv_length]; omega) Try.sizeOf3 (fun _ hS => ?_); simp only [Act.put, List.setIfInBounds_toArray, List.set_cons_succ, List.set_cons_zero, Int.toNat_natCast, Int.toNat_zero, Int.toNat_one, nth_zero, nth_one]; simp only [List.cons_append, List.nil_append, List.set_cons_succ, List.set_cons_zero, Value.cells, iv_snoc, tv_snoc] at hS)
            refine mut_end ?_
            refine sched_nil ?_
            simp only [NoPanic]
            go_wp2_with (first | ((with_reducible refine g_load (T := 25) ?_); refine seq_of hS rfl (stp_load_all (T := 25) 5 Try.isAgg25 Try.sizeOf25 rfl rfl rfl ?_); simp only [Act.put, List.setIfInBounds_toArray, List.set_cons_succ, List.set_cons_zero, Int.toNat_natCast, Int.toNat_zero, Int.toNat_one, nth_zero, nth_one]) | ((with_reducible refine g_store (T := 25) ?_); refine seq_store (T := 25) (u := .agg #[.slice _ _ _, .slice _ _ _]) 4 hS rfl rfl rfl Try.sizeOf25 (by simp [Value.cells, Value.oneCell']) (by simp [Value.cells]) (fun _ hS => ?_); simp only [Act.put, List.setIfInBounds_toArray, List.set_cons_succ, List.set_cons_zero, Int.toNat_natCast, Int.toNat_zero, Int.toNat_one, nth_zero, nth_one]; simp only [List.cons_append, List.nil_append, List.set_cons_succ, List.set_cons_zero, Value.cells, iv_snoc, tv_snoc] at hS; simp only [List.take_zero, List.nil_append, List.append_nil, List.drop_succ_cons, List.drop_zero, List.drop_nil, List.take_succ_cons, List.cons_append, List.size_toArray, List.length_cons, List.length_nil, Nat.reduceAdd] at hS))
            refine ret_cell1 4 hS rfl rfl rfl Try.isAgg25 Try.sizeOf25 rfl rfl ?_
            have hset := tv_set2 (N := N) (i := i) (v := v) (by omega)
            rw [hset] at hS
            obtain ⟨N', hN', hl, hm⟩ : ∃ N', N' = N.set i ((nth tz N i).1, (nth tz N i).2.1, v) ∧ N.length = N'.length ∧ ∀ e ∈ N', InT e := ⟨_, rfl, by simp, fun e he => by
              have hi2 := hnb _ (nth_mem tz N i (by omega))
              rcases List.mem_or_eq_of_mem_set he with h | h
              · exact hnb e h
              · subst h; unfold InT at hi2 ⊢; simp only; exact ⟨hi2.1, hi2.2.1, hvi⟩⟩
            rw [← hN'] at hS
            rw [hl] at hS ⊢
            exact ⟨_, W, N', rfl, hS.toBelow (by simp), ⟨_, _, _, _, rfl, hS.resultInts 0 rfl hwb, hS.resultTris 1 rfl hm⟩, hwl⟩
    · -- a border twice
      have HQ := Lib.hid hq
      clear hq
      by_cases h0 : N.length = 0
      · have f1 : (((N.length : Nat) : Int) == 0) = true := by simp [h0]
        have f2 : decide (0 < N.length) = false := by simp [h0]
        go_wp2_with (first | ((with_reducible refine g_load (T := 22) ?_); refine seq_of hS rfl (stp_load_blk (T := 22) 5 Try.isAgg22 rfl rfl rfl ?_); simp only [Act.put, List.setIfInBounds_toArray, List.set_cons_succ, List.set_cons_zero, Int.toNat_natCast, Int.toNat_zero, Int.toNat_one, nth_zero, nth_one]) | ((with_reducible refine g_load (T := 23) ?_); refine seq_of hS rfl (stp_load_blk (T := 23) 5 Try.isAgg23 rfl rfl rfl ?_); simp only [Act.put, List.setIfInBounds_toArray, List.set_cons_succ, List.set_cons_zero, Int.toNat_natCast, Int.toNat_zero, Int.toNat_one, nth_zero, nth_one]) | (go_at_call 10; refine (around_any _ _ _ (by omega) (by omega) (by with_reducible assumption)).mono ?_; rintro e w' ⟨rfl, rfl⟩; first | rw [HK.out] | rw [HQ.out]) | ((with_reducible refine g_load (T := 25) ?_); refine seq_of hS rfl (stp_load_all (T := 25) 5 Try.isAgg25 Try.sizeOf25 rfl rfl rfl ?_); simp only [Act.put, List.setIfInBounds_toArray, List.set_cons_succ, List.set_cons_zero, Int.toNat_natCast, Int.toNat_zero, Int.toNat_one, nth_zero, nth_one]) | ((with_reducible refine g_store (T := 25) ?_); refine seq_store (T := 25) (u := .agg #[.slice _ _ _, .slice _ _ _]) 4 hS rfl rfl rfl Try.sizeOf25 (by simp [Value.cells, Value.oneCell']) (by simp [Value.cells]) (fun _ hS => ?_); simp only [Act.put, List.setIfInBounds_toArray, List.set_cons_succ, List.set_cons_zero, Int.toNat_natCast, Int.toNat_zero, Int.toNat_one, nth_zero, nth_one]; simp only [List.cons_append, List.nil_append, List.set_cons_succ, List.set_cons_zero, Value.cells, iv_snoc, tv_snoc] at hS; simp only [List.take_zero, List.nil_append, List.append_nil, List.drop_succ_cons, List.drop_zero, List.drop_nil, List.take_succ_cons, List.cons_append, List.size_toArray, List.length_cons, List.length_nil, Nat.reduceAdd] at hS))
        refine ret_cell1 4 hS rfl rfl rfl Try.isAgg25 Try.sizeOf25 rfl rfl ?_
        exact ⟨_, W, N, rfl, hS.toBelow (by simp), ⟨_, _, _, _, rfl, hS.resultInts 0 rfl hwb, hS.resultTris 1 rfl hnb⟩, hwl⟩
      · have f2 : decide (0 < N.length) = true := by simp; omega
        have hi := aro_lt at' (most := N.length) (by omega)
        obtain ⟨i, hi'⟩ : ∃ i : Nat, aro at' N.length = (i : Int) := ⟨(aro at' N.length).toNat, by omega⟩
        rw [hi'] at hi
        have HI := Lib.hid hi'
        clear hi' h0
        obtain ⟨g2, rfl⟩ := hS.rowAt 2 rfl (by omega)
        go_wp2_with (first | ((with_reducible refine g_load (T := 22) ?_); refine seq_of hS rfl (stp_load_blk (T := 22) 5 Try.isAgg22 rfl rfl rfl ?_); simp only [Act.put, List.setIfInBounds_toArray, List.set_cons_succ, List.set_cons_zero, Int.toNat_natCast, Int.toNat_zero, Int.toNat_one, nth_zero, nth_one]) | ((with_reducible refine g_load (T := 23) ?_); refine seq_of hS rfl (stp_load_blk (T := 23) 5 Try.isAgg23 rfl rfl rfl ?_); simp only [Act.put, List.setIfInBounds_toArray, List.set_cons_succ, List.set_cons_zero, Int.toNat_natCast, Int.toNat_zero, Int.toNat_one, nth_zero, nth_one]) | (go_at_call 10; refine (around_any _ _ _ (by omega) (by omega) (by with_reducible assumption)).mono ?_; rintro e w' ⟨rfl, rfl⟩; first | rw [HK.out] | rw [HQ.out] | rw [HI.out]))
        refine wp_region_sched [.pure 0, .read 1, .pure 2, .read 3, .pure 4, .pure 5, .read 6, .ext 7, .mutt 8, .pure 9, .mutt 10] [8, 10] (fun w' => Heap w w' _) (by kernel_rfl) (by kernel_rfl) hS.drew (fun w1 hS => ?_)
        repeat (first | ((first | ((with_reducible refine m_pure ?_); refine skip_pure rfl rfl ?_) | ((with_reducible refine m_read ?_); refine skip_read rfl rfl ?_)); simp only [Act.put, List.setIfInBounds_toArray, List.set_cons_succ, List.set_cons_zero, Int.toNat_natCast, Int.toNat_zero, Int.toNat_one, nth_zero, nth_one]) | ((with_reducible refine m_read ?_); refine sched_of rfl rfl (stp_load_blk (T := 23) 5 Try.isAgg23 rfl rfl rfl ?_); simp only [Act.put, List.setIfInBounds_toArray, List.set_cons_succ, List.set_cons_zero, Int.toNat_natCast, Int.toNat_zero, Int.toNat_one, nth_zero, nth_one]) | ((with_reducible refine m_pure ?_); refine sched_any rfl rfl (any_index_atk (T := 23) Try.underlying23 Try.sizeOf55 rfl rfl (by omega) (by omega) ?_); simp only [Act.put, List.setIfInBounds_toArray, List.set_cons_succ, List.set_cons_zero, Int.toNat_natCast, Int.toNat_zero, Int.toNat_one, nth_zero, nth_one]; simp only [Nat.zero_add, Int.toNat_natCast]) | (((with_reducible refine m_read ?_); refine sched_of rfl rfl (stp_loadk_row (T := 55) 2 Try.isAgg55 Try.sizeOf55 rfl rfl (by omega) ?_); simp only [Act.put, List.setIfInBounds_toArray, List.set_cons_succ, List.set_cons_zero, Int.toNat_natCast, Int.toNat_zero, Int.toNat_one, nth_zero, nth_one]); rw [tv_cell (by omega)]; simp only [enc3]) | ((with_reducible refine m_pure ?_); refine run_pure rfl rfl (fun K hK => ?_); go_simp; refine hK _ ?_; clear hK K))
        refine ext_at rfl ?_
        ((with_reducible refine g_bs (T := 23) ?_); refine seq_bs1 (T := 23) (v := .agg _) hS Try.underlying23 Try.sizeOf55 Try.zeroValue55 rfl rfl rfl (by decide) (by decide) rfl (fun _ _ hS => ?_); simp only [Act.put, List.setIfInBounds_toArray, List.set_cons_succ, List.set_cons_zero, Int.toNat_natCast, Int.toNat_zero, Int.toNat_one, nth_zero, nth_one]; simp only [Value.cells] at hS)
        refine ext_end (hS.sub (by repeat (first | exact List.Sublist.refl _ | apply List.Sublist.cons_cons | apply List.Sublist.cons | exact List.nil_sublist _))) ?_
        refine mut_at rfl ?_
        ((with_reducible refine g_app ?_); refine seq_append_lit (t := 23) 2 hS Try.underlying23 Try.info55 rfl (by decide) rfl rfl rfl rfl (by simp [Value.oneCell']) (by omega) (by unfold maxLen; omega) (fun _ _ _ hS => ?_); simp only [Act.put, List.setIfInBounds_toArray, List.set_cons_succ, List.set_cons_zero, Int.toNat_natCast, Int.toNat_zero, Int.toNat_one, nth_zero, nth_one]; simp only [List.cons_append, List.nil_append, List.set_cons_succ, List.set_cons_zero, Value.cells, iv_snoc, tv_snoc] at hS)
        refine mut_end ?_
        repeat (first | ((first | ((with_reducible refine m_pure ?_); refine skip_pure rfl rfl ?_) | ((with_reducible refine m_read ?_); refine skip_read rfl rfl ?_)); simp only [Act.put, List.setIfInBounds_toArray, List.set_cons_succ, List.set_cons_zero, Int.toNat_natCast, Int.toNat_zero, Int.toNat_one, nth_zero, nth_one]) | fail | ((with_reducible refine m_pure ?_); refine run_pure rfl rfl (fun K hK => ?_); go_simp; refine hK _ ?_; clear hK K))
        refine mut_at rfl ?_
        ((with_reducible refine g_store (T := 23) ?_); refine seq_store (T := 23) (u := .slice _ _ _) 5 hS rfl rfl rfl Try.sizeOf23 (by simp [Value.cells, Value.oneCell']) (by simp [Value.cells]) (fun _ hS => ?_); simp only [Act.put, List.setIfInBounds_toArray, List.set_cons_succ, List.set_cons_zero, Int.toNat_natCast, Int.toNat_zero, Int.toNat_one, nth_zero, nth_one]; simp only [List.cons_append, List.nil_append, List.set_cons_succ, List.set_cons_zero, Value.cells, iv_snoc, tv_snoc] at hS; simp only [List.take_zero, List.nil_append, List.append_nil, List.drop_succ_cons, List.drop_zero, List.drop_nil, List.take_succ_cons, List.cons_append, List.size_toArray, List.length_cons, List.length_nil, Nat.reduceAdd] at hS)
        refine mut_end ?_
        refine sched_nil ?_
        simp only [NoPanic]
        go_wp2_with (first | ((with_reducible refine g_load (T := 25) ?_); refine seq_of hS rfl (stp_load_all (T := 25) 5 Try.isAgg25 Try.sizeOf25 rfl rfl rfl ?_); simp only [Act.put, List.setIfInBounds_toArray, List.set_cons_succ, List.set_cons_zero, Int.toNat_natCast, Int.toNat_zero, Int.toNat_one, nth_zero, nth_one]) | ((with_reducible refine g_store (T := 25) ?_); refine seq_store (T := 25) (u := .agg #[.slice _ _ _, .slice _ _ _]) 4 hS rfl rfl rfl Try.sizeOf25 (by simp [Value.cells, Value.oneCell']) (by simp [Value.cells]) (fun _ hS => ?_); simp only [Act.put, List.setIfInBounds_toArray, List.set_cons_succ, List.set_cons_zero, Int.toNat_natCast, Int.toNat_zero, Int.toNat_one, nth_zero, nth_one]; simp only [List.cons_append, List.nil_append, List.set_cons_succ, List.set_cons_zero, Value.cells, iv_snoc, tv_snoc] at hS; simp only [List.take_zero, List.nil_append, List.append_nil, List.drop_succ_cons, List.drop_zero, List.drop_nil, List.take_succ_cons, List.cons_append, List.size_toArray, List.length_cons, List.length_nil, Nat.reduceAdd] at hS))
        refine ret_cell1 4 hS rfl rfl rfl Try.isAgg25 Try.sizeOf25 rfl rfl ?_
        have ht := tv_snoc N (nth tz N i)
        have hl : N.length + 1 = (N ++ [nth tz N i]).length := by simp
        rw [hl] at hS ⊢
        refine ⟨_, W, _, rfl, hS.toBelow (by simp), ⟨_, _, _, _, rfl, hS.resultInts 0 rfl hwb, hS.resultTris 1 rfl (fun e he => ?_)⟩, hwl⟩
        rcases List.mem_append.1 he with h | h
        · exact hnb e h
        · simp only [List.mem_singleton] at h; subst h; exact hnb _ (nth_mem tz N i (by omega))
    · -- less weights
      have HQ := Lib.hid hq
      clear hq
      go_wp2_with (first | ((with_reducible refine g_load (T := 22) ?_); refine seq_of hS rfl (stp_load_blk (T := 22) 5 Try.isAgg22 rfl rfl rfl ?_); simp only [Act.put, List.setIfInBounds_toArray, List.set_cons_succ, List.set_cons_zero, Int.toNat_natCast, Int.toNat_zero, Int.toNat_one, nth_zero, nth_one]) | (go_at_call 10; refine (around_any _ _ _ (by omega) (by omega) (by with_reducible assumption)).mono ?_; rintro e w' ⟨rfl, rfl⟩; first | rw [HK.out] | rw [HQ.out]) | ((with_reducible refine g_store (T := 22) ?_); refine seq_store (T := 22) (u := .slice _ _ _) 5 hS rfl rfl rfl Try.sizeOf22 (by simp [Value.cells, Value.oneCell']) (by simp [Value.cells]) (fun _ hS => ?_); simp only [Act.put, List.setIfInBounds_toArray, List.set_cons_succ, List.set_cons_zero, Int.toNat_natCast, Int.toNat_zero, Int.toNat_one, nth_zero, nth_one]; simp only [List.cons_append, List.nil_append, List.set_cons_succ, List.set_cons_zero, Value.cells, iv_snoc, tv_snoc] at hS; simp only [List.take_zero, List.nil_append, List.append_nil, List.drop_succ_cons, List.drop_zero, List.drop_nil, List.take_succ_cons, List.cons_append, List.size_toArray, List.length_cons, List.length_nil, Nat.reduceAdd] at hS) | ((with_reducible refine g_load (T := 25) ?_); refine seq_of hS rfl (stp_load_all (T := 25) 5 Try.isAgg25 Try.sizeOf25 rfl rfl rfl ?_); simp only [Act.put, List.setIfInBounds_toArray, List.set_cons_succ, List.set_cons_zero, Int.toNat_natCast, Int.toNat_zero, Int.toNat_one, nth_zero, nth_one]) | ((with_reducible refine g_store (T := 25) ?_); refine seq_store (T := 25) (u := .agg #[.slice _ _ _, .slice _ _ _]) 4 hS rfl rfl rfl Try.sizeOf25 (by simp [Value.cells, Value.oneCell']) (by simp [Value.cells]) (fun _ hS => ?_); simp only [Act.put, List.setIfInBounds_toArray, List.set_cons_succ, List.set_cons_zero, Int.toNat_natCast, Int.toNat_zero, Int.toNat_one, nth_zero, nth_one]; simp only [List.cons_append, List.nil_append, List.set_cons_succ, List.set_cons_zero, Value.cells, iv_snoc, tv_snoc] at hS; simp only [List.take_zero, List.nil_append, List.append_nil, List.drop_succ_cons, List.drop_zero, List.drop_nil, List.take_succ_cons, List.cons_append, List.size_toArray, List.length_cons, List.length_nil, Nat.reduceAdd] at hS))
      refine ret_cell1 4 hS rfl rfl rfl Try.isAgg25 Try.sizeOf25 rfl rfl ?_
      rename_i w6
      have h1 : SlC w6 (New w w6) 1 (.slice (some ⟨g1, 0, none⟩) k c1) k ((iv W).take (k * 1)) := SlC.cut (n := W.length) (hS.result (T := 3) (by simp)) (by omega)
      obtain ⟨W', hW', hW'l⟩ : ∃ W', W.take k = W' ∧ k = W'.length := ⟨_, rfl, by rw [List.length_take]; omega⟩
      have h2 : (iv W).take (k * 1) = iv W' := by rw [← hW', Nat.mul_one]; simp [iv, List.map_take]
      rw [h2, hW'l] at h1
      rw [hW'l]
      exact ⟨_, W', N, rfl, hS.toBelow (by simp), ⟨_, _, _, _, rfl, ⟨h1, fun x hx => hwb x (List.mem_of_mem_take (by rw [hW']; exact hx))⟩, hS.resultTris 1 rfl hnb⟩, by omega⟩
end Go.Proofs.Ytdibpfbibgicaaa
