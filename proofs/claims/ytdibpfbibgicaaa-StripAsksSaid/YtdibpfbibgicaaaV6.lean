/- V6: strip.Find. -/
import Derived.Test.YtdibpfbibgicaaaV345
import Derived.Test.YtdibpfbibgicaaaF6
set_option linter.unusedVariables false
set_option linter.unusedSimpArgs false
namespace Go.Proofs.Ytdibpfbibgicaaa
open Go.RowKit Go.Hp

theorem validN_cases (W : List Int) (N : List Tri) : (validN W N = 0 ∧ VG W N) ∨ (0 < validN W N ∧ validN W N ≤ 4) := by
  by_cases h : validN W N = 0
  · exact .inl ⟨h, VG.of_valid h⟩
  · refine .inr ⟨by omega, ?_⟩
    unfold validN
    split
    · omega
    · split <;> omega

theorem sfind_bad (gv : Value) (most : Int) (W : List Int) (N : List Tri) (w : World) (hg : GraphAt w (Old w) gv W N) (hv : validN W N ≠ 0) :
    Calls Try.prog 12 #[gv, .int .i64 most] w fun e w' => e = .returned (.tuple #[.slice none 0 0, .int .i64 (validN W N)]) ∧ Below w.heap.size w w' := by
  have hg' := hg
  obtain ⟨aw, cw, an, cn, rfl, hw, hnn⟩ := hg'
  have hS := Heap.start w
  have f1 : (((validN W N : Nat) : Int) != 0) = true := by simp; omega
  go_enter Try.func12, Try.ntmps12
  go_wp2_with (first | ((with_reducible refine g_box (T := 34) ?_); refine seq_box (T := 34) (v := .agg _) hS rfl (fun bg wbg hS => ?_); simp only [Act.put, List.setIfInBounds_toArray, List.set_cons_succ, List.set_cons_zero, Int.toNat_natCast, Int.toNat_zero, Int.toNat_one, nth_zero, nth_one]; simp only [List.cons_append, List.nil_append, List.set_cons_succ, List.set_cons_zero, Value.cells, iv_snoc, tv_snoc] at hS) | ((with_reducible refine g_load (T := 34) ?_); refine seq_of hS rfl (stp_load_all (T := 34) 1 Try.isAgg34 Try.sizeOf34 rfl rfl rfl ?_); simp only [Act.put, List.setIfInBounds_toArray, List.set_cons_succ, List.set_cons_zero, Int.toNat_natCast, Int.toNat_zero, Int.toNat_one, nth_zero, nth_one]) | (go_at_call 24; refine (rvalid_any _ _ _ _ (hg.arg hS (by simp))).mono ?_; rintro e w' ⟨rfl, hB⟩; have hS := hS.below hB))
  refine bodyPost_ret (results_tmp2 rfl _ _ _) rfl ?_
  exact ⟨rfl, hS.toBelow (by simp)⟩

set_option maxHeartbeats 2000000 in
set_option maxRecDepth 100000 in
theorem sfind_ok (gv : Value) (most : Int) (W : List Int) (N : List Tri) (w : World) (hg : GraphAt w (Old w) gv W N) (hv : VG W N) (hm : InI most) :
    Calls Try.prog 12 #[gv, .int .i64 most] w fun e w' => ∃ a c, e = .returned (.tuple #[.slice a (finds W N (List.range W.length) most).length c, .int .i64 0]) ∧ Below w.heap.size w w' ∧ Nats w' (New w w') (.slice a (finds W N (List.range W.length) most).length c) (finds W N (List.range W.length) most) := by
  have hg' := hg
  obtain ⟨aw, cw, an, cn, rfl, hw, hnn⟩ := hg'
  have hS := (Heap.start w).addNil 3 1
  have hle := hv.wlen
  have hst := StOk.start hv
  have HV0 := Lib.hid (valid_of_VG hv)
  have hF : finds W N (List.range W.length) most = (List.range W.length).filter fun i => (first W N (List.range W.length) i most).isSome := by unfold finds; rw [List.length_range]
  rw [hF]
  have hfi : ∀ i, i < W.length → stripL (lwTo W W.length) (lenTo N N.length) i most = first W N (List.range W.length) i most := fun i hi => stripL_first hst hv (by simp) (nth_range _ _ (by omega)) hi (nth_range _ _ hi) most
  have hk : ∀ p ∈ lenTo N N.length, p.1.1 ≤ 4096 ∧ p.1.2 ≤ 4096 := fun p hp => by have := hst.l p hp; omega
  have hll := hst.len
  generalize hllE : lenTo N N.length = ll at hst hfi hk hll
  generalize hlwE : lwTo W W.length = lw at hst hfi
  have HLL := Lib.hid hllE
  have HLW := Lib.hid hlwE
  clear hllE hlwE
  clear hF
  generalize hPd : (fun i => (first W N (List.range W.length) i most).isSome) = P
  have HP : ∀ i, i < W.length → Hid ((stripL lw ll i most).isSome = P i) := fun i hi => by rw [← hPd]; show (stripL lw ll i most).isSome = _; rw [hfi i hi]
  clear hfi hst
  go_enter Try.func12, Try.ntmps12
  go_wp2_with (first | ((with_reducible refine g_box (T := 34) ?_); refine seq_box (T := 34) (v := .agg _) hS rfl (fun bg wbg hS => ?_); simp only [Act.put, List.setIfInBounds_toArray, List.set_cons_succ, List.set_cons_zero, Int.toNat_natCast, Int.toNat_zero, Int.toNat_one, nth_zero, nth_one]; simp only [List.cons_append, List.nil_append, List.set_cons_succ, List.set_cons_zero, Value.cells, iv_snoc, tv_snoc] at hS) | ((with_reducible refine g_load (T := 34) ?_); refine seq_of hS rfl (stp_load_all (T := 34) 2 Try.isAgg34 Try.sizeOf34 rfl rfl rfl ?_); simp only [Act.put, List.setIfInBounds_toArray, List.set_cons_succ, List.set_cons_zero, Int.toNat_natCast, Int.toNat_zero, Int.toNat_one, nth_zero, nth_one]) | ((with_reducible refine g_load (T := 22) ?_); refine seq_of hS rfl (stp_load_blk (T := 22) 2 Try.isAgg22 rfl rfl rfl ?_); simp only [Act.put, List.setIfInBounds_toArray, List.set_cons_succ, List.set_cons_zero, Int.toNat_natCast, Int.toNat_zero, Int.toNat_one, nth_zero, nth_one]) | (go_at_call 24; refine (rvalid_any _ _ _ _ (hg.arg hS (by simp))).mono ?_; rintro e w' ⟨rfl, hB⟩; have hS := hS.below hB; rw [HV0.out]) | (go_at_call 36; refine (salone_any _ _ _ _ (hg.arg hS (by simp)) hv).mono ?_; rintro e wa ⟨a1, c1, bw, bl, bs, ow, ol, rfl, hmw, hml, hSa⟩; have hS := hS.import hSa; simp only [stH] at hS; simp only [List.cons_append, List.nil_append, List.set_cons_succ, List.set_cons_zero, Value.cells, iv_snoc, tv_snoc] at hS; rw [HLL.out] at hml; rw [HLW.out] at hmw))
  simp only [List.getElem_toArray, List.getElem_cons_zero, List.getElem_cons_succ]
  go_loopw [8, 22] (fun out i wr => ∃ (k : Nat) (a : Option Addr) (c : Nat), k ≤ W.length ∧ i = .int .i64 k ∧ out = .slice a ((List.range k).filter P).length c ∧ Heap w wr [.frz (Old w) w, .row (.slice a ((List.range k).filter P).length c) 3 1 ((List.range k).filter P).length (iv (zs ((List.range k).filter P))), .blk bg (.cells #[.slice aw W.length cw, .slice an N.length cn] 34 (0, 0)), .row (.slice a1 W.length c1) 3 1 W.length (iv (zs (List.range W.length))), .blk bw ow, .blk bl ol, .blk bs (.cells #[.slice a1 W.length c1, .map (some bw), .map (some bl)] 84 (0, 0))]) (fun _ i _ => W.length - (intOf i).toNat)
  case atStart => exact ⟨0, none, 0, by omega, rfl, rfl, hS⟩
  case round =>
    clear hS
    obtain ⟨k, a', c', hk', rfl, rfl, hS⟩ := hrel
    have hfl : ((List.range k).filter P).length ≤ k := by have := List.length_filter_le P (List.range k); rw [List.length_range] at this; exact this
    by_cases hlt : k < W.length
    · have hto : (List.range (k + 1)).filter P = (List.range k).filter P ++ (if P k then [k] else []) := by
        rw [List.range_succ, List.filter_append]
        congr 1
        by_cases h : P k <;> simp [h]
      have hPk := HP k hlt
      cases hf : stripL lw ll k most with
      | none =>
        rw [hf] at hPk
        have hb : P k = false := hPk.out.symm
        rw [hb] at hto
        simp only [Bool.false_eq_true, if_false, List.append_nil] at hto
        have HTO := Lib.hid hto
        have HF := Lib.hid hf
        clear hto hf hb hPk
        go_wp2_with (first | (go_at_call 37; refine (strip_any _ _ _ _ _ _ _ _ _ _ _ _ _ (hS.fz 6 rfl) (hS.fz 4 rfl) hmw (hS.fz 5 rfl) hml hk hll (by omega) hm).mono ?_; rintro e w' ⟨rfl, hB⟩; have hS := hS.below hB; rw [HF.out]; simp only [strV, noStr]) | ((with_reducible refine g_alloc (T := 74) ?_); refine seq_alloc (T := 74) hS Try.zeroValue74 (fun b3 wb3 hS => ?_); simp only [Act.put, List.setIfInBounds_toArray, List.set_cons_succ, List.set_cons_zero, Int.toNat_natCast, Int.toNat_zero, Int.toNat_one, nth_zero, nth_one]; simp only [List.cons_append, List.nil_append, List.set_cons_succ, List.set_cons_zero, Value.cells, iv_snoc, tv_snoc] at hS) | ((with_reducible refine g_store (T := 74) ?_); refine seq_store (T := 74) (u := .agg _) 7 hS rfl rfl rfl Try.sizeOf74 (by simp [Value.cells, Value.oneCell']) (by simp [Value.cells]) (fun _ hS => ?_); simp only [Act.put, List.setIfInBounds_toArray, List.set_cons_succ, List.set_cons_zero, Int.toNat_natCast, Int.toNat_zero, Int.toNat_one, nth_zero, nth_one]; simp only [List.cons_append, List.nil_append, List.set_cons_succ, List.set_cons_zero, Value.cells, iv_snoc, tv_snoc] at hS; simp only [List.take_zero, List.nil_append, List.append_nil, List.drop_succ_cons, List.drop_zero, List.drop_nil, List.take_succ_cons, List.cons_append, List.size_toArray, List.length_cons, List.length_nil, Nat.reduceAdd] at hS) | ((with_reducible refine g_app ?_); refine seq_append_lit (t := 22) 1 hS Try.underlying22 Try.info3 rfl (by decide) rfl rfl rfl rfl (by simp [Value.oneCell']) (by omega) (by unfold maxLen; omega) (fun _ _ _ hS => ?_); simp only [Act.put, List.setIfInBounds_toArray, List.set_cons_succ, List.set_cons_zero, Int.toNat_natCast, Int.toNat_zero, Int.toNat_one, nth_zero, nth_one]; simp only [List.cons_append, List.nil_append, List.set_cons_succ, List.set_cons_zero, Value.cells, iv_snoc, tv_snoc] at hS))
        go_roundw
        case rel => exact ⟨k + 1, a', c', by omega, by go_num, by rw [HTO.out], by rw [HTO.out]; exact (hS.sub (by repeat (first | exact List.Sublist.refl _ | apply List.Sublist.cons_cons | apply List.Sublist.cons | exact List.nil_sublist _)))⟩
        case measure => simp [intOf]; omega
      | some s =>
        rw [hf] at hPk
        have hb : P k = true := hPk.out.symm
        rw [hb] at hto
        simp only [if_true] at hto
        have HTO := Lib.hid hto
        have HF := Lib.hid hf
        clear hto hf hb hPk
        go_wp2_with (first | (go_at_call 37; refine (strip_any _ _ _ _ _ _ _ _ _ _ _ _ _ (hS.fz 6 rfl) (hS.fz 4 rfl) hmw (hS.fz 5 rfl) hml hk hll (by omega) hm).mono ?_; rintro e w' ⟨rfl, hB⟩; have hS := hS.below hB; rw [HF.out]; simp only [strV, strA]) | ((with_reducible refine g_alloc (T := 74) ?_); refine seq_alloc (T := 74) hS Try.zeroValue74 (fun b3 wb3 hS => ?_); simp only [Act.put, List.setIfInBounds_toArray, List.set_cons_succ, List.set_cons_zero, Int.toNat_natCast, Int.toNat_zero, Int.toNat_one, nth_zero, nth_one]; simp only [List.cons_append, List.nil_append, List.set_cons_succ, List.set_cons_zero, Value.cells, iv_snoc, tv_snoc] at hS) | ((with_reducible refine g_store (T := 74) ?_); refine seq_store (T := 74) (u := .agg _) 7 hS rfl rfl rfl Try.sizeOf74 (by simp [Value.cells, Value.oneCell']) (by simp [Value.cells]) (fun _ hS => ?_); simp only [Act.put, List.setIfInBounds_toArray, List.set_cons_succ, List.set_cons_zero, Int.toNat_natCast, Int.toNat_zero, Int.toNat_one, nth_zero, nth_one]; simp only [List.cons_append, List.nil_append, List.set_cons_succ, List.set_cons_zero, Value.cells, iv_snoc, tv_snoc] at hS; simp only [List.take_zero, List.nil_append, List.append_nil, List.drop_succ_cons, List.drop_zero, List.drop_nil, List.take_succ_cons, List.cons_append, List.size_toArray, List.length_cons, List.length_nil, Nat.reduceAdd] at hS) | ((with_reducible refine g_bs (T := 22) ?_); refine seq_bs1 (T := 22) (v := .int .i64 _) hS Try.underlying22 Try.sizeOf3 Try.zeroValue3 rfl rfl rfl (by decide) (by decide) rfl (fun _ _ hS => ?_); simp only [Act.put, List.setIfInBounds_toArray, List.set_cons_succ, List.set_cons_zero, Int.toNat_natCast, Int.toNat_zero, Int.toNat_one, nth_zero, nth_one]; simp only [Value.cells] at hS) | ((with_reducible refine g_app ?_); refine seq_append_lit (t := 22) 1 hS Try.underlying22 Try.info3 rfl (by decide) rfl rfl rfl rfl (by simp [Value.oneCell']) (by omega) (by unfold maxLen; omega) (fun _ _ _ hS => ?_); simp only [Act.put, List.setIfInBounds_toArray, List.set_cons_succ, List.set_cons_zero, Int.toNat_natCast, Int.toNat_zero, Int.toNat_one, nth_zero, nth_one]; simp only [List.cons_append, List.nil_append, List.set_cons_succ, List.set_cons_zero, Value.cells, iv_snoc, tv_snoc] at hS))
        go_roundw
        case rel =>
          refine ⟨k + 1, ?_⟩
          rw [HTO.out]
          simp only [List.length_append, List.length_cons, List.length_nil, Nat.zero_add, ← zs_snoc]
          exact ⟨_, _, by omega, by go_num, rfl, (hS.sub (by repeat (first | exact List.Sublist.refl _ | apply List.Sublist.cons_cons | apply List.Sublist.cons | exact List.nil_sublist _)))⟩
        case measure => simp [intOf]; omega
    · obtain rfl : k = W.length := by omega
      go_wp2
      refine bodyPost_ret (results_tmp2 rfl _ _ _) rfl ?_
      refine ⟨a', c', rfl, hS.toBelow (by simp), hS.resultNats 0 rfl (fun z hz => ?_)⟩
      have := List.mem_range.1 (List.mem_filter.1 hz).1
      omega
end Go.Proofs.Ytdibpfbibgicaaa
