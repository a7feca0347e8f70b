/- R1: the reference's Indices, Named, listed. -/
import Derived.Test.YtdibpfbibgicaaaF6
import Derived.Test.YtdibpfbibgicaaaP12
import Derived.Test.YtdibpfbibgicaaaBase1
set_option linter.unusedVariables false
set_option linter.unusedSimpArgs false
namespace Go.Proofs.Ytdibpfbibgicaaa
open Go.RowKit Go.Hp

theorem nth_take {α : Type} (d : α) (xs : List α) {i k : Nat} (h : i < k) : nth d (xs.take k) i = nth d xs i := by
  unfold nth
  rw [List.getD_eq_getElem?_getD, List.getD_eq_getElem?_getD, List.getElem?_take, if_pos h]
theorem idxTo_take {n : Nat} {of : List Nat} (h : Gr n of) {k : Nat} (hk : k ≤ n) : (idxTo of k).1 = (idx of).take k := by
  have hl := idxTo_len of k
  have hi := idx_len of
  have hn := h.len
  refine nth_ext 0 (by rw [List.length_take]; omega) fun i hi' => ?_
  rw [hl] at hi'
  rw [(idxTo_hb h k hk).2 i hi']
  rw [nth_take 0 _ hi', idx_at h (by omega)]

set_option maxHeartbeats 1000000 in
set_option maxRecDepth 100000 in
theorem indices_any (a : Option Addr) (n c : Nat) (of : List Nat) (w : World) (hx : Nats w (Old w) (.slice a n c) of) (hgr : Gr of.length of) (hle : of.length ≤ 4096) :
    Calls Try.prog 16 #[.slice a n c] w fun e w' => ∃ a' c', e = .returned (.slice a' of.length c') ∧ Below w.heap.size w w' ∧ Nats w' (New w w') (.slice a' of.length c') (idx of) := by
  have hn := hx.len
  subst hn
  have hS := (Heap.start w).addNil 3 1
  go_enter Try.func16, Try.ntmps16
  go_wp2
  go_loopw [3, 4, 5] (fun out many i wr => ∃ (k : Nat) (a2 : Option Addr) (c2 : Nat), k ≤ of.length ∧ i = .int .i64 k ∧ out = .slice a2 k c2 ∧ many = .int .i64 (hb of k) ∧ Heap w wr [.frz (Old w) w, .row (.slice a2 k c2) 3 1 k (iv (zs ((idx of).take k)))]) (fun _ _ i _ => of.length - (intOf i).toNat)
  case atStart => exact ⟨0, none, 0, by omega, rfl, rfl, rfl, hS⟩
  case round =>
    clear hS
    obtain ⟨k, a2, c2, hk, rfl, rfl, rfl, hS⟩ := hrel
    by_cases hlt : k < of.length
    · have hsn : (idx of).take (k + 1) = (idx of).take k ++ [hb of (nth 0 of k)] := by
        rw [take_snoc 0 _ k (by rw [idx_len]; exact hlt), idx_at hgr hlt]
      have hbk := hb_succ of k
      have hhk := hb_le of (Nat.le_of_lt hlt)
      have hhn := hds_len_le of
      rw [hb_len] at hhk
      rcases nat_beq_cases (nth 0 of k) k with ⟨hc, hh⟩ | ⟨hc, hh⟩
      · rw [hh.out] at hsn
        rw [if_pos hh.out] at hbk
        have HSN := Lib.hid hsn
        have HBK := Lib.hid hbk
        clear hsn hbk
        go_wp2_with (first | ((with_reducible refine g_idx (T := 22) ?_); refine seq_any rfl (any_index_nat (T := 22) Try.underlying22 Try.sizeOf3 rfl rfl (by with_reducible assumption) (by omega) (by omega) (fun _ _ _ => ?_)); simp only [Act.put, List.setIfInBounds_toArray, List.set_cons_succ, List.set_cons_zero, Int.toNat_natCast, Int.toNat_zero, Int.toNat_one, nth_zero, nth_one]) | ((with_reducible refine g_load (T := 3) ?_); refine seq_of hS rfl (stp_load (T := 3) Try.isAgg3 rfl (by with_reducible assumption) (by simp) rfl ?_); simp only [Act.put, List.setIfInBounds_toArray, List.set_cons_succ, List.set_cons_zero, Int.toNat_natCast, Int.toNat_zero, Int.toNat_one, nth_zero, nth_one]) | ((with_reducible refine g_bs (T := 22) ?_); refine seq_bs1 (T := 22) (v := .int .i64 _) hS Try.underlying22 Try.sizeOf3 Try.zeroValue3 rfl rfl rfl (by decide) (by decide) rfl (fun _ _ hS => ?_); simp only [Act.put, List.setIfInBounds_toArray, List.set_cons_succ, List.set_cons_zero, Int.toNat_natCast, Int.toNat_zero, Int.toNat_one, nth_zero, nth_one]; simp only [Value.cells] at hS) | ((with_reducible refine g_app ?_); refine seq_append_lit (t := 22) 1 hS Try.underlying22 Try.info3 rfl (by decide) rfl rfl rfl rfl (by simp [Value.oneCell']) (by omega) (by unfold maxLen; omega) (fun _ _ _ hS => ?_); simp only [Act.put, List.setIfInBounds_toArray, List.set_cons_succ, List.set_cons_zero, Int.toNat_natCast, Int.toNat_zero, Int.toNat_one, nth_zero, nth_one]; simp only [List.cons_append, List.nil_append, List.set_cons_succ, List.set_cons_zero, Value.cells, iv_snoc, tv_snoc] at hS))
        go_roundw
        case rel =>
          rw [zs_snoc, ← HSN.out] at hS
          exact ⟨k + 1, _, _, by omega, by go_num, rfl, by rw [HBK.out]; go_num, (hS.sub (by repeat (first | exact List.Sublist.refl _ | apply List.Sublist.cons_cons | apply List.Sublist.cons | exact List.nil_sublist _)))⟩
        case measure => simp [intOf]; omega
      · rw [if_neg hh.out, Nat.add_zero] at hbk
        have HSN := Lib.hid hsn
        have HBK := Lib.hid hbk
        have hlt2 : nth 0 of k < k := by
          have := hgr.le k hlt
          have := hh.out
          omega
        have hat : nth 0 ((idx of).take k) (nth 0 of k) = hb of (nth 0 of k) := by
          rw [nth_take 0 _ hlt2, idx_at hgr (by omega), hgr.idem k hlt]
        have hz := nth_zs ((idx of).take k) (nth 0 of k)
        rw [hat] at hz
        have HZ := Lib.hid hz
        obtain ⟨ad, rfl⟩ := hS.rowAt 1 rfl (by omega)
        clear hsn hbk hat hz
        go_wp2_with (first | ((with_reducible refine g_idx (T := 22) ?_); refine seq_any rfl (any_index_nat (T := 22) Try.underlying22 Try.sizeOf3 rfl rfl (by with_reducible assumption) (by omega) (by omega) (fun _ _ _ => ?_)); simp only [Act.put, List.setIfInBounds_toArray, List.set_cons_succ, List.set_cons_zero, Int.toNat_natCast, Int.toNat_zero, Int.toNat_one, nth_zero, nth_one]) | ((with_reducible refine g_idx (T := 22) ?_); refine seq_any rfl (any_index_at (T := 22) Try.underlying22 Try.sizeOf3 rfl rfl (by omega) (by omega) ?_); simp only [Act.put, List.setIfInBounds_toArray, List.set_cons_succ, List.set_cons_zero, Int.toNat_natCast, Int.toNat_zero, Int.toNat_one, nth_zero, nth_one]; simp only [Nat.zero_add, Int.toNat_natCast]) | ((with_reducible refine g_load (T := 3) ?_); refine seq_of hS rfl (stp_load (T := 3) Try.isAgg3 rfl (by with_reducible assumption) (by simp) rfl ?_); simp only [Act.put, List.setIfInBounds_toArray, List.set_cons_succ, List.set_cons_zero, Int.toNat_natCast, Int.toNat_zero, Int.toNat_one, nth_zero, nth_one]) | (((with_reducible refine g_load (T := 3) ?_); refine seq_of hS rfl (stp_load_row (T := 3) 1 Try.isAgg3 rfl rfl (by omega) ?_); simp only [Act.put, List.setIfInBounds_toArray, List.set_cons_succ, List.set_cons_zero, Int.toNat_natCast, Int.toNat_zero, Int.toNat_one, nth_zero, nth_one]); rw [HZ.out]) | ((with_reducible refine g_bs (T := 22) ?_); refine seq_bs1 (T := 22) (v := .int .i64 _) hS Try.underlying22 Try.sizeOf3 Try.zeroValue3 rfl rfl rfl (by decide) (by decide) rfl (fun _ _ hS => ?_); simp only [Act.put, List.setIfInBounds_toArray, List.set_cons_succ, List.set_cons_zero, Int.toNat_natCast, Int.toNat_zero, Int.toNat_one, nth_zero, nth_one]; simp only [Value.cells] at hS) | ((with_reducible refine g_app ?_); refine seq_append_lit (t := 22) 1 hS Try.underlying22 Try.info3 rfl (by decide) rfl rfl rfl rfl (by simp [Value.oneCell']) (by omega) (by unfold maxLen; omega) (fun _ _ _ hS => ?_); simp only [Act.put, List.setIfInBounds_toArray, List.set_cons_succ, List.set_cons_zero, Int.toNat_natCast, Int.toNat_zero, Int.toNat_one, nth_zero, nth_one]; simp only [List.cons_append, List.nil_append, List.set_cons_succ, List.set_cons_zero, Value.cells, iv_snoc, tv_snoc] at hS))
        go_roundw
        case rel =>
          rw [zs_snoc, ← HSN.out] at hS
          exact ⟨k + 1, _, _, by omega, by go_num, rfl, by rw [HBK.out]; rfl, (hS.sub (by repeat (first | exact List.Sublist.refl _ | apply List.Sublist.cons_cons | apply List.Sublist.cons | exact List.nil_sublist _)))⟩
        case measure => simp [intOf]; omega
    · obtain rfl : k = of.length := by omega
      rw [show of.length = (idx of).length by rw [idx_len], List.take_length, idx_len] at hS
      go_wp2
      go_ret
      exact ⟨a2, c2, rfl, hS.toBelow (by simp), hS.resultNats 0 rfl (fun z hz => by have := idx_le_len hgr z hz; omega)⟩

set_option maxHeartbeats 1000000 in
set_option maxRecDepth 100000 in
theorem named_any (a : Option Addr) (n c : Nat) (of : List Nat) (w : World) (hx : Nats w (Old w) (.slice a n c) (idx of)) (hgr : Gr of.length of) (hle : of.length ≤ 4096) :
    Calls Try.prog 43 #[.slice a n c] w fun e w' => ∃ a' c', e = .returned (.slice a' of.length c') ∧ Below w.heap.size w w' ∧ Nats w' (New w w') (.slice a' of.length c') of := by
  have hn := hx.len
  rw [idx_len] at hn
  subst hn
  have hil := idx_len of
  have hS := (Heap.start w).addNil 3 1
  go_enter Try.func43, Try.ntmps43
  go_wp2
  go_loopw [3, 4] (fun out i wr => ∃ (k : Nat) (a2 : Option Addr) (c2 : Nat), k ≤ of.length ∧ i = .int .i64 k ∧ out = .slice a2 k c2 ∧ Heap w wr [.frz (Old w) w, .row (.slice a2 k c2) 3 1 k (iv (zs (of.take k)))]) (fun _ i _ => of.length - (intOf i).toNat)
  case atStart => exact ⟨0, none, 0, by omega, rfl, rfl, hS⟩
  case round =>
    clear hS
    obtain ⟨k, a2, c2, hk, rfl, rfl, hS⟩ := hrel
    by_cases hlt : k < of.length
    · have hsn := take_snoc 0 of k hlt
      have HSN := Lib.hid hsn
      clear hsn
      have hlk := hgr.le k hlt
      go_wp2
      go_loopw [5] (fun j wr => ∃ m : Nat, m ≤ nth 0 of k ∧ j = .int .i64 m ∧ Heap w wr [.frz (Old w) w, .row (.slice a2 k c2) 3 1 k (iv (zs (of.take k)))]) (fun j _ => of.length - (intOf j).toNat)
      case atStart => exact ⟨0, by omega, rfl, hS⟩
      case round =>
        clear hS
        obtain ⟨m, hm, rfl, hS⟩ := hrel
        by_cases hmk : m = nth 0 of k
        · have he : nth 0 (idx of) m = nth 0 (idx of) k := (idx_eq hgr (by omega) hlt).2 (by rw [hmk, hgr.idem k hlt])
          have hmk' := hmk
          subst hmk
          have f1 : (((nth 0 (idx of) (nth 0 of k) : Nat) : Int) != ((nth 0 (idx of) k : Nat) : Int)) = false := by rw [he]; simp
          have HE := Lib.hid he
          clear he hmk'
          go_wp2
          refine wp_region_sched [.pure 0, .pure 1, .pure 2, .read 3, .pure 4, .pure 5, .pure 6, .read 7, .pure 8] [] (fun w' => Heap w w' _) (by kernel_rfl) (by kernel_rfl) hS.drew (fun w1 hS => ?_)
          repeat (first | ((first | ((with_reducible refine m_pure ?_); refine skip_pure rfl rfl ?_) | ((with_reducible refine m_read ?_); refine skip_read rfl rfl ?_)); simp only [Act.put, List.setIfInBounds_toArray, List.set_cons_succ, List.set_cons_zero, Int.toNat_natCast, Int.toNat_zero, Int.toNat_one, nth_zero, nth_one]) | ((with_reducible refine m_pure ?_); refine sched_any rfl rfl (any_index_int (T := 22) Try.underlying22 Try.sizeOf3 rfl rfl (by with_reducible assumption) (by omega) (by omega) (fun _ _ _ => ?_)); simp only [Act.put, List.setIfInBounds_toArray, List.set_cons_succ, List.set_cons_zero, Int.toNat_natCast, Int.toNat_zero, Int.toNat_one, nth_zero, nth_one]) | ((with_reducible refine m_pure ?_); refine sched_any rfl rfl (any_index_nat (T := 22) Try.underlying22 Try.sizeOf3 rfl rfl (by with_reducible assumption) (by omega) (by omega) (fun _ _ _ => ?_)); simp only [Act.put, List.setIfInBounds_toArray, List.set_cons_succ, List.set_cons_zero, Int.toNat_natCast, Int.toNat_zero, Int.toNat_one, nth_zero, nth_one]) | ((with_reducible refine m_pure ?_); refine sched_any rfl rfl (any_index_tri (T := 23) Try.underlying23 Try.sizeOf55 rfl rfl (by with_reducible assumption) (by omega) (by omega) (fun _ _ _ => ?_)); simp only [Act.put, List.setIfInBounds_toArray, List.set_cons_succ, List.set_cons_zero, Int.toNat_natCast, Int.toNat_zero, Int.toNat_one, nth_zero, nth_one]) | ((with_reducible refine m_read ?_); refine sched_of rfl rfl (stp_load (T := 3) Try.isAgg3 rfl (by with_reducible assumption) (by simp) rfl ?_); simp only [Act.put, List.setIfInBounds_toArray, List.set_cons_succ, List.set_cons_zero, Int.toNat_natCast, Int.toNat_zero, Int.toNat_one, nth_zero, nth_one]) | ((with_reducible refine m_read ?_); refine sched_of rfl rfl (stp_loadj (T := 3) 1 Try.isAgg3 rfl (by with_reducible assumption) (by simp) rfl ?_); simp only [Act.put, List.setIfInBounds_toArray, List.set_cons_succ, List.set_cons_zero, Int.toNat_natCast, Int.toNat_zero, Int.toNat_one, nth_zero, nth_one]) | ((with_reducible refine m_read ?_); refine sched_of rfl rfl (stp_loadj (T := 3) 2 Try.isAgg3 rfl (by with_reducible assumption) (by simp) rfl ?_); simp only [Act.put, List.setIfInBounds_toArray, List.set_cons_succ, List.set_cons_zero, Int.toNat_natCast, Int.toNat_zero, Int.toNat_one, nth_zero, nth_one]) | ((with_reducible refine m_read ?_); refine sched_of rfl rfl (stp_load_blk (T := 3) 1 Try.isAgg3 rfl rfl rfl ?_); simp only [Act.put, List.setIfInBounds_toArray, List.set_cons_succ, List.set_cons_zero, Int.toNat_natCast, Int.toNat_zero, Int.toNat_one, nth_zero, nth_one]) | ((with_reducible refine m_read ?_); refine sched_of rfl rfl (stp_load_blk (T := 3) 2 Try.isAgg3 rfl rfl rfl ?_); simp only [Act.put, List.setIfInBounds_toArray, List.set_cons_succ, List.set_cons_zero, Int.toNat_natCast, Int.toNat_zero, Int.toNat_one, nth_zero, nth_one]) | ((with_reducible refine m_read ?_); refine sched_of rfl rfl (stp_load_all (T := 25) 1 Try.isAgg25 Try.sizeOf25 rfl rfl rfl ?_); simp only [Act.put, List.setIfInBounds_toArray, List.set_cons_succ, List.set_cons_zero, Int.toNat_natCast, Int.toNat_zero, Int.toNat_one, nth_zero, nth_one]) | ((with_reducible refine m_read ?_); refine sched_of rfl rfl (stp_load_all (T := 25) 2 Try.isAgg25 Try.sizeOf25 rfl rfl rfl ?_); simp only [Act.put, List.setIfInBounds_toArray, List.set_cons_succ, List.set_cons_zero, Int.toNat_natCast, Int.toNat_zero, Int.toNat_one, nth_zero, nth_one]) | ((with_reducible refine m_pure ?_); refine run_pure rfl rfl (fun K hK => ?_); go_simp; refine hK _ ?_; clear hK K))
          refine sched_nil ?_
          simp only [NoPanic]
          go_wp2_with (first | ((with_reducible refine g_bs (T := 22) ?_); refine seq_bs1 (T := 22) (v := .int .i64 _) hS Try.underlying22 Try.sizeOf3 Try.zeroValue3 rfl rfl rfl (by decide) (by decide) rfl (fun _ _ hS => ?_); simp only [Act.put, List.setIfInBounds_toArray, List.set_cons_succ, List.set_cons_zero, Int.toNat_natCast, Int.toNat_zero, Int.toNat_one, nth_zero, nth_one]; simp only [Value.cells] at hS) | ((with_reducible refine g_app ?_); refine seq_append_lit (t := 22) 1 hS Try.underlying22 Try.info3 rfl (by decide) rfl rfl rfl rfl (by simp [Value.oneCell']) (by omega) (by unfold maxLen; omega) (fun _ _ _ hS => ?_); simp only [Act.put, List.setIfInBounds_toArray, List.set_cons_succ, List.set_cons_zero, Int.toNat_natCast, Int.toNat_zero, Int.toNat_one, nth_zero, nth_one]; simp only [List.cons_append, List.nil_append, List.set_cons_succ, List.set_cons_zero, Value.cells, iv_snoc, tv_snoc] at hS))
          go_roundw
          case rel =>
            rw [zs_snoc, ← HSN.out] at hS
            exact ⟨k + 1, _, _, by omega, by go_num, rfl, (hS.sub (by repeat (first | exact List.Sublist.refl _ | apply List.Sublist.cons_cons | apply List.Sublist.cons | exact List.nil_sublist _)))⟩
          case measure => simp [intOf]; omega
        · have hne : nth 0 (idx of) m ≠ nth 0 (idx of) k := fun e => by
            have h1 := (idx_eq hgr (by omega) hlt).1 e
            have h2 := hgr.le m (by omega)
            omega
          have f1 : (((nth 0 (idx of) m : Nat) : Int) != ((nth 0 (idx of) k : Nat) : Int)) = true := by simp; omega
          clear hne
          go_wp2
          refine wp_region_sched [.pure 0, .pure 1, .pure 2, .read 3, .pure 4, .pure 5, .pure 6, .read 7, .pure 8] [] (fun w' => Heap w w' _) (by kernel_rfl) (by kernel_rfl) hS.drew (fun w1 hS => ?_)
          repeat (first | ((first | ((with_reducible refine m_pure ?_); refine skip_pure rfl rfl ?_) | ((with_reducible refine m_read ?_); refine skip_read rfl rfl ?_)); simp only [Act.put, List.setIfInBounds_toArray, List.set_cons_succ, List.set_cons_zero, Int.toNat_natCast, Int.toNat_zero, Int.toNat_one, nth_zero, nth_one]) | ((with_reducible refine m_pure ?_); refine sched_any rfl rfl (any_index_int (T := 22) Try.underlying22 Try.sizeOf3 rfl rfl (by with_reducible assumption) (by omega) (by omega) (fun _ _ _ => ?_)); simp only [Act.put, List.setIfInBounds_toArray, List.set_cons_succ, List.set_cons_zero, Int.toNat_natCast, Int.toNat_zero, Int.toNat_one, nth_zero, nth_one]) | ((with_reducible refine m_pure ?_); refine sched_any rfl rfl (any_index_nat (T := 22) Try.underlying22 Try.sizeOf3 rfl rfl (by with_reducible assumption) (by omega) (by omega) (fun _ _ _ => ?_)); simp only [Act.put, List.setIfInBounds_toArray, List.set_cons_succ, List.set_cons_zero, Int.toNat_natCast, Int.toNat_zero, Int.toNat_one, nth_zero, nth_one]) | ((with_reducible refine m_pure ?_); refine sched_any rfl rfl (any_index_tri (T := 23) Try.underlying23 Try.sizeOf55 rfl rfl (by with_reducible assumption) (by omega) (by omega) (fun _ _ _ => ?_)); simp only [Act.put, List.setIfInBounds_toArray, List.set_cons_succ, List.set_cons_zero, Int.toNat_natCast, Int.toNat_zero, Int.toNat_one, nth_zero, nth_one]) | ((with_reducible refine m_read ?_); refine sched_of rfl rfl (stp_load (T := 3) Try.isAgg3 rfl (by with_reducible assumption) (by simp) rfl ?_); simp only [Act.put, List.setIfInBounds_toArray, List.set_cons_succ, List.set_cons_zero, Int.toNat_natCast, Int.toNat_zero, Int.toNat_one, nth_zero, nth_one]) | ((with_reducible refine m_read ?_); refine sched_of rfl rfl (stp_loadj (T := 3) 1 Try.isAgg3 rfl (by with_reducible assumption) (by simp) rfl ?_); simp only [Act.put, List.setIfInBounds_toArray, List.set_cons_succ, List.set_cons_zero, Int.toNat_natCast, Int.toNat_zero, Int.toNat_one, nth_zero, nth_one]) | ((with_reducible refine m_read ?_); refine sched_of rfl rfl (stp_loadj (T := 3) 2 Try.isAgg3 rfl (by with_reducible assumption) (by simp) rfl ?_); simp only [Act.put, List.setIfInBounds_toArray, List.set_cons_succ, List.set_cons_zero, Int.toNat_natCast, Int.toNat_zero, Int.toNat_one, nth_zero, nth_one]) | ((with_reducible refine m_read ?_); refine sched_of rfl rfl (stp_load_blk (T := 3) 1 Try.isAgg3 rfl rfl rfl ?_); simp only [Act.put, List.setIfInBounds_toArray, List.set_cons_succ, List.set_cons_zero, Int.toNat_natCast, Int.toNat_zero, Int.toNat_one, nth_zero, nth_one]) | ((with_reducible refine m_read ?_); refine sched_of rfl rfl (stp_load_blk (T := 3) 2 Try.isAgg3 rfl rfl rfl ?_); simp only [Act.put, List.setIfInBounds_toArray, List.set_cons_succ, List.set_cons_zero, Int.toNat_natCast, Int.toNat_zero, Int.toNat_one, nth_zero, nth_one]) | ((with_reducible refine m_read ?_); refine sched_of rfl rfl (stp_load_all (T := 25) 1 Try.isAgg25 Try.sizeOf25 rfl rfl rfl ?_); simp only [Act.put, List.setIfInBounds_toArray, List.set_cons_succ, List.set_cons_zero, Int.toNat_natCast, Int.toNat_zero, Int.toNat_one, nth_zero, nth_one]) | ((with_reducible refine m_read ?_); refine sched_of rfl rfl (stp_load_all (T := 25) 2 Try.isAgg25 Try.sizeOf25 rfl rfl rfl ?_); simp only [Act.put, List.setIfInBounds_toArray, List.set_cons_succ, List.set_cons_zero, Int.toNat_natCast, Int.toNat_zero, Int.toNat_one, nth_zero, nth_one]) | ((with_reducible refine m_pure ?_); refine run_pure rfl rfl (fun K hK => ?_); go_simp; refine hK _ ?_; clear hK K))
          refine sched_nil ?_
          simp only [NoPanic]
          go_wp2
          go_roundw
          case rel => exact ⟨m + 1, by omega, by go_num, (hS.sub (by repeat (first | exact List.Sublist.refl _ | apply List.Sublist.cons_cons | apply List.Sublist.cons | exact List.nil_sublist _)))⟩
          case measure => simp [intOf]; omega
    · obtain rfl : k = of.length := by omega
      rw [List.take_length] at hS
      go_wp2
      go_ret
      exact ⟨a2, c2, rfl, hS.toBelow (by simp), hS.resultNats 0 rfl (fun z hz => by obtain ⟨i, hi, rfl⟩ := List.mem_iff_getElem.1 hz; have := hgr.le i hi; rw [nth_eq 0 of i hi] at this; omega)⟩
end Go.Proofs.Ytdibpfbibgicaaa
