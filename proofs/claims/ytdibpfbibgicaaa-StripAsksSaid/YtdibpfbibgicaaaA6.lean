/- A6: rank.At at the indices of groups. -/
import Derived.Test.YtdibpfbibgicaaaA3
import Derived.Test.YtdibpfbibgicaaaA4
import Derived.Test.YtdibpfbibgicaaaA5
import Derived.Test.YtdibpfbibgicaaaR2
import Derived.Test.YtdibpfbibgicaaaBase1
set_option linter.unusedVariables false
set_option linter.unusedSimpArgs false
namespace Go.Proofs.Ytdibpfbibgicaaa
open Go.RowKit Go.Hp

/-- The weights that the first k faces make. -/
def wts (W : List Int) (of : List Nat) (k : Nat) : List Int := (List.range (hb of k)).map fun m => weightTo W of (nth 0 (hds of) m) k
theorem wts_len (W : List Int) (of : List Nat) (k : Nat) : (wts W of k).length = hb of k := by simp [wts]
theorem wts_at (W : List Int) (of : List Nat) {k m : Nat} (h : m < hb of k) : nth 0 (wts W of k) m = weightTo W of (nth 0 (hds of) m) k := by
  rw [nth_eq 0 _ _ (by rw [wts_len]; exact h)]; simp [wts]
theorem weightTo_none (W : List Int) (of : List Nat) (g : Nat) : ∀ k, (∀ i, i < k → nth 0 of i ≠ g) → weightTo W of g k = 0
  | 0, _ => rfl
  | k + 1, h => by
    simp only [weightTo]
    rw [weightTo_none W of g k (fun i hi => h i (by omega)), if_neg (h k (by omega))]; rfl
theorem nth_set {α : Type} (d v : α) (xs : List α) (i j : Nat) : nth d (xs.set i v) j = if i = j ∧ i < xs.length then v else nth d xs j := by
  unfold nth
  rw [List.getD_eq_getElem?_getD, List.getD_eq_getElem?_getD, List.getElem?_set]
  by_cases h : i = j
  · subst h
    by_cases h2 : i < xs.length
    · simp [h2]
    · simp [h2]
  · simp [h]
theorem hds_far {n : Nat} {of : List Nat} (h : Gr n of) {k i : Nat} (hk : k < n) (hi : i < hb of k) : nth 0 (hds of) i ∈ hds of ∧ hb of (nth 0 (hds of) i) = i :=
  hb_hds (of := of) (m := i) (by have := hb_le of (Nat.le_of_lt hk); rw [← hb_len, h.len]; omega)
theorem wts_head {W : List Int} {of : List Nat} (h : Gr W.length of) {k : Nat} (hk : k < W.length) (hh : nth 0 of k = k) : (wts W of k ++ [0]).set (hb of k) (0 + nth 0 W k) = wts W of (k + 1) := by
  have hl := wts_len W of k
  have hs : hb of (k + 1) = hb of k + 1 := by rw [hb_succ, if_pos hh]
  have hm : k ∈ hds of := mem_hds.2 ⟨by rw [h.len]; exact hk, hh⟩
  refine nth_ext 0 (by simp [wts_len, hs]) fun i hi => ?_
  rw [List.length_set, List.length_append, hl, List.length_singleton] at hi
  rw [wts_at W of (k := k + 1) (by omega), nth_set]
  rcases Nat.lt_or_ge i (hb of k) with h1 | h1
  · rw [if_neg (by omega), nth_append_left 0 _ _ _ (by omega), wts_at W of h1]
    simp only [weightTo]
    rw [if_neg, Int.add_zero]
    intro e
    rw [hh] at e
    have := hds_far h hk h1
    rw [← e] at this; omega
  · obtain rfl : i = hb of k := by omega
    rw [if_pos ⟨rfl, by rw [List.length_append, hl]; simp⟩, hds_at hm]
    simp only [weightTo]
    rw [if_pos hh, weightTo_none W of k k (fun i hi => by have := h.le i (by omega); omega)]
theorem wts_tail {W : List Int} {of : List Nat} (h : Gr W.length of) {k : Nat} (hk : k < W.length) (hh : nth 0 of k ≠ k) : (wts W of k).set (hb of (nth 0 of k)) (nth 0 (wts W of k) (hb of (nth 0 of k)) + nth 0 W k) = wts W of (k + 1) := by
  have hl := wts_len W of k
  have hs : hb of (k + 1) = hb of k := by rw [hb_succ, if_neg hh]; rfl
  have hlt : nth 0 of k < k := by have := h.le k hk; omega
  have hid := h.idem k hk
  have hbl := hb_lt of hlt hid
  have hm : nth 0 of k ∈ hds of := mem_hds.2 ⟨by rw [h.len]; omega, hid⟩
  refine nth_ext 0 (by simp [wts_len, hs]) fun i hi => ?_
  rw [List.length_set, hl] at hi
  rw [nth_set, wts_at W of (k := k + 1) (by omega)]
  by_cases h1 : i = hb of (nth 0 of k)
  · subst h1
    rw [if_pos ⟨rfl, by omega⟩, wts_at W of hbl, hds_at hm]
    simp only [weightTo, if_true]
  · rw [if_neg (fun e => h1 e.1.symm), wts_at W of hi]
    simp only [weightTo]
    rw [if_neg, Int.add_zero]
    intro e
    have := hds_far h hk hi
    rw [← e] at this; omega
theorem wts_end {W : List Int} {of : List Nat} (h : Gr W.length of) : wts W of W.length = qW W of := by
  refine nth_ext 0 (by simp [wts_len, qW, ← hb_len, h.len]) fun i hi => ?_
  rw [wts_len] at hi
  rw [wts_at W of hi]
  have hi2 : i < (hds of).length := by rw [← hb_len, h.len]; exact hi
  have hq : ∀ g, weight W of g = weightTo W of g W.length := fun g => by unfold weight; rw [h.len]
  rw [nth_eq 0 (qW W of) i (by simp [qW]; exact hi2)]
  simp only [qW, List.getElem_map]
  rw [nth_eq 0 _ _ hi2, hq]
theorem wts_bd {W : List Int} {N : List Tri} (hv : VG W N) (of : List Nat) {k m : Nat} (hk : k ≤ W.length) (hm : m < hb of k) : 0 ≤ nth 0 (wts W of k) m ∧ nth 0 (wts W of k) m ≤ 4503599627370496 := by
  rw [wts_at W of hm]
  have := weightTo_bd hv of (nth 0 (hds of) m) k hk
  have := hv.wlen
  omega

theorem _root_.Go.Hp.Heap.rowTris {w0 w : World} {H : List Chunk} {v : Value} {T : TypeId} {n : Nat} {xs : List Tri} (hS : Heap w0 w H) (j : Nat) (hj : H[j]? = some (.row v T 3 n (tv xs))) (hb : ∀ x ∈ xs, InT x) : Tris w (Old w) v xs := by
  have hok := hS.ok _ (List.mem_of_getElem? hj)
  have hl : xs.length = n := by have := hok.1; rw [tv_length] at this; omega
  subst hl
  exact ⟨(SlC.ofRow hok).old, hb⟩
theorem nearTo_vals {W : List Int} {N : List Tri} (hv : VG W N) {of : List Nat} (h : Gr W.length of) : ∀ p ∈ nearTo (idx of) N N.length, p.1.1 ≤ 4096 ∧ p.1.2 ≤ 4096 ∧ 0 ≤ p.2 ∧ p.2 ≤ 18014398509481984 := by
  intro p hp
  obtain ⟨h1, h2⟩ := nearTo_keys hv (l := idx of) (K := (hds of).length) (fun i hi => idx_lt h hi) N.length (Nat.le_refl _) p hp
  have h3 := hds_len_le of
  have h4 := hv.wlen
  rw [h.len] at h3
  obtain ⟨⟨i, k⟩, c⟩ := p
  have h5 := getL_of_mem (nearTo_nodup (idx of) N N.length) hp
  have h6 := (nearTo_get hv (idx of) (i := i) (k := k) h1 N.length (Nat.le_refl _)).1
  rw [h5] at h6
  have h7 := commonTo_bd hv (idx of) i k N.length (Nat.le_refl _)
  have h8 := hv.nlen
  simp only [Option.getD_some] at h6
  simp only at h1 h2 ⊢
  omega
theorem srt3_near {W : List Int} {N : List Tri} (hv : VG W N) {of : List Nat} (h : Gr W.length of) {d : LL} (hd : d.Perm (nearTo (idx of) N N.length)) : srt3 (d.map triOf) = qN N of :=
  near_sorted hv h hd _ fun x y => by
    unfold ltOf
    rw [decide_eq_decide.2 (c3_lt y x)]
theorem qN_in {W : List Int} {N : List Tri} (hv : VG W N) {of : List Nat} (h : Gr W.length of) : ∀ e ∈ qN N of, InT e := by
  intro e he
  obtain ⟨i, k, h1, h2, h3, rfl⟩ := mem_qN.1 he
  have h4 := hds_len_le of
  have h5 := hv.wlen
  rw [h.len] at h4
  have h6 := common_bd hv of (nth 0 (hds of) i) (nth 0 (hds of) k)
  unfold InT InI
  simp only
  omega
theorem qW_in {W : List Int} {N : List Tri} (hv : VG W N) {of : List Nat} (h : Gr W.length of) : ∀ x ∈ qW W of, InI x := by
  intro x hx
  obtain ⟨g, _, rfl⟩ := List.mem_map.1 hx
  have := weight_bd hv h.len g
  unfold InI
  omega

set_option maxHeartbeats 4000000 in
set_option maxRecDepth 100000 in
theorem at_any (gv : Value) (al : Option Addr) (n cl bc cc : Nat) (Tb : TypeId) (W : List Int) (N : List Tri) (of : List Nat) (w : World) (hg : GraphAt w (Old w) gv W N) (hv : VG W N) (hgr : Gr W.length of) (hx : Nats w (Old w) (.slice al n cl) (idx of)) (hc : Fz w (Old w) bc (.cells #[.slice al n cl] Tb (0, 0))) :
    Calls Try.prog 33 #[gv, .agg #[.slice (some ⟨bc, 0, none⟩) 1 cc], .int .i64 0] w fun e w' => Below w.heap.size w w' ∧
      ((qOver W N of = true ∧ e = .returned (.tuple #[.agg #[.slice none 0 0, .slice none 0 0], .int .i64 4])) ∨ (qOver W N of = false ∧ ∃ gv', e = .returned (.tuple #[gv', .int .i64 0]) ∧ GraphAt w' (New w w') gv' (qW W of) (qN N of))) := by
  have hn := hx.len
  rw [idx_len, hgr.len] at hn
  subst hn
  have hil := idx_len of
  rw [hgr.len] at hil
  have hg' := hg
  obtain ⟨aw, cw, an, cn, rfl, hw, hnn⟩ := hg'
  have hS := ((Heap.start w).addNil 3 1).addNil 55 3
  have hle := hv.wlen
  have hle2 := hv.nlen
  have HV0 := Lib.hid (valid_of_VG hv)
  have hok := listOk_idx hgr
  have HIL := Lib.hid hil
  clear hil
  go_enter Try.func33, Try.ntmps33
  repeat ((fail_if_success ((with_reducible refine g_box ?_))); go_step)
  ((with_reducible refine g_box (T := 34) ?_); refine seq_box (T := 34) (v := .agg _) hS rfl (fun b3 wb3 hS => ?_); simp only [Act.put, List.setIfInBounds_toArray, List.set_cons_succ, List.set_cons_zero, Int.toNat_natCast, Int.toNat_zero, Int.toNat_one, nth_zero, nth_one]; simp only [List.cons_append, List.nil_append, List.set_cons_succ, List.set_cons_zero, Value.cells, iv_snoc, tv_snoc] at hS)
  repeat ((fail_if_success ((with_reducible refine g_box ?_))); go_step)
  ((with_reducible refine g_box (T := 72) ?_); refine seq_box (T := 72) (v := .agg _) hS rfl (fun b4 wb4 hS => ?_); simp only [Act.put, List.setIfInBounds_toArray, List.set_cons_succ, List.set_cons_zero, Int.toNat_natCast, Int.toNat_zero, Int.toNat_one, nth_zero, nth_one]; simp only [List.cons_append, List.nil_append, List.set_cons_succ, List.set_cons_zero, Value.cells, iv_snoc, tv_snoc] at hS)
  repeat ((fail_if_success ((with_reducible refine g_alloc ?_))); go_step)
  ((with_reducible refine g_alloc (T := 34) ?_); refine seq_alloc (T := 34) hS Try.zeroValue34 (fun b6 wb6 hS => ?_); simp only [Act.put, List.setIfInBounds_toArray, List.set_cons_succ, List.set_cons_zero, Int.toNat_natCast, Int.toNat_zero, Int.toNat_one, nth_zero, nth_one]; simp only [List.cons_append, List.nil_append, List.set_cons_succ, List.set_cons_zero, Value.cells, iv_snoc, tv_snoc] at hS)
  go_wp2_with (first | ((with_reducible refine g_load (T := 34) ?_); refine seq_of hS rfl (stp_load_all (T := 34) 3 Try.isAgg34 Try.sizeOf34 rfl rfl rfl ?_); simp only [Act.put, List.setIfInBounds_toArray, List.set_cons_succ, List.set_cons_zero, Int.toNat_natCast, Int.toNat_zero, Int.toNat_one, nth_zero, nth_one]) | ((with_reducible refine g_alloc (T := 34) ?_); refine seq_alloc (T := 34) hS Try.zeroValue34 (fun b11 wb11 hS => ?_); simp only [Act.put, List.setIfInBounds_toArray, List.set_cons_succ, List.set_cons_zero, Int.toNat_natCast, Int.toNat_zero, Int.toNat_one, nth_zero, nth_one]; simp only [List.cons_append, List.nil_append, List.set_cons_succ, List.set_cons_zero, Value.cells, iv_snoc, tv_snoc] at hS) | (go_at_call 24; refine (rvalid_any _ _ _ _ (hg.arg hS (by simp))).mono ?_; rintro e w' ⟨rfl, hB⟩; have hS := hS.below hB; rw [HV0.out]) | ((with_reducible refine g_load (T := 45) ?_); refine seq_of hS rfl (stp_load_blk (T := 45) 4 Try.isAgg45 rfl rfl rfl ?_); simp only [Act.put, List.setIfInBounds_toArray, List.set_cons_succ, List.set_cons_zero, Int.toNat_natCast, Int.toNat_zero, Int.toNat_one, nth_zero, nth_one]) | ((with_reducible refine g_idx (T := 45) ?_); refine seq_any rfl (any_index_at (T := 45) Try.underlying45 Try.sizeOf22 rfl rfl (by omega) (by omega) ?_); simp only [Act.put, List.setIfInBounds_toArray, List.set_cons_succ, List.set_cons_zero, Int.toNat_natCast, Int.toNat_zero, Int.toNat_one, nth_zero, nth_one]; simp only [Nat.zero_add, Int.toNat_natCast]) | ((with_reducible refine g_load (T := 22) ?_); refine seq_of hS rfl (stp_load_kn (T := 22) Try.isAgg22 rfl (Fz.known (by with_reducible assumption) (by simp)) rfl ?_); simp only [Act.put, List.setIfInBounds_toArray, List.set_cons_succ, List.set_cons_zero, Int.toNat_natCast, Int.toNat_zero, Int.toNat_one, nth_zero, nth_one]) | (go_at_call 55; refine (list_ok _ _ _ _ _ _ _ _ (hg.arg hS (by simp)) (hx.arg hS (by simp)) HIL.out hle hok).mono ?_; rintro e w' ⟨rfl, hB⟩; have hS := hS.below hB) | ((with_reducible refine g_load (T := 22) ?_); refine seq_of hS rfl (stp_load_blk (T := 22) 4 Try.isAgg22 rfl rfl rfl ?_); simp only [Act.put, List.setIfInBounds_toArray, List.set_cons_succ, List.set_cons_zero, Int.toNat_natCast, Int.toNat_zero, Int.toNat_one, nth_zero, nth_one]) | ((with_reducible refine g_load (T := 22) ?_); refine seq_of hS rfl (stp_load_blk (T := 22) 6 Try.isAgg22 rfl rfl rfl ?_); simp only [Act.put, List.setIfInBounds_toArray, List.set_cons_succ, List.set_cons_zero, Int.toNat_natCast, Int.toNat_zero, Int.toNat_one, nth_zero, nth_one]))
  have hS := hS.sub (H' := [.frz (Old w) w, .row (.slice none 0 0) 3 1 0 [], .row (.slice none 0 0) 55 3 0 [], .blk b3 (.cells #[.slice aw W.length cw, .slice an N.length cn] 34 (0, 0)), .blk b6 (.cells #[.slice none 0 0, .slice none 0 0] 34 (0, 0)), .blk b11 (.cells #[.slice none 0 0, .slice none 0 0] 34 (0, 0))]) (by simp)
  go_loopw [52] (fun i wr => ∃ (k : Nat) (a1 : Option Addr) (c1 : Nat), k ≤ W.length ∧ i = .int .i64 k ∧ Heap w wr [.frz (Old w) w, .row (.slice a1 (hb of k) c1) 3 1 (hb of k) (iv (wts W of k)), .row (.slice none 0 0) 55 3 0 [], .blk b3 (.cells #[.slice aw W.length cw, .slice an N.length cn] 34 (0, 0)), .blk b6 (.cells #[.slice none 0 0, .slice none 0 0] 34 (0, 0)), .blk b11 (.cells #[.slice a1 (hb of k) c1, .slice none 0 0] 34 (0, 0))]) (fun i _ => W.length - (intOf i).toNat)
  case atStart => exact ⟨0, none, 0, by omega, rfl, hS⟩
  case round =>
    clear hS
    obtain ⟨k, a1, c1, hk, rfl, hS⟩ := hrel
    have hbk : hb of k ≤ W.length := by
      have h1 := hb_le of hk
      have h2 := hds_len_le of
      rw [← hb_len, hgr.len] at h2
      omega
    by_cases hlt : k < W.length
    · have hik := idx_at hgr hlt
      by_cases hh : nth 0 of k = k
      · rw [hh] at hik
        have hwt := wts_head hgr hlt hh
        rw [Int.zero_add] at hwt
        have hs : hb of (k + 1) = hb of k + 1 := by rw [hb_succ, if_pos hh]
        have HIK := Lib.hid hik
        have HWT := Lib.hid hwt
        have HSC := Lib.hid hs
        have hw2 := hv.w0 _ (nth_mem 0 W k hlt)
        have f1 : (((hb of k : Nat) : Int) == (hb of k : Int)) = true := by simp
        have hat : nth 0 (wts W of k ++ [0]) (hb of k) = 0 := by
          have := nth_snoc 0 (wts W of k) (0 : Int)
          rw [wts_len] at this; exact this
        have HAT := Lib.hid hat
        clear hik hwt hs hh hat
        go_wp2_with (first | ((with_reducible refine g_idx (T := 22) ?_); refine seq_any rfl (any_index_nat (T := 22) Try.underlying22 Try.sizeOf3 rfl rfl (by with_reducible assumption) (by omega) (by omega) (fun _ _ _ => ?_)); simp only [Act.put, List.setIfInBounds_toArray, List.set_cons_succ, List.set_cons_zero, Int.toNat_natCast, Int.toNat_zero, Int.toNat_one, nth_zero, nth_one]) | (((with_reducible refine g_load (T := 3) ?_); refine seq_of hS rfl (stp_load (T := 3) Try.isAgg3 rfl (by with_reducible assumption) (by simp) rfl ?_); simp only [Act.put, List.setIfInBounds_toArray, List.set_cons_succ, List.set_cons_zero, Int.toNat_natCast, Int.toNat_zero, Int.toNat_one, nth_zero, nth_one]); rw [HIK.out]) | ((with_reducible refine g_load (T := 22) ?_); refine seq_of hS rfl (stp_load_blk (T := 22) 5 Try.isAgg22 rfl rfl rfl ?_); simp only [Act.put, List.setIfInBounds_toArray, List.set_cons_succ, List.set_cons_zero, Int.toNat_natCast, Int.toNat_zero, Int.toNat_one, nth_zero, nth_one]) | ((with_reducible refine g_bs (T := 22) ?_); refine seq_bs1 (T := 22) (v := .int .i64 _) hS Try.underlying22 Try.sizeOf3 Try.zeroValue3 rfl rfl rfl (by decide) (by decide) rfl (fun _ _ hS => ?_); simp only [Act.put, List.setIfInBounds_toArray, List.set_cons_succ, List.set_cons_zero, Int.toNat_natCast, Int.toNat_zero, Int.toNat_one, nth_zero, nth_one]; simp only [Value.cells] at hS) | ((with_reducible refine g_app ?_); refine seq_append_lit (t := 22) 1 hS Try.underlying22 Try.info3 rfl (by decide) rfl rfl rfl rfl (by simp [Value.oneCell']) (by omega) (by unfold maxLen; omega) (fun a2 c2 _ hS => ?_); simp only [Act.put, List.setIfInBounds_toArray, List.set_cons_succ, List.set_cons_zero, Int.toNat_natCast, Int.toNat_zero, Int.toNat_one, nth_zero, nth_one]; simp only [List.cons_append, List.nil_append, List.set_cons_succ, List.set_cons_zero, Value.cells, iv_snoc, tv_snoc] at hS) | ((with_reducible refine g_store (T := 22) ?_); refine seq_store (T := 22) (u := .slice _ _ _) 5 hS rfl rfl rfl Try.sizeOf22 (by simp [Value.cells, Value.oneCell']) (by simp [Value.cells]) (fun _ hS => ?_); simp only [Act.put, List.setIfInBounds_toArray, List.set_cons_succ, List.set_cons_zero, Int.toNat_natCast, Int.toNat_zero, Int.toNat_one, nth_zero, nth_one]; simp only [List.cons_append, List.nil_append, List.set_cons_succ, List.set_cons_zero, Value.cells, iv_snoc, tv_snoc] at hS; simp only [List.take_zero, List.nil_append, List.append_nil, List.drop_succ_cons, List.drop_zero, List.drop_nil, List.take_succ_cons, List.cons_append, List.size_toArray, List.length_cons, List.length_nil, Nat.reduceAdd] at hS))
        obtain ⟨ad, rfl⟩ := hS.rowAt 1 rfl (by omega)
        refine wp_region_sched [.pure 0, .read 1, .pure 2, .pure 3, .read 4, .pure 5, .read 6, .pure 7, .pure 8, .read 9, .pure 10, .pure 11, .mutt 12] [12] (fun w' => Heap w w' _) (by kernel_rfl) (by kernel_rfl) hS.drew (fun w1 hS => ?_)
        repeat (first | ((first | ((with_reducible refine m_pure ?_); refine skip_pure rfl rfl ?_) | ((with_reducible refine m_read ?_); refine skip_read rfl rfl ?_)); simp only [Act.put, List.setIfInBounds_toArray, List.set_cons_succ, List.set_cons_zero, Int.toNat_natCast, Int.toNat_zero, Int.toNat_one, nth_zero, nth_one]) | ((with_reducible refine m_read ?_); refine sched_of rfl rfl (stp_load_blk (T := 22) 5 Try.isAgg22 rfl rfl rfl ?_); simp only [Act.put, List.setIfInBounds_toArray, List.set_cons_succ, List.set_cons_zero, Int.toNat_natCast, Int.toNat_zero, Int.toNat_one, nth_zero, nth_one]) | ((with_reducible refine m_pure ?_); refine sched_any rfl rfl (any_index_at (T := 22) Try.underlying22 Try.sizeOf3 rfl rfl (by omega) (by omega) ?_); simp only [Act.put, List.setIfInBounds_toArray, List.set_cons_succ, List.set_cons_zero, Int.toNat_natCast, Int.toNat_zero, Int.toNat_one, nth_zero, nth_one]; simp only [Nat.zero_add, Int.toNat_natCast]) | (((with_reducible refine m_read ?_); refine sched_of rfl rfl (stp_load_row (T := 3) 1 Try.isAgg3 rfl rfl (by omega) ?_); simp only [Act.put, List.setIfInBounds_toArray, List.set_cons_succ, List.set_cons_zero, Int.toNat_natCast, Int.toNat_zero, Int.toNat_one, nth_zero, nth_one]); rw [HAT.out]) | ((with_reducible refine m_read ?_); refine sched_of rfl rfl (stp_load_blk (T := 22) 3 Try.isAgg22 rfl rfl rfl ?_); simp only [Act.put, List.setIfInBounds_toArray, List.set_cons_succ, List.set_cons_zero, Int.toNat_natCast, Int.toNat_zero, Int.toNat_one, nth_zero, nth_one]) | ((with_reducible refine m_pure ?_); refine sched_any rfl rfl (any_index_int (T := 22) Try.underlying22 Try.sizeOf3 rfl rfl (by with_reducible assumption) (by omega) (by omega) (fun _ _ _ => ?_)); simp only [Act.put, List.setIfInBounds_toArray, List.set_cons_succ, List.set_cons_zero, Int.toNat_natCast, Int.toNat_zero, Int.toNat_one, nth_zero, nth_one]) | ((with_reducible refine m_read ?_); refine sched_of rfl rfl (stp_load (T := 3) Try.isAgg3 rfl (by with_reducible assumption) (by simp) rfl ?_); simp only [Act.put, List.setIfInBounds_toArray, List.set_cons_succ, List.set_cons_zero, Int.toNat_natCast, Int.toNat_zero, Int.toNat_one, nth_zero, nth_one]) | ((with_reducible refine m_pure ?_); refine run_pure rfl rfl (fun K hK => ?_); go_simp; refine hK _ ?_; clear hK K))
        refine mut_at rfl ?_
        ((with_reducible refine g_store (T := 3) ?_); refine seq_store_row (T := 3) 1 hS rfl rfl rfl (by omega) Try.sizeOf3 (fun _ hS => ?_); simp only [Act.put, List.setIfInBounds_toArray, List.set_cons_succ, List.set_cons_zero, Int.toNat_natCast, Int.toNat_zero, Int.toNat_one, nth_zero, nth_one]; simp only [List.cons_append, List.nil_append, List.set_cons_succ, List.set_cons_zero, Value.cells, iv_snoc, tv_snoc] at hS)
        refine mut_end ?_
        refine sched_nil ?_
        simp only [NoPanic]
        go_wp2
        go_roundw
        case rel =>
          rw [show IntKind.i64.wrap (nth 0 W k) = nth 0 W k by rw [IntKind.wrap_i64]; omega, HWT.out, ← HSC.out] at hS
          exact ⟨k + 1, _, _, by omega, by go_num, hS⟩
        case measure => simp [intOf]; omega
      · have hwt := wts_tail hgr hlt hh
        have hs : hb of (k + 1) = hb of k := by rw [hb_succ, if_neg hh]; rfl
        have hltk : nth 0 of k < k := by have := hgr.le k hlt; omega
        have hbl := hb_lt of hltk (hgr.idem k hlt)
        have hbd := wts_bd hv of (Nat.le_of_lt hlt) hbl
        generalize hb of (nth 0 of k) = q at hik hwt hbl hbd
        have HIK := Lib.hid hik
        have HWT := Lib.hid hwt
        have HSC := Lib.hid hs
        have hw2 := hv.w0 _ (nth_mem 0 W k hlt)
        have f1 : (((q : Nat) : Int) == (hb of k : Int)) = false := by simp; omega
        clear hik hwt hs hh
        obtain ⟨ad, rfl⟩ := hS.rowAt 1 rfl (by omega)
        go_wp2_with (first | ((with_reducible refine g_idx (T := 22) ?_); refine seq_any rfl (any_index_nat (T := 22) Try.underlying22 Try.sizeOf3 rfl rfl (by with_reducible assumption) (by omega) (by omega) (fun _ _ _ => ?_)); simp only [Act.put, List.setIfInBounds_toArray, List.set_cons_succ, List.set_cons_zero, Int.toNat_natCast, Int.toNat_zero, Int.toNat_one, nth_zero, nth_one]) | (((with_reducible refine g_load (T := 3) ?_); refine seq_of hS rfl (stp_load (T := 3) Try.isAgg3 rfl (by with_reducible assumption) (by simp) rfl ?_); simp only [Act.put, List.setIfInBounds_toArray, List.set_cons_succ, List.set_cons_zero, Int.toNat_natCast, Int.toNat_zero, Int.toNat_one, nth_zero, nth_one]); rw [HIK.out]) | ((with_reducible refine g_load (T := 22) ?_); refine seq_of hS rfl (stp_load_blk (T := 22) 5 Try.isAgg22 rfl rfl rfl ?_); simp only [Act.put, List.setIfInBounds_toArray, List.set_cons_succ, List.set_cons_zero, Int.toNat_natCast, Int.toNat_zero, Int.toNat_one, nth_zero, nth_one]))
        refine wp_region_sched [.pure 0, .read 1, .pure 2, .pure 3, .read 4, .pure 5, .read 6, .pure 7, .pure 8, .read 9, .pure 10, .pure 11, .mutt 12] [12] (fun w' => Heap w w' _) (by kernel_rfl) (by kernel_rfl) hS.drew (fun w1 hS => ?_)
        repeat (first | ((first | ((with_reducible refine m_pure ?_); refine skip_pure rfl rfl ?_) | ((with_reducible refine m_read ?_); refine skip_read rfl rfl ?_)); simp only [Act.put, List.setIfInBounds_toArray, List.set_cons_succ, List.set_cons_zero, Int.toNat_natCast, Int.toNat_zero, Int.toNat_one, nth_zero, nth_one]) | ((with_reducible refine m_read ?_); refine sched_of rfl rfl (stp_load_blk (T := 22) 5 Try.isAgg22 rfl rfl rfl ?_); simp only [Act.put, List.setIfInBounds_toArray, List.set_cons_succ, List.set_cons_zero, Int.toNat_natCast, Int.toNat_zero, Int.toNat_one, nth_zero, nth_one]) | ((with_reducible refine m_pure ?_); refine sched_any rfl rfl (any_index_at (T := 22) Try.underlying22 Try.sizeOf3 rfl rfl (by omega) (by omega) ?_); simp only [Act.put, List.setIfInBounds_toArray, List.set_cons_succ, List.set_cons_zero, Int.toNat_natCast, Int.toNat_zero, Int.toNat_one, nth_zero, nth_one]; simp only [Nat.zero_add, Int.toNat_natCast]) | ((with_reducible refine m_read ?_); refine sched_of rfl rfl (stp_load_row (T := 3) 1 Try.isAgg3 rfl rfl (by omega) ?_); simp only [Act.put, List.setIfInBounds_toArray, List.set_cons_succ, List.set_cons_zero, Int.toNat_natCast, Int.toNat_zero, Int.toNat_one, nth_zero, nth_one]) | ((with_reducible refine m_read ?_); refine sched_of rfl rfl (stp_load_blk (T := 22) 3 Try.isAgg22 rfl rfl rfl ?_); simp only [Act.put, List.setIfInBounds_toArray, List.set_cons_succ, List.set_cons_zero, Int.toNat_natCast, Int.toNat_zero, Int.toNat_one, nth_zero, nth_one]) | ((with_reducible refine m_pure ?_); refine sched_any rfl rfl (any_index_int (T := 22) Try.underlying22 Try.sizeOf3 rfl rfl (by with_reducible assumption) (by omega) (by omega) (fun _ _ _ => ?_)); simp only [Act.put, List.setIfInBounds_toArray, List.set_cons_succ, List.set_cons_zero, Int.toNat_natCast, Int.toNat_zero, Int.toNat_one, nth_zero, nth_one]) | ((with_reducible refine m_read ?_); refine sched_of rfl rfl (stp_load (T := 3) Try.isAgg3 rfl (by with_reducible assumption) (by simp) rfl ?_); simp only [Act.put, List.setIfInBounds_toArray, List.set_cons_succ, List.set_cons_zero, Int.toNat_natCast, Int.toNat_zero, Int.toNat_one, nth_zero, nth_one]) | ((with_reducible refine m_pure ?_); refine run_pure rfl rfl (fun K hK => ?_); go_simp; refine hK _ ?_; clear hK K))
        refine mut_at rfl ?_
        ((with_reducible refine g_store (T := 3) ?_); refine seq_store_row (T := 3) 1 hS rfl rfl rfl (by omega) Try.sizeOf3 (fun _ hS => ?_); simp only [Act.put, List.setIfInBounds_toArray, List.set_cons_succ, List.set_cons_zero, Int.toNat_natCast, Int.toNat_zero, Int.toNat_one, nth_zero, nth_one]; simp only [List.cons_append, List.nil_append, List.set_cons_succ, List.set_cons_zero, Value.cells, iv_snoc, tv_snoc] at hS)
        refine mut_end ?_
        refine sched_nil ?_
        simp only [NoPanic]
        go_wp2
        go_roundw
        case rel =>
          rw [show IntKind.i64.wrap (nth 0 (wts W of k) q + nth 0 W k) = nth 0 (wts W of k) q + nth 0 W k by rw [IntKind.wrap_i64]; omega, HWT.out] at hS
          exact ⟨k + 1, _, _, by omega, by go_num, by rw [HSC.out]; exact hS⟩
        case measure => simp [intOf]; omega
    · obtain rfl : k = W.length := by omega
      rw [wts_end hgr] at hS
      have hK : hb of W.length = (hds of).length := by rw [← hb_len, hgr.len]
      rw [hK] at hS hbk
      have HK := Lib.hid hK
      clear hK
      generalize hKe : (hds of).length = K at hS hbk
      have HKE := Lib.hid hKe
      clear hKe
      have hm1 := MapIs.empty pk ik
      go_wp2_with (first | ((with_reducible refine g_mm (T := 100) ?_); refine seq_makeMap hS (fun bm wbm hS => ?_); simp only [Act.put, List.setIfInBounds_toArray, List.set_cons_succ, List.set_cons_zero, Int.toNat_natCast, Int.toNat_zero, Int.toNat_one, nth_zero, nth_one]; simp only [List.cons_append, List.nil_append, List.set_cons_succ, List.set_cons_zero, Value.cells, iv_snoc, tv_snoc] at hS) | ((with_reducible refine g_load (T := 23) ?_); refine seq_of hS rfl (stp_load_blk (T := 23) 3 Try.isAgg23 rfl rfl rfl ?_); simp only [Act.put, List.setIfInBounds_toArray, List.set_cons_succ, List.set_cons_zero, Int.toNat_natCast, Int.toNat_zero, Int.toNat_one, nth_zero, nth_one]))
      simp only [List.getElem_toArray, List.getElem_cons_zero, List.getElem_cons_succ]
      go_loopw [84] (fun i wr => ∃ (k : Nat) (om : Obj), k ≤ N.length ∧ i = .int .i64 k ∧ MapIs pk ik om (nearTo (idx of) N k) ∧ Heap w wr [.frz (Old w) w, .row (.slice a1 K c1) 3 1 K (iv (qW W of)), .row (.slice none 0 0) 55 3 0 [], .blk b3 (.cells #[.slice aw W.length cw, .slice an N.length cn] 34 (0, 0)), .blk b6 (.cells #[.slice none 0 0, .slice none 0 0] 34 (0, 0)), .blk b11 (.cells #[.slice a1 K c1, .slice none 0 0] 34 (0, 0)), .blk bm om]) (fun i _ => N.length - (intOf i).toNat)
      case atStart => exact ⟨0, _, by omega, rfl, hm1, hS⟩
      case round =>
        clear hS hm1
        obtain ⟨k, om, hk2, rfl, hm, hS⟩ := hrel
        by_cases hlt2 : k < N.length
        · have hn0 := hv.n0 _ (nth_mem tz N k hlt2)
          have hx0 : nth 0 (idx of) (nth tz N k).1.toNat < W.length ∧ nth 0 (idx of) (nth tz N k).2.1.toNat < W.length := by
            have h1 := idx_lt hgr (i := (nth tz N k).1.toNat) (by omega)
            have h2 := idx_lt hgr (i := (nth tz N k).2.1.toNat) (by omega)
            have h3 := hds_len_le of
            rw [hgr.len] at h3
            omega
          have hst : nearTo (idx of) N (k + 1) = if nth 0 (idx of) (nth tz N k).1.toNat = nth 0 (idx of) (nth tz N k).2.1.toNat then nearTo (idx of) N k else putL (nearTo (idx of) N k) (key (nth 0 (idx of) (nth tz N k).1.toNat) (nth 0 (idx of) (nth tz N k).2.1.toNat)) ((getL (nearTo (idx of) N k) (key (nth 0 (idx of) (nth tz N k).1.toNat) (nth 0 (idx of) (nth tz N k).2.1.toNat))).getD 0 + (nth tz N k).2.2) := rfl
          have hgl : ∀ x y : Nat, x ≠ y → 0 ≤ (getL (nearTo (idx of) N k) (key x y)).getD 0 ∧ (getL (nearTo (idx of) N k) (key x y)).getD 0 ≤ 18014398509481984 := fun x y hxy => by
            have h1 := (nearTo_get hv (idx of) (i := min x y) (k := max x y) (by omega) k hk2).1
            have h2 := commonTo_bd hv (idx of) (min x y) (max x y) k hk2
            unfold key
            rw [h1]
            omega
          obtain ⟨x, hxe⟩ : ∃ x, nth 0 (idx of) (nth tz N k).1.toNat = x := ⟨_, rfl⟩
          obtain ⟨y, hye⟩ : ∃ y, nth 0 (idx of) (nth tz N k).2.1.toNat = y := ⟨_, rfl⟩
          rw [hxe, hye] at hst hx0
          have HX := Lib.hid hxe
          have HY := Lib.hid hye
          clear hxe hye
          by_cases hxy : x = y
          · rw [if_pos hxy] at hst
            have HST := Lib.hid hst
            have f1 : (((x : Nat) : Int) != (y : Int)) = false := by simp [hxy]
            clear hst hxy hgl
            go_wp2_with (first | ((with_reducible refine g_idx (T := 23) ?_); refine seq_any rfl (any_index_tri (T := 23) Try.underlying23 Try.sizeOf55 rfl rfl (by with_reducible assumption) (by omega) (by omega) (fun _ _ _ => ?_)); simp only [Act.put, List.setIfInBounds_toArray, List.set_cons_succ, List.set_cons_zero, Int.toNat_natCast, Int.toNat_zero, Int.toNat_one, nth_zero, nth_one]) | ((with_reducible refine g_load (T := 55) ?_); refine seq_of hS rfl (stp_loadk (T := 55) Try.isAgg55 Try.sizeOf55 rfl (by with_reducible assumption) (by simp) rfl ?_); simp only [Act.put, List.setIfInBounds_toArray, List.set_cons_succ, List.set_cons_zero, Int.toNat_natCast, Int.toNat_zero, Int.toNat_one, nth_zero, nth_one]) | ((with_reducible refine g_alloc (T := 55) ?_); refine seq_alloc (T := 55) hS Try.zeroValue55 (fun b16 wb16 hS => ?_); simp only [Act.put, List.setIfInBounds_toArray, List.set_cons_succ, List.set_cons_zero, Int.toNat_natCast, Int.toNat_zero, Int.toNat_one, nth_zero, nth_one]; simp only [List.cons_append, List.nil_append, List.set_cons_succ, List.set_cons_zero, Value.cells, iv_snoc, tv_snoc] at hS) | ((with_reducible refine g_store (T := 55) ?_); refine seq_store (T := 55) (u := .agg _) 7 hS rfl rfl rfl Try.sizeOf55 (by simp [Value.cells, Value.oneCell']) (by simp [Value.cells]) (fun _ hS => ?_); simp only [Act.put, List.setIfInBounds_toArray, List.set_cons_succ, List.set_cons_zero, Int.toNat_natCast, Int.toNat_zero, Int.toNat_one, nth_zero, nth_one]; simp only [List.cons_append, List.nil_append, List.set_cons_succ, List.set_cons_zero, Value.cells, iv_snoc, tv_snoc] at hS; simp only [List.take_zero, List.nil_append, List.append_nil, List.drop_succ_cons, List.drop_zero, List.drop_nil, List.take_succ_cons, List.cons_append, List.size_toArray, List.length_cons, List.length_nil, Nat.reduceAdd] at hS))
            refine wp_region_sched [.pure 0, .pure 1, .read 2, .pure 3, .read 4, .pure 5, .pure 6, .read 7, .pure 8, .read 9, .pure 10, .pure 11] [] (fun w' => Heap w w' _) (by kernel_rfl) (by kernel_rfl) hS.drew (fun w1 hS => ?_)
            repeat (first | ((first | ((with_reducible refine m_pure ?_); refine skip_pure rfl rfl ?_) | ((with_reducible refine m_read ?_); refine skip_read rfl rfl ?_)); simp only [Act.put, List.setIfInBounds_toArray, List.set_cons_succ, List.set_cons_zero, Int.toNat_natCast, Int.toNat_zero, Int.toNat_one, nth_zero, nth_one]) | ((with_reducible refine m_read ?_); refine sched_of rfl rfl (stp_load_blk (T := 3) 7 Try.isAgg3 rfl rfl rfl ?_); simp only [Act.put, List.setIfInBounds_toArray, List.set_cons_succ, List.set_cons_zero, Int.toNat_natCast, Int.toNat_zero, Int.toNat_one, nth_zero, nth_one]) | ((with_reducible refine m_pure ?_); refine sched_any rfl rfl (any_index_nat (T := 22) Try.underlying22 Try.sizeOf3 rfl rfl (by with_reducible assumption) (by omega) (by omega) (fun _ _ _ => ?_)); simp only [Act.put, List.setIfInBounds_toArray, List.set_cons_succ, List.set_cons_zero, Int.toNat_natCast, Int.toNat_zero, Int.toNat_one, nth_zero, nth_one]) | (((with_reducible refine m_read ?_); refine sched_of rfl rfl (stp_load (T := 3) Try.isAgg3 rfl (by with_reducible assumption) (by simp) rfl ?_); simp only [Act.put, List.setIfInBounds_toArray, List.set_cons_succ, List.set_cons_zero, Int.toNat_natCast, Int.toNat_zero, Int.toNat_one, nth_zero, nth_one]); first | rw [HX.out] | rw [HY.out]) | ((with_reducible refine m_pure ?_); refine run_pure rfl rfl (fun K hK => ?_); go_simp; refine hK _ ?_; clear hK K))
            refine sched_nil ?_
            simp only [NoPanic]
            go_wp2
            go_roundw
            case rel => exact ⟨k + 1, _, by omega, by go_num, by rw [HST.out]; exact hm, (hS.sub (by repeat (first | exact List.Sublist.refl _ | apply List.Sublist.cons_cons | apply List.Sublist.cons | exact List.nil_sublist _)))⟩
            case measure => simp [intOf]; omega
          · rw [if_neg hxy] at hst
            have hbn := hgl x y hxy
            generalize hu : (getL (nearTo (idx of) N k) (key x y)).getD 0 = u at hst hbn
            have HST := Lib.hid hst
            have HU := Lib.hid hu
            have f1 : (((x : Nat) : Int) != (y : Int)) = true := by simp; omega
            clear hst hxy hgl hu
            go_wp2_with (first | ((with_reducible refine g_idx (T := 23) ?_); refine seq_any rfl (any_index_tri (T := 23) Try.underlying23 Try.sizeOf55 rfl rfl (by with_reducible assumption) (by omega) (by omega) (fun _ _ _ => ?_)); simp only [Act.put, List.setIfInBounds_toArray, List.set_cons_succ, List.set_cons_zero, Int.toNat_natCast, Int.toNat_zero, Int.toNat_one, nth_zero, nth_one]) | ((with_reducible refine g_load (T := 55) ?_); refine seq_of hS rfl (stp_loadk (T := 55) Try.isAgg55 Try.sizeOf55 rfl (by with_reducible assumption) (by simp) rfl ?_); simp only [Act.put, List.setIfInBounds_toArray, List.set_cons_succ, List.set_cons_zero, Int.toNat_natCast, Int.toNat_zero, Int.toNat_one, nth_zero, nth_one]) | ((with_reducible refine g_alloc (T := 55) ?_); refine seq_alloc (T := 55) hS Try.zeroValue55 (fun b16 wb16 hS => ?_); simp only [Act.put, List.setIfInBounds_toArray, List.set_cons_succ, List.set_cons_zero, Int.toNat_natCast, Int.toNat_zero, Int.toNat_one, nth_zero, nth_one]; simp only [List.cons_append, List.nil_append, List.set_cons_succ, List.set_cons_zero, Value.cells, iv_snoc, tv_snoc] at hS) | ((with_reducible refine g_store (T := 55) ?_); refine seq_store (T := 55) (u := .agg _) 7 hS rfl rfl rfl Try.sizeOf55 (by simp [Value.cells, Value.oneCell']) (by simp [Value.cells]) (fun _ hS => ?_); simp only [Act.put, List.setIfInBounds_toArray, List.set_cons_succ, List.set_cons_zero, Int.toNat_natCast, Int.toNat_zero, Int.toNat_one, nth_zero, nth_one]; simp only [List.cons_append, List.nil_append, List.set_cons_succ, List.set_cons_zero, Value.cells, iv_snoc, tv_snoc] at hS; simp only [List.take_zero, List.nil_append, List.append_nil, List.drop_succ_cons, List.drop_zero, List.drop_nil, List.take_succ_cons, List.cons_append, List.size_toArray, List.length_cons, List.length_nil, Nat.reduceAdd] at hS))
            refine wp_region_sched [.pure 0, .pure 1, .read 2, .pure 3, .read 4, .pure 5, .pure 6, .read 7, .pure 8, .read 9, .pure 10, .pure 11] [] (fun w' => Heap w w' _) (by kernel_rfl) (by kernel_rfl) hS.drew (fun w1 hS => ?_)
            repeat (first | ((first | ((with_reducible refine m_pure ?_); refine skip_pure rfl rfl ?_) | ((with_reducible refine m_read ?_); refine skip_read rfl rfl ?_)); simp only [Act.put, List.setIfInBounds_toArray, List.set_cons_succ, List.set_cons_zero, Int.toNat_natCast, Int.toNat_zero, Int.toNat_one, nth_zero, nth_one]) | ((with_reducible refine m_read ?_); refine sched_of rfl rfl (stp_load_blk (T := 3) 7 Try.isAgg3 rfl rfl rfl ?_); simp only [Act.put, List.setIfInBounds_toArray, List.set_cons_succ, List.set_cons_zero, Int.toNat_natCast, Int.toNat_zero, Int.toNat_one, nth_zero, nth_one]) | ((with_reducible refine m_pure ?_); refine sched_any rfl rfl (any_index_nat (T := 22) Try.underlying22 Try.sizeOf3 rfl rfl (by with_reducible assumption) (by omega) (by omega) (fun _ _ _ => ?_)); simp only [Act.put, List.setIfInBounds_toArray, List.set_cons_succ, List.set_cons_zero, Int.toNat_natCast, Int.toNat_zero, Int.toNat_one, nth_zero, nth_one]) | (((with_reducible refine m_read ?_); refine sched_of rfl rfl (stp_load (T := 3) Try.isAgg3 rfl (by with_reducible assumption) (by simp) rfl ?_); simp only [Act.put, List.setIfInBounds_toArray, List.set_cons_succ, List.set_cons_zero, Int.toNat_natCast, Int.toNat_zero, Int.toNat_one, nth_zero, nth_one]); first | rw [HX.out] | rw [HY.out]) | ((with_reducible refine m_pure ?_); refine run_pure rfl rfl (fun K hK => ?_); go_simp; refine hK _ ?_; clear hK K))
            refine sched_nil ?_
            simp only [NoPanic]
            go_wp2
            generalize (nth tz N k).1 = e0 at *
            generalize (nth tz N k).2.1 = e1 at *
            generalize (nth tz N k).2.2 = e2 at *
            obtain ⟨C, hC⟩ : ∃ C : World → Prop, ∀ w', C w' ↔ ∃ l2 o2, (getL l2 (key x y)).getD 0 = u ∧ MapIs pk ik o2 l2 ∧ Heap w w' [.frz (Old w) w, .row (.slice a1 K c1) 3 1 K (iv (qW W of)), .row (.slice none 0 0) 55 3 0 [], .blk b3 (.cells #[.slice aw W.length cw, .slice an N.length cn] 34 (0, 0)), .blk b6 (.cells #[.slice none 0 0, .slice none 0 0] 34 (0, 0)), .blk b11 (.cells #[.slice a1 K c1, .slice none 0 0] 34 (0, 0)), .blk bm o2, .blk b16 (.cells #[.int .i64 e0, .int .i64 e1, .int .i64 e2] 55 (0, 0))] := ⟨_, fun _ => Iff.rfl⟩
            have HB : ∀ w', C w' → w'.heap[b16]? = some (.cells #[.int .i64 e0, .int .i64 e1, .int .i64 e2] 55 (0, 0)) := fun w' h => by obtain ⟨l2, o2, _, _, hS⟩ := (hC w').1 h; exact hS.blk (by simp)
            have HLk : ∀ w', C w' → ∃ o l, w'.heap[bm]? = some o ∧ MapIs pk ik o l ∧ (getL l (key x y)).getD 0 = u := fun w' h => by obtain ⟨l2, o2, h1, h2, hS⟩ := (hC w').1 h; exact ⟨o2, l2, hS.blk (by simp), h2, h1⟩
            refine wp_region_sched0 [.pure 0, .pure 1, .pure 2, .pure 3, .pure 4, .pure 5, .pure 6, .pure 7, .read 8, .pure 9, .read 10, .pure 11, .ext 12, .pure 13, .mutt 14] [14] C (by kernel_rfl) (by kernel_rfl) ((hC _).2 ⟨_, _, HU.out, hm, hS.drew⟩) ?_
            have hS := hS.drew
            repeat (first | ((first | ((with_reducible refine m_pure ?_); refine skip_pure rfl rfl ?_) | ((with_reducible refine m_read ?_); refine skip_read rfl rfl ?_)); simp only [Act.put, List.setIfInBounds_toArray, List.set_cons_succ, List.set_cons_zero, Int.toNat_natCast, Int.toNat_zero, Int.toNat_one, nth_zero, nth_one]) | ((with_reducible refine m_read ?_); refine sched_loadC (T := 3) rfl rfl Try.isAgg3 rfl HB rfl ?_; simp only [Act.put, List.setIfInBounds_toArray, List.set_cons_succ, List.set_cons_zero, Int.toNat_natCast, Int.toNat_zero, Int.toNat_one, nth_zero, nth_one]) | ((with_reducible refine m_read ?_); refine sched_lookupC (ev := ik) (k := key x y) (z := (0 : Int)) rfl rfl Try.underlying100 Try.zeroValue3 keyArr rfl (pk_key x y).symm HLk ?_; simp only [Act.put, List.setIfInBounds_toArray, List.set_cons_succ, List.set_cons_zero, Int.toNat_natCast, Int.toNat_zero, Int.toNat_one, nth_zero, nth_one]; simp only [ik]) | ((with_reducible refine m_pure ?_); refine run_pure rfl rfl (fun K hK => ?_); go_simp; refine hK _ ?_; clear hK K))
            simp only [show IntKind.i64.wrap (u + e2) = u + e2 by rw [IntKind.wrap_i64]; omega]
            refine ext_at rfl ?_
            ((with_reducible refine g_me (T := 100) ?_); refine seq_mapEntry (ev := ik) (k := key x y) (z := (0 : Int)) 6 hS Try.underlying100 Try.zeroValue3 keyArr rfl (pk_key x y).symm rfl (by with_reducible assumption) rfl (fun oe we st hme hst hS => ?_); simp only [Act.put, List.setIfInBounds_toArray, List.set_cons_succ, List.set_cons_zero, Int.toNat_natCast, Int.toNat_zero, Int.toNat_one, nth_zero, nth_one]; simp only [List.cons_append, List.nil_append, List.set_cons_succ, List.set_cons_zero, Value.cells, iv_snoc, tv_snoc] at hS; simp only [ik])
            refine ext_end ((hC _).2 ⟨_, _, by rw [getL_putL, if_pos rfl]; exact HU.out, hme, hS⟩) ?_
            repeat (first | ((first | ((with_reducible refine m_pure ?_); refine skip_pure rfl rfl ?_) | ((with_reducible refine m_read ?_); refine skip_read rfl rfl ?_)); simp only [Act.put, List.setIfInBounds_toArray, List.set_cons_succ, List.set_cons_zero, Int.toNat_natCast, Int.toNat_zero, Int.toNat_one, nth_zero, nth_one]) | fail | ((with_reducible refine m_pure ?_); refine run_pure rfl rfl (fun K hK => ?_); go_simp; refine hK _ ?_; clear hK K))
            refine mut_at rfl ?_
            ((with_reducible refine g_es (T := 100) ?_); refine seq_entryStore (ev := ik) (v := u + e2) 6 hS pk_inj rfl rfl rfl rfl (by with_reducible assumption) (by with_reducible assumption) rfl (fun ou wu hmu hS => ?_); simp only [Act.put, List.setIfInBounds_toArray, List.set_cons_succ, List.set_cons_zero, Int.toNat_natCast, Int.toNat_zero, Int.toNat_one, nth_zero, nth_one]; simp only [List.cons_append, List.nil_append, List.set_cons_succ, List.set_cons_zero, Value.cells, iv_snoc, tv_snoc] at hS)
            refine mut_end ?_
            refine sched_nil ?_
            simp only [NoPanic]
            go_wp2
            go_roundw
            case rel => exact ⟨k + 1, _, by omega, by go_num, by rw [HST.out]; assumption, (hS.sub (by repeat (first | exact List.Sublist.refl _ | apply List.Sublist.cons_cons | apply List.Sublist.cons | exact List.nil_sublist _)))⟩
            case measure => simp [intOf]; omega
        · obtain rfl : k = N.length := by omega
          have hvals := nearTo_vals hv hgr
          have hnl := nearTo_len (idx of) N N.length
          generalize hlle : nearTo (idx of) N N.length = ll at hm hvals hnl
          have HLL := Lib.hid hlle
          clear hlle
          have hll : ll.length ≤ 16384 := by omega
          clear hnl
          go_wp2_with (first | ((with_reducible refine g_rng (T := 100) ?_); refine seq_range 6 hS Try.underlying100 rfl rfl (by with_reducible assumption) rfl (fun bi obi wbi hit hS => ?_); simp only [Act.put, List.setIfInBounds_toArray, List.set_cons_succ, List.set_cons_zero, Int.toNat_natCast, Int.toNat_zero, Int.toNat_one, nth_zero, nth_one]; simp only [List.cons_append, List.nil_append, List.set_cons_succ, List.set_cons_zero, Value.cells, iv_snoc, tv_snoc] at hS))
          go_loopw [118] (fun _ wr => ∃ (d : LL) (oi : Obj) (a3 : Option Addr) (c3 : Nat), ItIs pk ik bm om oi ll d ∧ Heap w wr [.frz (Old w) w, .row (.slice a1 K c1) 3 1 K (iv (qW W of)), .row (.slice a3 d.length c3) 55 3 d.length (tv (d.map triOf)), .blk b3 (.cells #[.slice aw W.length cw, .slice an N.length cn] 34 (0, 0)), .blk b6 (.cells #[.slice none 0 0, .slice none 0 0] 34 (0, 0)), .blk b11 (.cells #[.slice a1 K c1, .slice a3 d.length c3] 34 (0, 0)), .blk bm om, .blk bi oi]) (fun _ wr => ll.length - itSize wr bi)
          case atStart => exact ⟨[], _, none, 0, hit, hS⟩
          case round =>
            clear hS hit
            obtain ⟨d, oi, a3, cp3, hit, hS⟩ := hrel
            have hsz := itSize_eq hit (hS.blk (b := bi) (o := oi) (by simp))
            have hdl := itLen hit
            repeat ((fail_if_success ((with_reducible refine g_nxt ?_))); go_step)
            ((with_reducible refine g_nxt ?_); refine seq_next 6 7 hS rfl rfl rfl (by with_reducible assumption) rfl (fun hover => ?_) (fun kk vv oi' w' hkl hkd hit' hS => ?_) <;> (simp only [Act.put, List.setIfInBounds_toArray, List.set_cons_succ, List.set_cons_zero, Int.toNat_natCast, Int.toNat_zero, Int.toNat_one, nth_zero, nth_one]; try simp only [List.cons_append, List.nil_append, List.set_cons_succ, List.set_cons_zero, Value.cells, iv_snoc, tv_snoc] at hS))
            · have hsrt := srt3_near hv hgr (d := d) (by rw [HLL.out]; exact hover)
              have hqn := qN_in hv hgr
              have hqw := qW_in hv hgr
              have hql : (qN N of).length = d.length := by rw [← hsrt, srt3_len, List.length_map]
              have hwl : (qW W of).length = K := by rw [← HKE.out]; simp [qW]
              have hov : qOver W N of = ((qN N of).any over3 || (qW W of).any over1) := rfl
              have HSRT := Lib.hid hsrt
              have HQL := Lib.hid hql
              have HWL := Lib.hid hwl
              have HOV := Lib.hid hov
              clear hsrt hql hwl hov
              cases hb : (qN N of).any over3 with
              | true =>
                have HB := Lib.hid hb
                clear hb
                go_wp2_with (first | ((with_reducible refine g_load (T := 23) ?_); refine seq_of hS rfl (stp_load_blk (T := 23) 5 Try.isAgg23 rfl rfl rfl ?_); simp only [Act.put, List.setIfInBounds_toArray, List.set_cons_succ, List.set_cons_zero, Int.toNat_natCast, Int.toNat_zero, Int.toNat_one, nth_zero, nth_one]) | (go_at_call 56; refine (sort3_row 2 hS rfl (by omega)).mono ?_; go_loud (rintro e w' ⟨rfl, hS⟩; rw [HSRT.out] at hS; simp only [List.cons_append, List.nil_append, List.set_cons_succ, List.set_cons_zero, Value.cells, iv_snoc, tv_snoc] at hS)) | (go_at_call 59; refine (containso_any _ _ _ _ _ (hS.rowTris 2 rfl hqn)).mono ?_; rintro e w' ⟨rfl, hB⟩; have hS := hS.below hB; rw [HB.out]) | ((with_reducible refine g_load (T := 22) ?_); refine seq_of hS rfl (stp_load_blk (T := 22) 5 Try.isAgg22 rfl rfl rfl ?_); simp only [Act.put, List.setIfInBounds_toArray, List.set_cons_succ, List.set_cons_zero, Int.toNat_natCast, Int.toNat_zero, Int.toNat_one, nth_zero, nth_one]) | ((with_reducible refine g_load (T := 34) ?_); refine seq_of hS rfl (stp_load_all (T := 34) 5 Try.isAgg34 Try.sizeOf34 rfl rfl rfl ?_); simp only [Act.put, List.setIfInBounds_toArray, List.set_cons_succ, List.set_cons_zero, Int.toNat_natCast, Int.toNat_zero, Int.toNat_one, nth_zero, nth_one]) | ((with_reducible refine g_store (T := 34) ?_); refine seq_store (T := 34) (u := .agg #[.slice _ _ _, .slice _ _ _]) 4 hS rfl rfl rfl Try.sizeOf34 (by simp [Value.cells, Value.oneCell']) (by simp [Value.cells]) (fun _ hS => ?_); simp only [Act.put, List.setIfInBounds_toArray, List.set_cons_succ, List.set_cons_zero, Int.toNat_natCast, Int.toNat_zero, Int.toNat_one, nth_zero, nth_one]; simp only [List.cons_append, List.nil_append, List.set_cons_succ, List.set_cons_zero, Value.cells, iv_snoc, tv_snoc] at hS; simp only [List.take_zero, List.nil_append, List.append_nil, List.drop_succ_cons, List.drop_zero, List.drop_nil, List.take_succ_cons, List.cons_append, List.size_toArray, List.length_cons, List.length_nil, Nat.reduceAdd] at hS))
                refine ret_cell_tmp 4 hS rfl rfl rfl Try.isAgg34 Try.sizeOf34 rfl rfl ⟨hS.toBelow (by simp), .inl ⟨by rw [HOV.out, HB.out]; rfl, rfl⟩⟩
              | false =>
                have HB := Lib.hid hb
                clear hb
                rcases Nat.eq_zero_or_pos K with hK0 | hK0
                · subst hK0
                  have hqe : qW W of = [] := List.eq_nil_of_length_eq_zero HWL.out
                  have HQE := Lib.hid hqe
                  clear hqe
                  go_wp2_with (first | ((with_reducible refine g_load (T := 23) ?_); refine seq_of hS rfl (stp_load_blk (T := 23) 5 Try.isAgg23 rfl rfl rfl ?_); simp only [Act.put, List.setIfInBounds_toArray, List.set_cons_succ, List.set_cons_zero, Int.toNat_natCast, Int.toNat_zero, Int.toNat_one, nth_zero, nth_one]) | (go_at_call 56; refine (sort3_row 2 hS rfl (by omega)).mono ?_; go_loud (rintro e w' ⟨rfl, hS⟩; rw [HSRT.out] at hS; simp only [List.cons_append, List.nil_append, List.set_cons_succ, List.set_cons_zero, Value.cells, iv_snoc, tv_snoc] at hS)) | (go_at_call 59; refine (containso_any _ _ _ _ _ (hS.rowTris 2 rfl hqn)).mono ?_; rintro e w' ⟨rfl, hB⟩; have hS := hS.below hB; rw [HB.out]) | ((with_reducible refine g_load (T := 22) ?_); refine seq_of hS rfl (stp_load_blk (T := 22) 5 Try.isAgg22 rfl rfl rfl ?_); simp only [Act.put, List.setIfInBounds_toArray, List.set_cons_succ, List.set_cons_zero, Int.toNat_natCast, Int.toNat_zero, Int.toNat_one, nth_zero, nth_one]) | ((with_reducible refine g_load (T := 34) ?_); refine seq_of hS rfl (stp_load_all (T := 34) 5 Try.isAgg34 Try.sizeOf34 rfl rfl rfl ?_); simp only [Act.put, List.setIfInBounds_toArray, List.set_cons_succ, List.set_cons_zero, Int.toNat_natCast, Int.toNat_zero, Int.toNat_one, nth_zero, nth_one]) | ((with_reducible refine g_store (T := 34) ?_); refine seq_store (T := 34) (u := .agg #[.slice _ _ _, .slice _ _ _]) 4 hS rfl rfl rfl Try.sizeOf34 (by simp [Value.cells, Value.oneCell']) (by simp [Value.cells]) (fun _ hS => ?_); simp only [Act.put, List.setIfInBounds_toArray, List.set_cons_succ, List.set_cons_zero, Int.toNat_natCast, Int.toNat_zero, Int.toNat_one, nth_zero, nth_one]; simp only [List.cons_append, List.nil_append, List.set_cons_succ, List.set_cons_zero, Value.cells, iv_snoc, tv_snoc] at hS; simp only [List.take_zero, List.nil_append, List.append_nil, List.drop_succ_cons, List.drop_zero, List.drop_nil, List.take_succ_cons, List.cons_append, List.size_toArray, List.length_cons, List.length_nil, Nat.reduceAdd] at hS))
                  refine ret_cell_tmp 4 hS rfl rfl rfl Try.isAgg34 Try.sizeOf34 rfl rfl ⟨hS.toBelow (by simp), .inr ⟨by rw [HOV.out, HB.out, HQE.out]; rfl, _, rfl, ?_⟩⟩
                  exact ⟨a1, c1, a3, cp3, by rw [HWL.out, HQL.out], by rw [HWL.out]; exact hS.resultInts 0 rfl hqw, by rw [HQL.out]; exact hS.resultTris 1 rfl hqn⟩
                · cases hb2 : (qW W of).any over1 with
                  | true =>
                    have HB2 := Lib.hid hb2
                    clear hb2
                    go_wp2_with (first | ((with_reducible refine g_load (T := 23) ?_); refine seq_of hS rfl (stp_load_blk (T := 23) 5 Try.isAgg23 rfl rfl rfl ?_); simp only [Act.put, List.setIfInBounds_toArray, List.set_cons_succ, List.set_cons_zero, Int.toNat_natCast, Int.toNat_zero, Int.toNat_one, nth_zero, nth_one]) | (go_at_call 56; refine (sort3_row 2 hS rfl (by omega)).mono ?_; go_loud (rintro e w' ⟨rfl, hS⟩; rw [HSRT.out] at hS; simp only [List.cons_append, List.nil_append, List.set_cons_succ, List.set_cons_zero, Value.cells, iv_snoc, tv_snoc] at hS)) | (go_at_call 59; refine (containso_any _ _ _ _ _ (hS.rowTris 2 rfl hqn)).mono ?_; rintro e w' ⟨rfl, hB⟩; have hS := hS.below hB; rw [HB.out]) | ((with_reducible refine g_load (T := 22) ?_); refine seq_of hS rfl (stp_load_blk (T := 22) 5 Try.isAgg22 rfl rfl rfl ?_); simp only [Act.put, List.setIfInBounds_toArray, List.set_cons_succ, List.set_cons_zero, Int.toNat_natCast, Int.toNat_zero, Int.toNat_one, nth_zero, nth_one]) | (go_at_call 60; refine (max_any _ _ _ _ _ (hS.rowInts 1 rfl hqw) (by omega)).mono ?_; rintro e w' ⟨⟨r, rfl, hr⟩, hB⟩; have hS := hS.below hB; have hr2 := hr.trans HB2.out; unfold over1 at hr2; clear hr) | ((with_reducible refine g_load (T := 34) ?_); refine seq_of hS rfl (stp_load_all (T := 34) 5 Try.isAgg34 Try.sizeOf34 rfl rfl rfl ?_); simp only [Act.put, List.setIfInBounds_toArray, List.set_cons_succ, List.set_cons_zero, Int.toNat_natCast, Int.toNat_zero, Int.toNat_one, nth_zero, nth_one]) | ((with_reducible refine g_store (T := 34) ?_); refine seq_store (T := 34) (u := .agg #[.slice _ _ _, .slice _ _ _]) 4 hS rfl rfl rfl Try.sizeOf34 (by simp [Value.cells, Value.oneCell']) (by simp [Value.cells]) (fun _ hS => ?_); simp only [Act.put, List.setIfInBounds_toArray, List.set_cons_succ, List.set_cons_zero, Int.toNat_natCast, Int.toNat_zero, Int.toNat_one, nth_zero, nth_one]; simp only [List.cons_append, List.nil_append, List.set_cons_succ, List.set_cons_zero, Value.cells, iv_snoc, tv_snoc] at hS; simp only [List.take_zero, List.nil_append, List.append_nil, List.drop_succ_cons, List.drop_zero, List.drop_nil, List.take_succ_cons, List.cons_append, List.size_toArray, List.length_cons, List.length_nil, Nat.reduceAdd] at hS))
                    refine ret_cell_tmp 4 hS rfl rfl rfl Try.isAgg34 Try.sizeOf34 rfl rfl ⟨hS.toBelow (by simp), .inl ⟨by rw [HOV.out, HB.out, HB2.out]; rfl, rfl⟩⟩
                  | false =>
                    have HB2 := Lib.hid hb2
                    clear hb2
                    go_wp2_with (first | ((with_reducible refine g_load (T := 23) ?_); refine seq_of hS rfl (stp_load_blk (T := 23) 5 Try.isAgg23 rfl rfl rfl ?_); simp only [Act.put, List.setIfInBounds_toArray, List.set_cons_succ, List.set_cons_zero, Int.toNat_natCast, Int.toNat_zero, Int.toNat_one, nth_zero, nth_one]) | (go_at_call 56; refine (sort3_row 2 hS rfl (by omega)).mono ?_; go_loud (rintro e w' ⟨rfl, hS⟩; rw [HSRT.out] at hS; simp only [List.cons_append, List.nil_append, List.set_cons_succ, List.set_cons_zero, Value.cells, iv_snoc, tv_snoc] at hS)) | (go_at_call 59; refine (containso_any _ _ _ _ _ (hS.rowTris 2 rfl hqn)).mono ?_; rintro e w' ⟨rfl, hB⟩; have hS := hS.below hB; rw [HB.out]) | ((with_reducible refine g_load (T := 22) ?_); refine seq_of hS rfl (stp_load_blk (T := 22) 5 Try.isAgg22 rfl rfl rfl ?_); simp only [Act.put, List.setIfInBounds_toArray, List.set_cons_succ, List.set_cons_zero, Int.toNat_natCast, Int.toNat_zero, Int.toNat_one, nth_zero, nth_one]) | (go_at_call 60; refine (max_any _ _ _ _ _ (hS.rowInts 1 rfl hqw) (by omega)).mono ?_; rintro e w' ⟨⟨r, rfl, hr⟩, hB⟩; have hS := hS.below hB; have hr2 := hr.trans HB2.out; unfold over1 at hr2; clear hr) | ((with_reducible refine g_load (T := 34) ?_); refine seq_of hS rfl (stp_load_all (T := 34) 5 Try.isAgg34 Try.sizeOf34 rfl rfl rfl ?_); simp only [Act.put, List.setIfInBounds_toArray, List.set_cons_succ, List.set_cons_zero, Int.toNat_natCast, Int.toNat_zero, Int.toNat_one, nth_zero, nth_one]) | ((with_reducible refine g_store (T := 34) ?_); refine seq_store (T := 34) (u := .agg #[.slice _ _ _, .slice _ _ _]) 4 hS rfl rfl rfl Try.sizeOf34 (by simp [Value.cells, Value.oneCell']) (by simp [Value.cells]) (fun _ hS => ?_); simp only [Act.put, List.setIfInBounds_toArray, List.set_cons_succ, List.set_cons_zero, Int.toNat_natCast, Int.toNat_zero, Int.toNat_one, nth_zero, nth_one]; simp only [List.cons_append, List.nil_append, List.set_cons_succ, List.set_cons_zero, Value.cells, iv_snoc, tv_snoc] at hS; simp only [List.take_zero, List.nil_append, List.append_nil, List.drop_succ_cons, List.drop_zero, List.drop_nil, List.take_succ_cons, List.cons_append, List.size_toArray, List.length_cons, List.length_nil, Nat.reduceAdd] at hS))
                    refine ret_cell_tmp 4 hS rfl rfl rfl Try.isAgg34 Try.sizeOf34 rfl rfl ⟨hS.toBelow (by simp), .inr ⟨by rw [HOV.out, HB.out, HB2.out]; rfl, _, rfl, ?_⟩⟩
                    exact ⟨a1, c1, a3, cp3, by rw [HWL.out, HQL.out], by rw [HWL.out]; exact hS.resultInts 0 rfl hqw, by rw [HQL.out]; exact hS.resultTris 1 rfl hqn⟩
            · have hkv := hvals _ hkl
              have hdl' := itLen hit'
              simp only [List.length_append, List.length_cons, List.length_nil] at hdl'
              simp only at hkv
              have ht := tv_snoc (d.map triOf) (triOf (kk, vv))
              simp only [triOf] at ht
              have HT := Lib.hid ht
              clear ht
              go_wp2_with (first | ((with_reducible refine g_ent ?_); refine seq_of hS rfl (stp_entry 6 7 rfl rfl rfl (by with_reducible assumption) ?_); simp only [Act.put, List.setIfInBounds_toArray, List.set_cons_succ, List.set_cons_zero, Int.toNat_natCast, Int.toNat_zero, Int.toNat_one, nth_zero, nth_one]; simp only [pk, ik]) | ((with_reducible refine g_alloc (T := 57) ?_); refine seq_alloc (T := 57) hS Try.zeroValue57 (fun b19 wb19 hS => ?_); simp only [Act.put, List.setIfInBounds_toArray, List.set_cons_succ, List.set_cons_zero, Int.toNat_natCast, Int.toNat_zero, Int.toNat_one, nth_zero, nth_one]; simp only [List.cons_append, List.nil_append, List.set_cons_succ, List.set_cons_zero, Value.cells, iv_snoc, tv_snoc] at hS) | ((with_reducible refine g_store (T := 57) ?_); refine seq_store (T := 57) (u := .agg _) 8 hS rfl rfl rfl Try.sizeOf57 (by simp [Value.cells, Value.oneCell']) (by simp [Value.cells]) (fun _ hS => ?_); simp only [Act.put, List.setIfInBounds_toArray, List.set_cons_succ, List.set_cons_zero, Int.toNat_natCast, Int.toNat_zero, Int.toNat_one, nth_zero, nth_one]; simp only [List.cons_append, List.nil_append, List.set_cons_succ, List.set_cons_zero, Value.cells, iv_snoc, tv_snoc] at hS; simp only [List.take_zero, List.nil_append, List.append_nil, List.drop_succ_cons, List.drop_zero, List.drop_nil, List.take_succ_cons, List.cons_append, List.size_toArray, List.length_cons, List.length_nil, Nat.reduceAdd] at hS) | ((with_reducible refine g_load (T := 23) ?_); refine seq_of hS rfl (stp_load_blk (T := 23) 5 Try.isAgg23 rfl rfl rfl ?_); simp only [Act.put, List.setIfInBounds_toArray, List.set_cons_succ, List.set_cons_zero, Int.toNat_natCast, Int.toNat_zero, Int.toNat_one, nth_zero, nth_one]) | ((with_reducible refine g_load (T := 3) ?_); refine seq_of hS rfl (stp_load_blk (T := 3) 8 Try.isAgg3 rfl rfl rfl ?_); simp only [Act.put, List.setIfInBounds_toArray, List.set_cons_succ, List.set_cons_zero, Int.toNat_natCast, Int.toNat_zero, Int.toNat_one, nth_zero, nth_one]) | ((with_reducible refine g_bs (T := 23) ?_); refine seq_bs1 (T := 23) (v := .agg _) hS Try.underlying23 Try.sizeOf55 Try.zeroValue55 rfl rfl rfl (by decide) (by decide) rfl (fun _ _ hS => ?_); simp only [Act.put, List.setIfInBounds_toArray, List.set_cons_succ, List.set_cons_zero, Int.toNat_natCast, Int.toNat_zero, Int.toNat_one, nth_zero, nth_one]; simp only [Value.cells] at hS) | ((with_reducible refine g_app ?_); refine seq_append_lit (t := 23) 2 hS Try.underlying23 Try.info55 rfl (by decide) rfl rfl rfl rfl (by simp [Value.oneCell']) (by omega) (by unfold maxLen; omega) (fun a4 c4 _ hS => ?_); simp only [Act.put, List.setIfInBounds_toArray, List.set_cons_succ, List.set_cons_zero, Int.toNat_natCast, Int.toNat_zero, Int.toNat_one, nth_zero, nth_one]; simp only [List.cons_append, List.nil_append, List.set_cons_succ, List.set_cons_zero, Value.cells, iv_snoc, tv_snoc] at hS) | ((with_reducible refine g_store (T := 23) ?_); refine seq_store (T := 23) (u := .slice _ _ _) 5 hS rfl rfl rfl Try.sizeOf23 (by simp [Value.cells, Value.oneCell']) (by simp [Value.cells]) (fun _ hS => ?_); simp only [Act.put, List.setIfInBounds_toArray, List.set_cons_succ, List.set_cons_zero, Int.toNat_natCast, Int.toNat_zero, Int.toNat_one, nth_zero, nth_one]; simp only [List.cons_append, List.nil_append, List.set_cons_succ, List.set_cons_zero, Value.cells, iv_snoc, tv_snoc] at hS; simp only [List.take_zero, List.nil_append, List.append_nil, List.drop_succ_cons, List.drop_zero, List.drop_nil, List.take_succ_cons, List.cons_append, List.size_toArray, List.length_cons, List.length_nil, Nat.reduceAdd] at hS))
              go_roundw
              case rel =>
                rw [HT.out] at hS
                refine ⟨d ++ [(kk, vv)], oi', a4, c4, hit', ?_⟩
                simp only [List.map_append, List.map_cons, List.map_nil, List.length_append, List.length_cons, List.length_nil, Nat.zero_add, triOf]
                exact (hS.sub (by repeat (first | exact List.Sublist.refl _ | apply List.Sublist.cons_cons | apply List.Sublist.cons | exact List.nil_sublist _)))
              case measure =>
                have hsz' := itSize_eq hit' (hS.blk (b := bi) (o := oi') (by simp))
                simp only [List.length_append, List.length_cons, List.length_nil] at hsz'
                simp only [hsz, hsz']
                omega
end Go.Proofs.Ytdibpfbibgicaaa
