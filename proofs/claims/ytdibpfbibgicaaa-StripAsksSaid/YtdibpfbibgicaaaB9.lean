/- B9: real, meresmanref24.Across. -/
import Derived.Test.YtdibpfbibgicaaaB8
set_option linter.unusedVariables false
set_option linter.unusedSimpArgs false
namespace Go.Proofs.Ytdibpfbibgicaaa
open Go.RowKit Go.Hp

theorem isv_snoc (l : List IS) (s : IS) : isv l ++ [.int .i64 s.face, .int .i64 s.a, .int .i64 s.b, .int .i64 s.into] = isv (l ++ [s]) := by simp [isv, isA]

set_option maxHeartbeats 4000000 in
set_option maxRecDepth 100000 in
theorem real_any (al : Option Addr) (cl : Nat) (L : List IS) (w : World) (hL : SlC w (Old w) 4 (.slice al L.length cl) L.length (isv L)) (hlen : L.length ≤ 1000000) :
    Calls Try.prog 29 #[.slice al L.length cl] w fun e w' => ∃ a c, e = .returned (.slice a L.length c) ∧ Below w.heap.size w w' ∧ SlC w' (New w w') 4 (.slice a L.length c) L.length (isv L) := by
  have hS := (Heap.start w).addNil 74 4
  go_enter Try.func29, Try.ntmps29
  go_wp2
  go_loopw [3, 4] (fun out i wr => ∃ (k : Nat) (a : Option Addr) (c : Nat), k ≤ L.length ∧ i = .int .i64 k ∧ out = .slice a k c ∧ Heap w wr [.frz (Old w) w, .row (.slice a k c) 74 4 k (isv (L.take k))]) (fun _ i _ => L.length - (intOf i).toNat)
  case atStart => exact ⟨0, none, 0, by omega, rfl, rfl, hS⟩
  case round =>
    clear hS
    obtain ⟨k, a, c, hk, rfl, rfl, hS⟩ := hrel
    by_cases hlt : k < L.length
    · obtain ⟨⟨sf, sa, sb, si⟩, hls⟩ : ∃ s, L[k] = s := ⟨_, rfl⟩
      have HS : Hid (nth is0 L ((k : Nat) : Int).toNat = ⟨sf, sa, sb, si⟩) := by
        unfold Hid
        rw [Int.toNat_natCast, nth_eq is0 _ _ hlt, hls]
      have htk : isv (L.take (k + 1)) = isv (L.take k) ++ [.int .i64 sf, .int .i64 sa, .int .i64 sb, .int .i64 si] := by
        rw [List.take_succ_eq_append_getElem hlt, hls]
        exact (isv_snoc _ ⟨sf, sa, sb, si⟩).symm
      have HTK := Lib.hid htk
      clear hls htk
      go_wp2_with (fail)
      refine wp_region_sched [.pure 0, .pure 1, .pure 2, .pure 3, .pure 4, .read 5, .pure 6, .pure 7, .pure 8, .pure 9, .read 10, .pure 11, .pure 12, .pure 13, .pure 14, .read 15, .pure 16, .pure 17, .pure 18, .pure 19, .read 20, .pure 21, .ext 22, .mutt 23, .pure 24] [23] (fun w' => Heap w w' _) (by kernel_rfl) (by as_aux_lemma => kernel_rfl) hS.drew (fun w1 hS => ?_)
      repeat (first | ((first | ((with_reducible refine m_pure ?_); refine skip_pure rfl rfl ?_) | ((with_reducible refine m_read ?_); refine skip_read rfl rfl ?_)); simp only [Act.put, List.setIfInBounds_toArray, List.set_cons_succ, List.set_cons_zero, Int.toNat_natCast, Int.toNat_zero, Int.toNat_one, nth_zero, nth_one]) | ((with_reducible refine m_pure ?_); refine sched_any rfl rfl (any_index_is (T := 39) HS Try.underlying39 Try.sizeOf87 rfl rfl (by with_reducible assumption) (by omega) (by omega) (fun _ _ _ => ?_)); simp only [Act.put, List.setIfInBounds_toArray, List.set_cons_succ, List.set_cons_zero, Int.toNat_natCast, Int.toNat_zero, Int.toNat_one, nth_zero, nth_one]) | ((with_reducible refine m_read ?_); refine sched_of rfl rfl (stp_load (T := 3) Try.isAgg3 rfl (by with_reducible assumption) (by simp) rfl ?_); simp only [Act.put, List.setIfInBounds_toArray, List.set_cons_succ, List.set_cons_zero, Int.toNat_natCast, Int.toNat_zero, Int.toNat_one, nth_zero, nth_one]) | ((with_reducible refine m_read ?_); refine sched_of rfl rfl (stp_loadj (T := 3) 1 Try.isAgg3 rfl (by with_reducible assumption) (by simp) rfl ?_); simp only [Act.put, List.setIfInBounds_toArray, List.set_cons_succ, List.set_cons_zero, Int.toNat_natCast, Int.toNat_zero, Int.toNat_one, nth_zero, nth_one]) | ((with_reducible refine m_read ?_); refine sched_of rfl rfl (stp_loadj (T := 3) 2 Try.isAgg3 rfl (by with_reducible assumption) (by simp) rfl ?_); simp only [Act.put, List.setIfInBounds_toArray, List.set_cons_succ, List.set_cons_zero, Int.toNat_natCast, Int.toNat_zero, Int.toNat_one, nth_zero, nth_one]) | ((with_reducible refine m_read ?_); refine sched_of rfl rfl (stp_loadj (T := 3) 3 Try.isAgg3 rfl (by with_reducible assumption) (by simp) rfl ?_); simp only [Act.put, List.setIfInBounds_toArray, List.set_cons_succ, List.set_cons_zero, Int.toNat_natCast, Int.toNat_zero, Int.toNat_one, nth_zero, nth_one]) | ((with_reducible refine m_pure ?_); refine run_pure rfl rfl (fun K hK => ?_); go_simp; refine hK _ ?_; clear hK K))
      refine ext_at rfl ?_
      ((with_reducible refine g_bs (T := 36) ?_); refine seq_bs1 (T := 36) (v := .agg _) hS Try.underlying36 Try.sizeOf74 Try.zeroValue74 rfl rfl rfl (by decide) (by decide) rfl (fun _ _ hS => ?_); simp only [Act.put, List.setIfInBounds_toArray, List.set_cons_succ, List.set_cons_zero, Int.toNat_natCast, Int.toNat_zero, Int.toNat_one, nth_zero, nth_one]; simp only [Value.cells] at hS)
      refine ext_end (hS.sub (by repeat (first | exact List.Sublist.refl _ | apply List.Sublist.cons_cons | apply List.Sublist.cons | exact List.nil_sublist _))) ?_
      refine mut_at rfl ?_
      ((with_reducible refine g_app ?_); refine seq_append_lit (t := 36) 1 hS Try.underlying36 Try.info74 rfl (by decide) rfl rfl rfl rfl (by simp [Value.oneCell']) (by omega) (by unfold maxLen; omega) (fun a2 c2 _ hS => ?_); simp only [Act.put, List.setIfInBounds_toArray, List.set_cons_succ, List.set_cons_zero, Int.toNat_natCast, Int.toNat_zero, Int.toNat_one, nth_zero, nth_one]; simp only [List.cons_append, List.nil_append, List.set_cons_succ, List.set_cons_zero, Value.cells, iv_snoc, tv_snoc] at hS)
      refine mut_end ?_
      repeat (first | ((first | ((with_reducible refine m_pure ?_); refine skip_pure rfl rfl ?_) | ((with_reducible refine m_read ?_); refine skip_read rfl rfl ?_)); simp only [Act.put, List.setIfInBounds_toArray, List.set_cons_succ, List.set_cons_zero, Int.toNat_natCast, Int.toNat_zero, Int.toNat_one, nth_zero, nth_one]) | fail | ((with_reducible refine m_pure ?_); refine run_pure rfl rfl (fun K hK => ?_); go_simp; refine hK _ ?_; clear hK K))
      refine sched_nil ?_
      simp only [NoPanic]
      go_wp2_with (fail)
      go_roundw
      case rel => exact ⟨k + 1, a2, c2, by omega, by go_num, rfl, by rw [HTK.out]; exact hS⟩
      case measure => simp [intOf]; omega
    · obtain rfl : k = L.length := by omega
      rw [List.take_length] at hS
      go_wp2
      go_ret
      exact ⟨a, c, rfl, hS.toBelow (by simp), hS.result (T := 74) (by simp)⟩

set_option maxHeartbeats 4000000 in
set_option maxRecDepth 100000 in
theorem refacross_any (gv : Value) (al : Option Addr) (cl : Nat) (L : List IS) (W : List Int) (N : List Tri) (w : World) (hg : GraphAt w (Old w) gv W N) (hv : VG W N) (hL : SlC w (Old w) 4 (.slice al L.length cl) L.length (isv L)) (hlen : L.length ≤ 1000000) :
    Calls Try.prog 30 #[gv, .slice al L.length cl] w fun e w' => Below w.heap.size w w' ∧
      ((runI (List.range W.length) L = none ∧ e = .returned (.tuple #[.slice none 0 0, .int .i64 1])) ∨
       (∃ cur a c, runI (List.range W.length) L = some cur ∧ e = .returned (.tuple #[.slice a (acr N (List.range W.length) L).length c, .int .i64 0]) ∧ Prs w' (New w w') (.slice a (acr N (List.range W.length) L).length c) (acr N (List.range W.length) L))) := by
  have hg' := hg
  obtain ⟨aw, cw, an, cn, rfl, hw, hnn⟩ := hg'
  have hS := (Heap.start w).addNil 57 2
  have hle := hv.wlen
  go_enter Try.func30, Try.ntmps30
  go_wp2_with (first | ((with_reducible refine g_box (T := 25) ?_); refine seq_box (T := 25) (v := .agg _) hS rfl (fun b wb hS => ?_); simp only [Act.put, List.setIfInBounds_toArray, List.set_cons_succ, List.set_cons_zero, Int.toNat_natCast, Int.toNat_zero, Int.toNat_one, nth_zero, nth_one]; simp only [List.cons_append, List.nil_append, List.set_cons_succ, List.set_cons_zero, Value.cells, iv_snoc, tv_snoc] at hS) | ((with_reducible refine g_load (T := 25) ?_); refine seq_of hS rfl (stp_load_all (T := 25) 2 Try.isAgg25 Try.sizeOf25 rfl rfl rfl ?_); simp only [Act.put, List.setIfInBounds_toArray, List.set_cons_succ, List.set_cons_zero, Int.toNat_natCast, Int.toNat_zero, Int.toNat_one, nth_zero, nth_one]))
  refine (refrun_any _ _ _ L W N _ (hg.arg hS (by simp)) hle (SlC.arg hL hS (by simp)) hlen).mono ?_
  rintro e wr1 ⟨hB, ⟨hno, rfl⟩ | ⟨cur, ar, cr, hrun, rfl, cells, hsl, hrows⟩⟩
  · have hS := hS.below hB
    have HNO := Lib.hid hno
    clear hno
    simp only []
    go_step
    go_wp2_with (fail)
    refine bodyPost_ret (results_tmp2 rfl _ _ _) rfl ?_
    exact ⟨hS.toBelow (by simp), .inl ⟨HNO.out, rfl⟩⟩
  · have hS := hS.call hB
    simp only [List.cons_append, List.nil_append, List.set_cons_succ, List.set_cons_zero, Value.cells, iv_snoc, tv_snoc] at hS
    generalize New _ wr1 = SR at *
    have HRUN := Lib.hid hrun
    clear hrun
    simp only []
    go_step
    go_wp2_with (fail)
    try simp only [List.getElem_toArray, List.getElem_cons_zero, List.getElem_cons_succ]
    go_loopw [8, 9] (fun out i wr => ∃ (k : Nat) (a : Option Addr) (c : Nat) (R : List (Int × Int)), k ≤ L.length ∧ i = .int .i64 k ∧ out = .slice a R.length c ∧ Hid (R = acr N (List.range W.length) (L.take k)) ∧ R.length ≤ k ∧ Heap w wr [.frz (Old w) w, .row (.slice a R.length c) 57 2 R.length (pv R), .blk b (.cells #[.slice aw W.length cw, .slice an N.length cn] 25 (0, 0)), .frz SR wr1]) (fun _ i _ => L.length - (intOf i).toNat)
    case atStart => exact ⟨0, none, 0, [], by omega, rfl, rfl, rfl, by simp, hS⟩
    case round =>
      clear hS hB
      obtain ⟨k, a, c, R, hk, rfl, rfl, HR, hrl, hS⟩ := hrel
      revert hS
      repeat (rename Heap _ _ _ => hZ; clear hZ)
      repeat (rename CellsAt _ _ _ _ => hZ; clear hZ)
      repeat (rename Below _ _ _ => hZ; clear hZ)
      intro hS
      by_cases hlt : k < L.length
      · obtain ⟨⟨sf, sa, sb, si⟩, hls⟩ : ∃ s, L[k] = s := ⟨_, rfl⟩
        have HS : Hid (nth is0 L ((k : Nat) : Int).toNat = ⟨sf, sa, sb, si⟩) := by
          unfold Hid
          rw [Int.toNat_natCast, nth_eq is0 _ _ hlt, hls]
        obtain ⟨ac, cc, ck, hcell, hrk, hgr, hN⟩ := hrows k hk
        have hok : okS ck ⟨sf, sa, sb, si⟩ = true := by
          rw [← hls]
          cases e : okS ck L[k] with
          | true => rfl
          | false =>
            have := runI_bad hlt hrk e
            rw [HRUN.out] at this
            cases this
        have hio := okS_is hgr.len hok
        have hpa := hio.pa
        have hpb : 0 < sb := by
          have h1 := hio.lb
          have := okS_eq ck ⟨sf, sa, sb, si⟩
          rw [hok] at this
          have h2 := this.symm
          simp only [Bool.and_eq_true] at h2
          have h3 := h2.2.2.1
          unfold isG at h3
          simp only [Bool.and_eq_true, decide_eq_true_eq] at h3
          exact h3.1
        simp only at hpa
        obtain ⟨x, rfl⟩ : ∃ x : Nat, sa = x := ⟨sa.toNat, by omega⟩
        obtain ⟨y, rfl⟩ : ∃ y : Nat, sb = y := ⟨sb.toNat, by omega⟩
        have hac := acr_snoc N L[k] (L.take k) (List.range W.length) ck hrk
        rw [← List.take_succ_eq_append_getElem hlt, hls, ← HR.out] at hac
        simp only [Int.toNat_natCast] at hac
        obtain ⟨ct, hct⟩ : ∃ ct, common N ck x y = ct := ⟨_, rfl⟩
        rw [hct] at hac
        have hcs : (cells.drop (((k : Nat) : Int).toNat * 1)).take 1 = [.slice ac W.length cc] := by
          rw [Int.toNat_natCast, Nat.mul_one, List.take_one, List.head?_drop, hcell]; rfl
        have HAC := Lib.hid hac
        have HCT := Lib.hid hct
        have HOL : Hid (ck.length = W.length) := hgr.len
        clear hac hct hok hio hls hcell hrk hrows hpb
        go_wp2_with (fail)
        refine wp_region_sched [.read 0, .pure 1, .pure 2, .pure 3, .read 4, .pure 5, .pure 6, .pure 7, .pure 8, .read 9, .pure 10, .pure 11, .pure 12, .pure 13, .read 14, .ext 15, .pure 16] [] (fun w' => Heap w w' _) (by kernel_rfl) (by as_aux_lemma => kernel_rfl) hS.drew (fun w1 hS => ?_)
        ((with_reducible refine m_read ?_); refine sched_of rfl rfl (stp_load_all (T := 25) 2 Try.isAgg25 Try.sizeOf25 rfl rfl rfl ?_); simp only [Act.put, List.setIfInBounds_toArray, List.set_cons_succ, List.set_cons_zero, Int.toNat_natCast, Int.toNat_zero, Int.toNat_one, nth_zero, nth_one])
        ((with_reducible refine m_pure ?_); refine run_pure rfl rfl (fun K hK => ?_); go_simp; refine hK _ ?_; clear hK K)
        ((with_reducible refine m_pure ?_); refine run_pure rfl rfl (fun K hK => ?_); go_simp; refine hK _ ?_; clear hK K)
        ((with_reducible refine m_pure ?_); refine sched_any rfl rfl (any_index (T := 45) Try.underlying45 Try.sizeOf22 rfl rfl hsl (by omega) (by omega) (by omega) (fun bq oq hcellq => ?_)); rw [hcs] at hcellq; simp only [Act.put, List.setIfInBounds_toArray, List.set_cons_succ, List.set_cons_zero, Int.toNat_natCast, Int.toNat_zero, Int.toNat_one, nth_zero, nth_one])
        ((with_reducible refine m_read ?_); refine sched_of rfl rfl (stp_load (T := 22) Try.isAgg22 rfl (by with_reducible assumption) (by simp) rfl ?_); simp only [Act.put, List.setIfInBounds_toArray, List.set_cons_succ, List.set_cons_zero, Int.toNat_natCast, Int.toNat_zero, Int.toNat_one, nth_zero, nth_one])
        repeat (first | ((first | ((with_reducible refine m_pure ?_); refine skip_pure rfl rfl ?_) | ((with_reducible refine m_read ?_); refine skip_read rfl rfl ?_)); simp only [Act.put, List.setIfInBounds_toArray, List.set_cons_succ, List.set_cons_zero, Int.toNat_natCast, Int.toNat_zero, Int.toNat_one, nth_zero, nth_one]) | ((with_reducible refine m_pure ?_); refine sched_any rfl rfl (any_index_is (T := 39) HS Try.underlying39 Try.sizeOf87 rfl rfl (by with_reducible assumption) (by omega) (by omega) (fun _ _ _ => ?_)); simp only [Act.put, List.setIfInBounds_toArray, List.set_cons_succ, List.set_cons_zero, Int.toNat_natCast, Int.toNat_zero, Int.toNat_one, nth_zero, nth_one]) | ((with_reducible refine m_read ?_); refine sched_of rfl rfl (stp_loadj (T := 3) 1 Try.isAgg3 rfl (by with_reducible assumption) (by simp) rfl ?_); simp only [Act.put, List.setIfInBounds_toArray, List.set_cons_succ, List.set_cons_zero, Int.toNat_natCast, Int.toNat_zero, Int.toNat_one, nth_zero, nth_one]) | ((with_reducible refine m_read ?_); refine sched_of rfl rfl (stp_loadj (T := 3) 2 Try.isAgg3 rfl (by with_reducible assumption) (by simp) rfl ?_); simp only [Act.put, List.setIfInBounds_toArray, List.set_cons_succ, List.set_cons_zero, Int.toNat_natCast, Int.toNat_zero, Int.toNat_one, nth_zero, nth_one]) | ((with_reducible refine m_pure ?_); refine run_pure rfl rfl (fun K hK => ?_); go_simp; refine hK _ ?_; clear hK K))
        refine ext_at rfl ?_
        go_wp2_with (fail)
        refine (common_any _ _ _ _ _ _ _ _ _ _ (hg.arg hS (List.mem_of_getElem? (i := 0) rfl)) (hN.arg hS (List.mem_of_getElem? (i := 3) rfl)) hv HOL.out).mono ?_
        rintro e w' ⟨rfl, hB⟩
        simp only []
        go_step
        have hS := hS.below hB
        rw [HCT.out]
        refine ext_end hS ?_
        repeat (first | ((first | ((with_reducible refine m_pure ?_); refine skip_pure rfl rfl ?_) | ((with_reducible refine m_read ?_); refine skip_read rfl rfl ?_)); simp only [Act.put, List.setIfInBounds_toArray, List.set_cons_succ, List.set_cons_zero, Int.toNat_natCast, Int.toNat_zero, Int.toNat_one, nth_zero, nth_one]) | fail | ((with_reducible refine m_pure ?_); refine run_pure rfl rfl (fun K hK => ?_); go_simp; refine hK _ ?_; clear hK K))
        refine sched_nil ?_
        simp only [NoPanic]
        revert hS
        repeat (rename Heap _ _ _ => hZ; clear hZ)
        repeat (rename CellsAt _ _ _ _ => hZ; clear hZ)
        repeat (rename Below _ _ _ => hZ; clear hZ)
        intro hS
        by_cases h0 : ct = 0
        · have f1 : (ct == 0) = true := by simpa using h0
          rw [if_pos h0] at HAC
          clear h0
          go_wp2_with (fail)
          refine wp_region_sched [.pure 0, .pure 1, .pure 2, .pure 3, .pure 4, .read 5, .pure 6, .pure 7, .pure 8, .pure 9, .read 10, .pure 11, .ext 12, .mutt 13, .pure 14] [13] (fun w' => Heap w w' _) (by kernel_rfl) (by as_aux_lemma => kernel_rfl) hS.drew (fun w1 hS => ?_)
          repeat (first | ((first | ((with_reducible refine m_pure ?_); refine skip_pure rfl rfl ?_) | ((with_reducible refine m_read ?_); refine skip_read rfl rfl ?_)); simp only [Act.put, List.setIfInBounds_toArray, List.set_cons_succ, List.set_cons_zero, Int.toNat_natCast, Int.toNat_zero, Int.toNat_one, nth_zero, nth_one]) | ((with_reducible refine m_pure ?_); refine sched_any rfl rfl (any_index_is (T := 39) HS Try.underlying39 Try.sizeOf87 rfl rfl (by with_reducible assumption) (by omega) (by omega) (fun _ _ _ => ?_)); simp only [Act.put, List.setIfInBounds_toArray, List.set_cons_succ, List.set_cons_zero, Int.toNat_natCast, Int.toNat_zero, Int.toNat_one, nth_zero, nth_one]) | ((with_reducible refine m_read ?_); refine sched_of rfl rfl (stp_loadj (T := 3) 1 Try.isAgg3 rfl (by with_reducible assumption) (by simp) rfl ?_); simp only [Act.put, List.setIfInBounds_toArray, List.set_cons_succ, List.set_cons_zero, Int.toNat_natCast, Int.toNat_zero, Int.toNat_one, nth_zero, nth_one]) | ((with_reducible refine m_read ?_); refine sched_of rfl rfl (stp_loadj (T := 3) 2 Try.isAgg3 rfl (by with_reducible assumption) (by simp) rfl ?_); simp only [Act.put, List.setIfInBounds_toArray, List.set_cons_succ, List.set_cons_zero, Int.toNat_natCast, Int.toNat_zero, Int.toNat_one, nth_zero, nth_one]) | ((with_reducible refine m_pure ?_); refine run_pure rfl rfl (fun K hK => ?_); go_simp; refine hK _ ?_; clear hK K))
          refine ext_at rfl ?_
          ((with_reducible refine g_bs (T := 61) ?_); refine seq_bs1 (T := 61) (v := .agg _) hS Try.underlying61 Try.sizeOf57 Try.zeroValue57 rfl rfl rfl (by decide) (by decide) rfl (fun _ _ hS => ?_); simp only [Act.put, List.setIfInBounds_toArray, List.set_cons_succ, List.set_cons_zero, Int.toNat_natCast, Int.toNat_zero, Int.toNat_one, nth_zero, nth_one]; simp only [Value.cells] at hS)
          refine ext_end (hS.sub (by repeat (first | exact List.Sublist.refl _ | apply List.Sublist.cons_cons | apply List.Sublist.cons | exact List.nil_sublist _))) ?_
          refine mut_at rfl ?_
          ((with_reducible refine g_app ?_); refine seq_append_lit (t := 61) 1 hS Try.underlying61 Try.info57 rfl (by decide) rfl rfl rfl rfl (by simp [Value.oneCell']) (by omega) (by unfold maxLen; omega) (fun a2 c2 _ hS => ?_); simp only [Act.put, List.setIfInBounds_toArray, List.set_cons_succ, List.set_cons_zero, Int.toNat_natCast, Int.toNat_zero, Int.toNat_one, nth_zero, nth_one]; simp only [List.cons_append, List.nil_append, List.set_cons_succ, List.set_cons_zero, Value.cells, iv_snoc, tv_snoc] at hS)
          refine mut_end ?_
          repeat (first | ((first | ((with_reducible refine m_pure ?_); refine skip_pure rfl rfl ?_) | ((with_reducible refine m_read ?_); refine skip_read rfl rfl ?_)); simp only [Act.put, List.setIfInBounds_toArray, List.set_cons_succ, List.set_cons_zero, Int.toNat_natCast, Int.toNat_zero, Int.toNat_one, nth_zero, nth_one]) | fail | ((with_reducible refine m_pure ?_); refine run_pure rfl rfl (fun K hK => ?_); go_simp; refine hK _ ?_; clear hK K))
          refine sched_nil ?_
          simp only [NoPanic]
          go_wp2_with (fail)
          go_roundw
          case rel =>
            rw [pv_snoc] at hS
            refine ⟨k + 1, a2, c2, R ++ [((x : Int), (y : Int))], by omega, by go_num, by rw [List.length_append]; rfl, HAC.out.symm, by rw [List.length_append]; simp; omega, ?_⟩
            rw [List.length_append]
            exact hS
          case measure => simp [intOf]; omega
        · have f1 : (ct == 0) = false := by simpa using h0
          rw [if_neg h0, List.append_nil] at HAC
          clear h0
          go_wp2_with (fail)
          go_roundw
          case rel => exact ⟨k + 1, a, c, R, by omega, by go_num, rfl, HAC.out.symm, by omega, hS⟩
          case measure => simp [intOf]; omega
      · obtain rfl : k = L.length := by omega
        have hR := HR.out
        rw [List.take_length] at hR
        clear HR
        go_wp2_with (fail)
        refine bodyPost_ret (results_tmp2 rfl _ _ _) rfl ?_
        subst hR
        exact ⟨hS.toBelow (by simp), .inr ⟨cur, a, c, HRUN.out, rfl, hS.result (T := 57) (by simp)⟩⟩
end Go.Proofs.Ytdibpfbibgicaaa
