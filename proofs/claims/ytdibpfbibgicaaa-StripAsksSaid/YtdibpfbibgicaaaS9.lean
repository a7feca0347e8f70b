/- S9: the law StripAsks, walked. -/
import Derived.Test.YtdibpfbibgicaaaB10
set_option linter.unusedVariables false
set_option linter.unusedSimpArgs false
namespace Go.Proofs.Ytdibpfbibgicaaa
open Go.RowKit Go.Hp

theorem fill3s (a1 a2 a3 : Option Addr) (n1 n2 n3 c1 c2 c3 : Nat) : Instr.fill (fun i => some (i * 1, 1)) ((Array.range (3 * 1)).map ((Value.slice none 0 0).cells[· % (Value.slice none 0 0).cells.size]!)) [(0, .slice a1 n1 c1), (1, .slice a2 n2 c2), (2, .slice a3 n3 c3)] = some #[.slice a1 n1 c1, .slice a2 n2 c2, .slice a3 n3 c3] := by
  have h : ((Array.range (3 * 1)).map ((Value.slice none 0 0).cells[· % (Value.slice none 0 0).cells.size]!)) = #[.slice none 0 0, .slice none 0 0, .slice none 0 0] := by
    apply Array.ext'; simp [Array.range, List.ofFn_succ, Value.cells]
  rw [h]
  simp [Instr.fill, Value.cells]
theorem Steps.inIS {W : List Int} {N : List Tri} {most : Int} {l : List Str} (hv : VG W N) (hst : Steps W N most (List.range W.length) l) : ∀ s ∈ l.map toIS, InIS s := by
  intro s hs
  obtain ⟨t, ht, rfl⟩ := List.mem_map.1 hs
  obtain ⟨i, hi, rfl⟩ := List.mem_iff_getElem.1 ht
  have h1 := hst.at i hi
  have h2 := next_is (hst.take i).gr0.1 h1
  have h3 := h2.face; have h4 := h2.into; have h5 := h2.la; have h6 := h2.lb
  have := hv.wlen
  unfold InIS toIS InI
  simp only
  omega

theorem acr_len2 (N : List Tri) : ∀ (L : List IS) (of : List Nat), (acr N of L).length ≤ L.length
  | [], of => by simp [acr]
  | s :: l, of => by
    have := acr_len2 N l (mrg of s.face.toNat s.into.toNat)
    simp only [acr, List.length_append, List.length_cons]
    split <;> simp <;> omega
def pz : Int × Int := (0, 0)
theorem pv_length (R : List (Int × Int)) : (pv R).length = R.length * 2 := by
  induction R with
  | nil => rfl
  | cons x R ih => simp only [pv, List.flatMap_cons, List.length_append, List.length_cons] at ih ⊢; rw [ih]; simp; omega
theorem pv_cell {R : List (Int × Int)} {i : Nat} (h : i < R.length) : ((pv R).drop (i * 2)).take 2 = [.int .i64 (nth pz R i).1, .int .i64 (nth pz R i).2] := by
  induction R generalizing i with
  | nil => simp at h
  | cons x R ih =>
    have hc : pv (x :: R) = .int .i64 x.1 :: .int .i64 x.2 :: pv R := by simp [pv]
    cases i with
    | zero => rw [hc]; simp [nth]
    | succ i =>
      rw [hc, show (i + 1) * 2 = i * 2 + 1 + 1 by omega, List.drop_succ_cons, List.drop_succ_cons, ih (by simpa using h)]
      simp [nth]

/-- What Across and Run answer at a list of merges, the program's and the model's in one form. -/
structure AskRes (gv : Value) (W : List Int) (N : List Tri) (L : List IS) (ce : Nat) (R : List (Int × Int)) (vb : Bool) : Prop where
  across : ∀ (ra : Option Addr) (rc : Nat) (w : World), GraphAt w (Old w) gv W N → SlC w (Old w) 4 (.slice ra L.length rc) L.length (isv L) → Calls Try.prog 28 #[gv, .slice ra L.length rc] w fun e w' => ∃ ao co, e = .returned (.tuple #[.slice ao R.length co, .int .i64 (ce : Nat)]) ∧ Below w.heap.size w w' ∧ Prs w' (New w w') (.slice ao R.length co) R
  refacross : ∀ (ra : Option Addr) (rc : Nat) (w : World), GraphAt w (Old w) gv W N → SlC w (Old w) 4 (.slice ra L.length rc) L.length (isv L) → Calls Try.prog 30 #[gv, .slice ra L.length rc] w fun e w' => ∃ ao co, e = .returned (.tuple #[.slice ao R.length co, .int .i64 (ce : Nat)]) ∧ Below w.heap.size w w' ∧ Prs w' (New w w') (.slice ao R.length co) R
  run : ∀ (ra : Option Addr) (rc : Nat) (w : World), GraphAt w (Old w) gv W N → SlC w (Old w) 4 (.slice ra L.length rc) L.length (isv L) → Calls Try.prog 31 #[gv, .slice ra L.length rc] w fun e w' => ∃ a kk c, e = .returned (.tuple #[.slice a kk c, .bool vb]) ∧ Below w.heap.size w w' ∧ (vb = true → kk = L.length + 1 ∧ RunAt w' (New w w') (.slice a kk c) W.length L)
  len : R.length ≤ L.length
  ok : vb = (runI (List.range W.length) L).isSome
theorem ask_res (gv : Value) (W : List Int) (N : List Tri) (L : List IS) (hv : VG W N) (hI : ∀ s ∈ L, InIS s) (hlen : L.length ≤ 1000000) : ∃ ce R vb, AskRes gv W N L ce R vb := by
  cases hr : runI (List.range W.length) L with
  | none =>
    refine ⟨1, [], false, ⟨?_, ?_, ?_, by simp, by rw [hr]; rfl⟩⟩
    · intro ra rc w hg hL
      refine (across_ok gv ra rc L W N w hg hv hL hI hlen).mono ?_
      rintro e w' ⟨hB, ⟨_, rfl⟩ | ⟨cur, ao, co, h, _⟩⟩
      · exact ⟨none, 0, rfl, hB, SlC.nil _ _ _⟩
      · rw [hr] at h; cases h
    · intro ra rc w hg hL
      refine (refacross_any gv ra rc L W N w hg hv hL hlen).mono ?_
      rintro e w' ⟨hB, ⟨_, rfl⟩ | ⟨cur, ao, co, h, _⟩⟩
      · exact ⟨none, 0, rfl, hB, SlC.nil _ _ _⟩
      · rw [hr] at h; cases h
    · intro ra rc w hg hL
      refine (refrun_any gv ra rc L W N w hg hv.wlen hL hlen).mono ?_
      rintro e w' ⟨hB, ⟨_, rfl⟩ | ⟨cur, ao, co, h, _⟩⟩
      · exact ⟨none, 0, 0, rfl, hB, fun h => (by cases h)⟩
      · rw [hr] at h; cases h
  | some cur =>
    refine ⟨0, acr N (List.range W.length) L, true, ⟨?_, ?_, ?_, acr_len2 _ _ _, by rw [hr]; rfl⟩⟩
    · intro ra rc w hg hL
      refine (across_ok gv ra rc L W N w hg hv hL hI hlen).mono ?_
      rintro e w' ⟨hB, ⟨h, _⟩ | ⟨cur, ao, co, h, rfl, hp⟩⟩
      · rw [hr] at h; cases h
      · exact ⟨ao, co, rfl, hB, hp⟩
    · intro ra rc w hg hL
      refine (refacross_any gv ra rc L W N w hg hv hL hlen).mono ?_
      rintro e w' ⟨hB, ⟨h, _⟩ | ⟨cur, ao, co, h, rfl, hp⟩⟩
      · rw [hr] at h; cases h
      · exact ⟨ao, co, rfl, hB, hp⟩
    · intro ra rc w hg hL
      refine (refrun_any gv ra rc L W N w hg hv.wlen hL hlen).mono ?_
      rintro e w' ⟨hB, ⟨h, _⟩ | ⟨cur, ao, co, h, rfl, hp⟩⟩
      · rw [hr] at h; cases h
      · exact ⟨ao, _, co, rfl, hB, fun _ => ⟨rfl, hp⟩⟩

set_option maxHeartbeats 8000000 in
set_option maxRecDepth 100000 in
theorem asks_walk (a : Option Addr) (n c : Nat) (xs : List Int) (z at' by' m' : Int) (w : World) (hx : Ints w (Old w) (.slice a n c) xs) (hz : InI z) (ha : InI at') (hb : InI by') (hm : InI m') :
    Calls Try.prog 5 #[.slice a n c, .int .i64 z, .int .i64 at', .int .i64 by', .int .i64 m'] w fun e w' => e = .returned (.bool true) ∧ Below w.heap.size w w' := by
  have hS := Heap.start w
  have har := aro_lt z (most := 14) (by omega)
  have hab := aro_lt by' (most := 60) (by omega)
  go_enter Try.func5, Try.ntmps5
  go_wp2_with (fail)
  refine (some_any _ _ _ 9 _ _ (hx.arg hS (by simp)) (by omega) (by omega)).mono ?_
  rintro e wg ⟨gv, W, N, rfl, hB1, hg, hG⟩
  have hwl := hG.wlen
  have hv := hG.vg (by omega)
  have hS := hS.call hB1
  simp only [List.cons_append, List.nil_append, List.set_cons_succ, List.set_cons_zero, Value.cells, iv_snoc, tv_snoc] at hS
  simp only []
  go_step
  obtain ⟨aw, cw, an, cn, rfl, hw, hn⟩ := hg
  have hg : GraphAt wg (New w wg) (.agg #[.slice aw W.length cw, .slice an N.length cn]) W N := ⟨aw, cw, an, cn, rfl, hw, hn⟩
  go_wp2_with (first | ((with_reducible refine g_alloc (T := 25) ?_); refine seq_alloc (T := 25) hS Try.zeroValue25 (fun b11 wb11 hS => ?_); simp only [Act.put, List.setIfInBounds_toArray, List.set_cons_succ, List.set_cons_zero, Int.toNat_natCast, Int.toNat_zero, Int.toNat_one, nth_zero, nth_one]; simp only [List.cons_append, List.nil_append, List.set_cons_succ, List.set_cons_zero, Value.cells, iv_snoc, tv_snoc] at hS) | ((with_reducible refine g_store (T := 25) ?_); refine seq_store (T := 25) (u := .agg #[.slice _ _ _, .slice _ _ _]) 2 hS rfl rfl rfl Try.sizeOf25 (by simp [Value.cells, Value.oneCell']) (by simp [Value.cells]) (fun _ hS => ?_); simp only [Act.put, List.setIfInBounds_toArray, List.set_cons_succ, List.set_cons_zero, Int.toNat_natCast, Int.toNat_zero, Int.toNat_one, nth_zero, nth_one]; simp only [List.cons_append, List.nil_append, List.set_cons_succ, List.set_cons_zero, Value.cells, iv_snoc, tv_snoc] at hS; simp only [List.take_zero, List.nil_append, List.append_nil, List.drop_succ_cons, List.drop_zero, List.drop_nil, List.take_succ_cons, List.cons_append, List.size_toArray, List.length_cons, List.length_nil, Nat.reduceAdd] at hS))
  refine wp_region_sched [.read 0, .pure 1, .ext 2, .pure 3, .ext 4, .pure 5, .pure 6, .pure 7, .pure 8, .pure 9] [] (fun w' => Heap w w' _) (by kernel_rfl) (by as_aux_lemma => kernel_rfl) hS.drew (fun w1 hS => ?_)
  repeat (first | ((first | ((with_reducible refine m_pure ?_); refine skip_pure rfl rfl ?_) | ((with_reducible refine m_read ?_); refine skip_read rfl rfl ?_)); simp only [Act.put, List.setIfInBounds_toArray, List.set_cons_succ, List.set_cons_zero, Int.toNat_natCast, Int.toNat_zero, Int.toNat_one, nth_zero, nth_one]) | ((with_reducible refine m_read ?_); refine sched_of rfl rfl (stp_load_all (T := 25) 2 Try.isAgg25 Try.sizeOf25 rfl rfl rfl ?_); simp only [Act.put, List.setIfInBounds_toArray, List.set_cons_succ, List.set_cons_zero, Int.toNat_natCast, Int.toNat_zero, Int.toNat_one, nth_zero, nth_one]) | ((with_reducible refine m_pure ?_); refine run_pure rfl rfl (fun K hK => ?_); go_simp; refine hK _ ?_; clear hK K))
  refine ext_at rfl ?_
  go_wp2_with (fail)
  refine (around_any _ _ _ (by omega) (by omega) hz).mono ?_
  rintro e w' ⟨rfl, rfl⟩
  simp only []
  go_step
  refine ext_end hS ?_
  repeat (first | ((first | ((with_reducible refine m_pure ?_); refine skip_pure rfl rfl ?_) | ((with_reducible refine m_read ?_); refine skip_read rfl rfl ?_)); simp only [Act.put, List.setIfInBounds_toArray, List.set_cons_succ, List.set_cons_zero, Int.toNat_natCast, Int.toNat_zero, Int.toNat_one, nth_zero, nth_one]) | fail | ((with_reducible refine m_pure ?_); refine run_pure rfl rfl (fun K hK => ?_); go_simp; refine hK _ ?_; clear hK K))
  refine ext_at rfl ?_
  go_wp2_with (fail)
  refine (refcollapse_any _ (1 + aro z 14) _ _ _ (hg.arg hS (List.mem_of_getElem? (i := 1) rfl)) hv ⟨by omega, by omega⟩).mono ?_
  rintro e w' ⟨hBr, l0, ao, co, af, cf, hcol, rfl, hs0, hof⟩
  simp only []
  go_step
  have hS := hS.call hBr
  simp only [List.cons_append, List.nil_append, List.set_cons_succ, List.set_cons_zero, Value.cells, iv_snoc, tv_snoc] at hS
  generalize New _ w' = SC at *
  rename World => wc
  refine ext_end (hS.sub (by repeat (first | exact List.Sublist.refl _ | apply List.Sublist.cons_cons | apply List.Sublist.cons | exact List.nil_sublist _))) ?_
  repeat (first | ((first | ((with_reducible refine m_pure ?_); refine skip_pure rfl rfl ?_) | ((with_reducible refine m_read ?_); refine skip_read rfl rfl ?_)); simp only [Act.put, List.setIfInBounds_toArray, List.set_cons_succ, List.set_cons_zero, Int.toNat_natCast, Int.toNat_zero, Int.toNat_one, nth_zero, nth_one]) | fail | ((with_reducible refine m_pure ?_); refine run_pure rfl rfl (fun K hK => ?_); go_simp; refine hK _ ?_; clear hK K))
  refine sched_nil ?_
  simp only [NoPanic]
  have hll := hcol.1.gr0.2
  have hI0 := hcol.1.inIS hv
  obtain ⟨L0, hL0⟩ : ∃ L0, l0.map toIS = L0 := ⟨_, rfl⟩
  have hlen0 : l0.length = L0.length := by rw [← hL0, List.length_map]
  have hs1 : SlC wc SC 4 (.slice ao L0.length co) L0.length (isv L0) := by rw [← hL0, List.length_map, ← sv_isv]; exact hs0
  rw [hL0] at hI0
  have hl9 : L0.length ≤ 9 := by omega
  rw [hlen0]
  clear hs0 hcol hof hL0 hll hlen0
  revert hS
  repeat (rename Heap _ _ _ => hZ; clear hZ)
  repeat (rename CellsAt _ _ _ _ => hZ; clear hZ)
  repeat (rename Below _ _ _ => hZ; clear hZ)
  intro hS
  go_wp2_with (first | (go_at_call 10; refine (around_any _ _ _ (by omega) (by omega) hb).mono ?_; rintro e w' ⟨rfl, rfl⟩))
  refine (spoiltS_any _ _ L0 _ _ _ (SlC.arg hs1 hS (List.mem_of_getElem? (i := 3) rfl)) hI0 (by omega) ha (by omega) (by omega)).mono ?_
  rintro e ws ⟨a5, c5, L1, rfl, hBs, hs2, hI1, hl1⟩
  have hS := hS.call hBs
  simp only [List.cons_append, List.nil_append, List.set_cons_succ, List.set_cons_zero, Value.cells, iv_snoc, tv_snoc] at hS
  generalize New _ ws = SS at *
  simp only []
  go_step
  go_wp2_with (first | ((with_reducible refine g_bs (T := 60) ?_); refine seq_bsL (n := 3) (k := 1) (z := .slice none 0 0) (T := 60) hS Try.underlying60 Try.sizeOf39 Try.zeroValue39 (by decide) (by decide) (fill3s _ _ _ _ _ _ _ _ _) rfl rfl (fun bl wbl hS => ?_); simp only [Act.put, List.setIfInBounds_toArray, List.set_cons_succ, List.set_cons_zero, Int.toNat_natCast, Int.toNat_zero, Int.toNat_one, nth_zero, nth_one]; simp only [List.cons_append, List.nil_append, List.set_cons_succ, List.set_cons_zero, Value.cells, iv_snoc, tv_snoc] at hS))
  have hkey : ∃ (AR : Array Value) (SA : Nat → Prop) (wA : World), AR.size = 3 ∧ GraphAt wA SA (.agg #[.slice aw W.length cw, .slice an N.length cn]) W N ∧ (∀ p, p < 3 → ∃ (L : List IS) (al : Option Addr) (cl : Nat), AR[p]? = some (.slice al L.length cl) ∧ SlC wA SA 4 (.slice al L.length cl) L.length (isv L) ∧ (∀ s ∈ L, InIS s) ∧ L.length ≤ 100) ∧ Heap w wbl [.frz (Old w) w, .frz SA wA, .blk b11 (.cells #[.slice aw W.length cw, .slice an N.length cn] 25 (0, 0)), .blk bl (.cells AR 39 (0, 0))] := by
    have hS2 : Heap w wbl [.frz (Old w) w, .frz (New w wg) wg, .blk b11 (.cells #[.slice aw W.length cw, .slice an N.length cn] 25 (0, 0)), .frz SC wc, .frz SS ws, .blk bl (.cells #[.slice ao L0.length co, .slice a5 L1.length c5, .slice none 0 0] 39 (0, 0))] := hS
    have hS3 := ((hS2.order [1, 3, 4, 0, 2, 5] rfl).join).join
    have hS4 := hS3.order [1, 0, 2, 3] rfl
    refine ⟨_, _, _, rfl, ⟨aw, cw, an, cn, rfl, (hw.later hS2 (List.mem_of_getElem? (i := 1) rfl)).weaken (fun k hk => .inl (.inl hk)), (hn.later hS2 (List.mem_of_getElem? (i := 1) rfl)).weaken (fun k hk => .inl (.inl hk))⟩, ?_, hS4⟩
    intro p hp
    rcases (show p = 0 ∨ p = 1 ∨ p = 2 by omega) with rfl | rfl | rfl
    · exact ⟨L0, ao, co, rfl, (hs1.later hS2 (List.mem_of_getElem? (i := 3) rfl)).weaken (fun k hk => .inl (.inr hk)), hI0, by omega⟩
    · exact ⟨L1, a5, c5, rfl, (hs2.later hS2 (List.mem_of_getElem? (i := 4) rfl)).weaken (fun k hk => .inr hk), hI1, by omega⟩
    · exact ⟨[], none, 0, rfl, SlC.nil _ _ _, by simp, by simp⟩
  clear hS hg hw hn hs1 hs2 hI0 hI1 hl1 hl9 hG hx ha hb hz
  obtain ⟨AR, SA, wA, har3, hg, hAR, hS⟩ := hkey
  have HAR := Lib.hid hAR
  clear hAR
  revert hS
  repeat (rename Heap _ _ _ => hZ; clear hZ)
  repeat (rename CellsAt _ _ _ _ => hZ; clear hZ)
  repeat (rename Below _ _ _ => hZ; clear hZ)
  intro hS
  go_loopw [15] (fun i wr => ∃ p : Nat, p ≤ 3 ∧ i = .int .i64 p ∧ Heap w wr [.frz (Old w) w, .frz SA wA, .blk b11 (.cells #[.slice aw W.length cw, .slice an N.length cn] 25 (0, 0)), .blk bl (.cells AR 39 (0, 0))]) (fun i _ => 3 - (intOf i).toNat)
  case atStart => exact ⟨0, by omega, rfl, hS⟩
  case round =>
    clear hS
    obtain ⟨p, hp, rfl, hS⟩ := hrel
    revert hS
    repeat (rename Heap _ _ _ => hZ; clear hZ)
    repeat (rename CellsAt _ _ _ _ => hZ; clear hZ)
    repeat (rename Below _ _ _ => hZ; clear hZ)
    intro hS
    by_cases hp3 : p < 3
    · obtain ⟨L, al, cl, hcell, hsl, hIL, hlL⟩ := HAR.out p hp3
      have HP := Lib.hid hcell
      obtain ⟨ce, R, vb, hask⟩ := ask_res (.agg #[.slice aw W.length cw, .slice an N.length cn]) W N L hv hIL (by omega)
      have hRl := hask.len
      have f1 : (((ce : Nat) : Int) != (ce : Nat)) = false := by simp
      have f2 : (((R.length : Nat) : Int) != (R.length : Nat)) = false := by simp
      clear hcell HAR
      go_wp2_with (fail)
      refine wp_region_sched [.read 0, .pure 2, .pure 3, .pure 4, .read 5, .ext 1, .ext 6, .ext 7, .pure 8, .pure 9, .pure 10, .pure 11, .pure 12] [] (fun w' => Heap w w' _) (by kernel_rfl) (by as_aux_lemma => kernel_rfl) hS.drew (fun w1 hS => ?_)
      repeat (first | ((first | ((with_reducible refine m_pure ?_); refine skip_pure rfl rfl ?_) | ((with_reducible refine m_read ?_); refine skip_read rfl rfl ?_)); simp only [Act.put, List.setIfInBounds_toArray, List.set_cons_succ, List.set_cons_zero, Int.toNat_natCast, Int.toNat_zero, Int.toNat_one, nth_zero, nth_one]) | ((with_reducible refine m_read ?_); refine sched_of rfl rfl (stp_load_all (T := 25) 2 Try.isAgg25 Try.sizeOf25 rfl rfl rfl ?_); simp only [Act.put, List.setIfInBounds_toArray, List.set_cons_succ, List.set_cons_zero, Int.toNat_natCast, Int.toNat_zero, Int.toNat_one, nth_zero, nth_one]) | ((with_reducible refine m_pure ?_); refine sched_any rfl rfl (any_index_at (T := 60) Try.underlying60 Try.sizeOf39 rfl rfl (by omega) (by omega) ?_); simp only [Act.put, List.setIfInBounds_toArray, List.set_cons_succ, List.set_cons_zero, Int.toNat_natCast, Int.toNat_zero, Int.toNat_one, nth_zero, nth_one]; simp only [Nat.zero_add, Int.toNat_natCast]) | ((with_reducible refine m_read ?_); refine sched_of rfl rfl (stp_load_blk (T := 39) 3 Try.isAgg39 rfl rfl HP.out ?_); simp only [Act.put, List.setIfInBounds_toArray, List.set_cons_succ, List.set_cons_zero, Int.toNat_natCast, Int.toNat_zero, Int.toNat_one, nth_zero, nth_one]) | ((with_reducible refine m_pure ?_); refine run_pure rfl rfl (fun K hK => ?_); go_simp; refine hK _ ?_; clear hK K))
      refine ext_at rfl ?_
      go_wp2_with (fail)
      refine (own_any _ _ _ _ (hg.arg hS (List.mem_of_getElem? (i := 1) rfl))).mono ?_
      rintro e w' ⟨rfl, hB⟩
      simp only []
      go_step
      have hS := hS.below hB
      refine ext_end hS ?_
      refine ext_at rfl ?_
      go_wp2_with (fail)
      refine (real_any _ _ L _ (SlC.arg hsl hS (List.mem_of_getElem? (i := 1) rfl)) (by omega)).mono ?_
      rintro e w' ⟨ra, rc, rfl, hBr, hsr⟩
      simp only []
      go_step
      have hS := hS.call hBr
      simp only [List.cons_append, List.nil_append, List.set_cons_succ, List.set_cons_zero, Value.cells, iv_snoc, tv_snoc] at hS
      refine ext_end (hS.sub (by repeat (first | exact List.Sublist.refl _ | apply List.Sublist.cons_cons | apply List.Sublist.cons | exact List.nil_sublist _))) ?_
      refine ext_at rfl ?_
      go_wp2_with (fail)
      refine (hask.across _ _ _ (hg.arg hS (List.mem_of_getElem? (i := 1) rfl)) (SlC.arg hsr hS (List.mem_of_getElem? (i := 4) rfl))).mono ?_
      rintro e w' ⟨xo, xc, rfl, hBx, hpx⟩
      simp only []
      go_step
      have hS := hS.call hBx
      simp only [List.cons_append, List.nil_append, List.set_cons_succ, List.set_cons_zero, Value.cells, iv_snoc, tv_snoc] at hS
      generalize New _ w' = SX at *
      rename World => wx
      refine ext_end (hS.sub (by repeat (first | exact List.Sublist.refl _ | apply List.Sublist.cons_cons | apply List.Sublist.cons | exact List.nil_sublist _))) ?_
      repeat (first | ((first | ((with_reducible refine m_pure ?_); refine skip_pure rfl rfl ?_) | ((with_reducible refine m_read ?_); refine skip_read rfl rfl ?_)); simp only [Act.put, List.setIfInBounds_toArray, List.set_cons_succ, List.set_cons_zero, Int.toNat_natCast, Int.toNat_zero, Int.toNat_one, nth_zero, nth_one]) | fail | ((with_reducible refine m_pure ?_); refine run_pure rfl rfl (fun K hK => ?_); go_simp; refine hK _ ?_; clear hK K))
      refine sched_nil ?_
      simp only [NoPanic]
      revert hS
      repeat (rename Heap _ _ _ => hZ; clear hZ)
      repeat (rename CellsAt _ _ _ _ => hZ; clear hZ)
      repeat (rename Below _ _ _ => hZ; clear hZ)
      intro hS
      go_wp2_with (fail)
      refine wp_region_sched [.read 0, .pure 1, .pure 2, .pure 3, .read 4, .ext 5, .pure 6, .pure 7, .pure 8, .pure 9, .pure 10] [] (fun w' => Heap w w' _) (by kernel_rfl) (by as_aux_lemma => kernel_rfl) hS.drew (fun w1 hS => ?_)
      repeat (first | ((first | ((with_reducible refine m_pure ?_); refine skip_pure rfl rfl ?_) | ((with_reducible refine m_read ?_); refine skip_read rfl rfl ?_)); simp only [Act.put, List.setIfInBounds_toArray, List.set_cons_succ, List.set_cons_zero, Int.toNat_natCast, Int.toNat_zero, Int.toNat_one, nth_zero, nth_one]) | ((with_reducible refine m_read ?_); refine sched_of rfl rfl (stp_load_all (T := 25) 2 Try.isAgg25 Try.sizeOf25 rfl rfl rfl ?_); simp only [Act.put, List.setIfInBounds_toArray, List.set_cons_succ, List.set_cons_zero, Int.toNat_natCast, Int.toNat_zero, Int.toNat_one, nth_zero, nth_one]) | ((with_reducible refine m_pure ?_); refine sched_any rfl rfl (any_index_at (T := 60) Try.underlying60 Try.sizeOf39 rfl rfl (by omega) (by omega) ?_); simp only [Act.put, List.setIfInBounds_toArray, List.set_cons_succ, List.set_cons_zero, Int.toNat_natCast, Int.toNat_zero, Int.toNat_one, nth_zero, nth_one]; simp only [Nat.zero_add, Int.toNat_natCast]) | ((with_reducible refine m_read ?_); refine sched_of rfl rfl (stp_load_blk (T := 39) 3 Try.isAgg39 rfl rfl HP.out ?_); simp only [Act.put, List.setIfInBounds_toArray, List.set_cons_succ, List.set_cons_zero, Int.toNat_natCast, Int.toNat_zero, Int.toNat_one, nth_zero, nth_one]) | ((with_reducible refine m_pure ?_); refine run_pure rfl rfl (fun K hK => ?_); go_simp; refine hK _ ?_; clear hK K))
      refine ext_at rfl ?_
      go_wp2_with (fail)
      refine (hask.refacross _ _ _ (hg.arg hS (List.mem_of_getElem? (i := 1) rfl)) (SlC.arg hsl hS (List.mem_of_getElem? (i := 1) rfl))).mono ?_
      rintro e w' ⟨yo, yc, rfl, hBy, hpy⟩
      simp only []
      go_step
      have hS := hS.call hBy
      simp only [List.cons_append, List.nil_append, List.set_cons_succ, List.set_cons_zero, Value.cells, iv_snoc, tv_snoc] at hS
      generalize New _ w' = SY at *
      rename World => wy
      refine ext_end (hS.sub (by repeat (first | exact List.Sublist.refl _ | apply List.Sublist.cons_cons | apply List.Sublist.cons | exact List.nil_sublist _))) ?_
      repeat (first | ((first | ((with_reducible refine m_pure ?_); refine skip_pure rfl rfl ?_) | ((with_reducible refine m_read ?_); refine skip_read rfl rfl ?_)); simp only [Act.put, List.setIfInBounds_toArray, List.set_cons_succ, List.set_cons_zero, Int.toNat_natCast, Int.toNat_zero, Int.toNat_one, nth_zero, nth_one]) | fail | ((with_reducible refine m_pure ?_); refine run_pure rfl rfl (fun K hK => ?_); go_simp; refine hK _ ?_; clear hK K))
      refine sched_nil ?_
      simp only [NoPanic]
      revert hS
      repeat (rename Heap _ _ _ => hZ; clear hZ)
      repeat (rename CellsAt _ _ _ _ => hZ; clear hZ)
      repeat (rename Below _ _ _ => hZ; clear hZ)
      intro hS
      have hpx' : SlC wx SX 2 (.slice xo R.length xc) R.length (pv R) := hpx
      have hpy' : SlC wy SY 2 (.slice yo R.length yc) R.length (pv R) := hpy
      clear hpx hpy
      go_wp2_with (fail)
      try simp only [List.getElem_toArray, List.getElem_cons_zero, List.getElem_cons_succ]
      go_loopw [20] (fun i wr => ∃ k : Nat, k ≤ R.length ∧ i = .int .i64 k ∧ Heap w wr [.frz (Old w) w, .frz SA wA, .blk b11 (.cells #[.slice aw W.length cw, .slice an N.length cn] 25 (0, 0)), .blk bl (.cells AR 39 (0, 0)), .frz SX wx, .frz SY wy]) (fun i _ => R.length - (intOf i).toNat)
      case atStart => exact ⟨0, by omega, rfl, (hS.sub (by repeat (first | exact List.Sublist.refl _ | apply List.Sublist.cons_cons | apply List.Sublist.cons | exact List.nil_sublist _)))⟩
      case round =>
        clear hS
        obtain ⟨k, hk, rfl, hS⟩ := hrel
        revert hS
        repeat (rename Heap _ _ _ => hZ; clear hZ)
        repeat (rename CellsAt _ _ _ _ => hZ; clear hZ)
        repeat (rename Below _ _ _ => hZ; clear hZ)
        intro hS
        by_cases hlk : k < R.length
        · have hcs : ((pv R).drop (((k : Nat) : Int).toNat * 2)).take 2 = [.int .i64 (nth pz R k).1, .int .i64 (nth pz R k).2] := by rw [Int.toNat_natCast]; exact pv_cell hlk
          have HE : ∀ w, (Op.equalIn 10000 57 (.agg #[.int .i64 (nth pz R k).1, .int .i64 (nth pz R k).2]) (.agg #[.int .i64 (nth pz R k).1, .int .i64 (nth pz R k).2])).run Try.prog w = .ok true w := fun w => by rw [equal2]; simp
          go_wp2_with (fail)
          refine wp_region_sched [.pure 0, .pure 1, .pure 2, .read 3, .pure 4, .pure 5, .pure 6, .read 7, .pure 8] [] (fun w' => Heap w w' _) (by kernel_rfl) (by as_aux_lemma => kernel_rfl) hS.drew (fun w1 hS => ?_)
          ((with_reducible refine m_pure ?_); refine run_pure rfl rfl (fun K hK => ?_); go_simp; refine hK _ ?_; clear hK K)
          ((with_reducible refine m_pure ?_); refine run_pure rfl rfl (fun K hK => ?_); go_simp; refine hK _ ?_; clear hK K)
          ((with_reducible refine m_pure ?_); refine sched_any rfl rfl (any_index (T := 61) Try.underlying61 Try.sizeOf57 rfl rfl hpx' (by omega) (by omega) (by omega) (fun bq oq hcellq => ?_)); rw [hcs] at hcellq; simp only [Act.put, List.setIfInBounds_toArray, List.set_cons_succ, List.set_cons_zero, Int.toNat_natCast, Int.toNat_zero, Int.toNat_one, nth_zero, nth_one])
          ((with_reducible refine m_read ?_); refine sched_of rfl rfl (stp_loadk (T := 57) Try.isAgg57 Try.sizeOf57 rfl (by with_reducible assumption) (by simp) rfl ?_); simp only [Act.put, List.setIfInBounds_toArray, List.set_cons_succ, List.set_cons_zero, Int.toNat_natCast, Int.toNat_zero, Int.toNat_one, nth_zero, nth_one])
          ((with_reducible refine m_pure ?_); refine run_pure rfl rfl (fun K hK => ?_); go_simp; refine hK _ ?_; clear hK K)
          ((with_reducible refine m_pure ?_); refine run_pure rfl rfl (fun K hK => ?_); go_simp; refine hK _ ?_; clear hK K)
          ((with_reducible refine m_pure ?_); refine sched_any rfl rfl (any_index (T := 61) Try.underlying61 Try.sizeOf57 rfl rfl hpy' (by omega) (by omega) (by omega) (fun bq oq hcellq => ?_)); rw [hcs] at hcellq; simp only [Act.put, List.setIfInBounds_toArray, List.set_cons_succ, List.set_cons_zero, Int.toNat_natCast, Int.toNat_zero, Int.toNat_one, nth_zero, nth_one])
          ((with_reducible refine m_read ?_); refine sched_of rfl rfl (stp_loadk (T := 57) Try.isAgg57 Try.sizeOf57 rfl (by with_reducible assumption) (by simp) rfl ?_); simp only [Act.put, List.setIfInBounds_toArray, List.set_cons_succ, List.set_cons_zero, Int.toNat_natCast, Int.toNat_zero, Int.toNat_one, nth_zero, nth_one])
          repeat (first | ((first | ((with_reducible refine m_pure ?_); refine skip_pure rfl rfl ?_) | ((with_reducible refine m_read ?_); refine skip_read rfl rfl ?_)); simp only [Act.put, List.setIfInBounds_toArray, List.set_cons_succ, List.set_cons_zero, Int.toNat_natCast, Int.toNat_zero, Int.toNat_one, nth_zero, nth_one]) | fail | ((with_reducible refine m_pure ?_); refine run_pure rfl rfl (fun K hK => ?_); go_simp; refine hK _ ?_; clear hK K))
          refine sched_nil ?_
          simp only [NoPanic]
          go_wp2_with (fail)
          go_roundw
          case rel => exact ⟨k + 1, by omega, by go_num, hS⟩
          case measure => simp [intOf]; omega
        · obtain rfl : k = R.length := by omega
          go_wp2_with (fail)
          refine wp_region_sched [.read 0, .pure 1, .pure 2, .pure 3, .read 4, .ext 5, .pure 6, .pure 7, .pure 8, .pure 9, .pure 10] [] (fun w' => Heap w w' _) (by kernel_rfl) (by as_aux_lemma => kernel_rfl) hS.drew (fun w1 hS => ?_)
          repeat (first | ((first | ((with_reducible refine m_pure ?_); refine skip_pure rfl rfl ?_) | ((with_reducible refine m_read ?_); refine skip_read rfl rfl ?_)); simp only [Act.put, List.setIfInBounds_toArray, List.set_cons_succ, List.set_cons_zero, Int.toNat_natCast, Int.toNat_zero, Int.toNat_one, nth_zero, nth_one]) | ((with_reducible refine m_read ?_); refine sched_of rfl rfl (stp_load_all (T := 25) 2 Try.isAgg25 Try.sizeOf25 rfl rfl rfl ?_); simp only [Act.put, List.setIfInBounds_toArray, List.set_cons_succ, List.set_cons_zero, Int.toNat_natCast, Int.toNat_zero, Int.toNat_one, nth_zero, nth_one]) | ((with_reducible refine m_pure ?_); refine sched_any rfl rfl (any_index_at (T := 60) Try.underlying60 Try.sizeOf39 rfl rfl (by omega) (by omega) ?_); simp only [Act.put, List.setIfInBounds_toArray, List.set_cons_succ, List.set_cons_zero, Int.toNat_natCast, Int.toNat_zero, Int.toNat_one, nth_zero, nth_one]; simp only [Nat.zero_add, Int.toNat_natCast]) | ((with_reducible refine m_read ?_); refine sched_of rfl rfl (stp_load_blk (T := 39) 3 Try.isAgg39 rfl rfl HP.out ?_); simp only [Act.put, List.setIfInBounds_toArray, List.set_cons_succ, List.set_cons_zero, Int.toNat_natCast, Int.toNat_zero, Int.toNat_one, nth_zero, nth_one]) | ((with_reducible refine m_pure ?_); refine run_pure rfl rfl (fun K hK => ?_); go_simp; refine hK _ ?_; clear hK K))
          refine ext_at rfl ?_
          go_wp2_with (fail)
          refine (hask.run _ _ _ (hg.arg hS (List.mem_of_getElem? (i := 1) rfl)) (SlC.arg hsl hS (List.mem_of_getElem? (i := 1) rfl))).mono ?_
          rintro e w' ⟨ro, kk, rcc, rfl, hBu, hru⟩
          simp only []
          go_step
          have hS := hS.call hBu
          simp only [List.cons_append, List.nil_append, List.set_cons_succ, List.set_cons_zero, Value.cells, iv_snoc, tv_snoc] at hS
          generalize New _ w' = SU at *
          rename World => wu
          refine ext_end (hS.sub (by repeat (first | exact List.Sublist.refl _ | apply List.Sublist.cons_cons | apply List.Sublist.cons | exact List.nil_sublist _))) ?_
          repeat (first | ((first | ((with_reducible refine m_pure ?_); refine skip_pure rfl rfl ?_) | ((with_reducible refine m_read ?_); refine skip_read rfl rfl ?_)); simp only [Act.put, List.setIfInBounds_toArray, List.set_cons_succ, List.set_cons_zero, Int.toNat_natCast, Int.toNat_zero, Int.toNat_one, nth_zero, nth_one]) | fail | ((with_reducible refine m_pure ?_); refine run_pure rfl rfl (fun K hK => ?_); go_simp; refine hK _ ?_; clear hK K))
          refine sched_nil ?_
          simp only [NoPanic]
          revert hS
          repeat (rename Heap _ _ _ => hZ; clear hZ)
          repeat (rename CellsAt _ _ _ _ => hZ; clear hZ)
          repeat (rename Below _ _ _ => hZ; clear hZ)
          intro hS
          go_wp2_with (fail)
          refine wp_region_sched [.pure 0, .pure 1, .pure 2, .pure 3, .read 4, .pure 5, .pure 6, .pure 7, .pure 8, .pure 9, .read 10, .pure 11, .pure 12, .pure 13, .pure 14, .pure 15, .read 16, .pure 17, .pure 18, .ext 19, .ext 20, .pure 21] [] (fun w' => Heap w w' _) (by kernel_rfl) (by as_aux_lemma => kernel_rfl) hS.drew (fun w1 hS => ?_)
          repeat (first | ((first | ((with_reducible refine m_pure ?_); refine skip_pure rfl rfl ?_) | ((with_reducible refine m_read ?_); refine skip_read rfl rfl ?_)); simp only [Act.put, List.setIfInBounds_toArray, List.set_cons_succ, List.set_cons_zero, Int.toNat_natCast, Int.toNat_zero, Int.toNat_one, nth_zero, nth_one]) | ((with_reducible refine m_read ?_); refine sched_of rfl rfl (stp_load_all (T := 25) 2 Try.isAgg25 Try.sizeOf25 rfl rfl rfl ?_); simp only [Act.put, List.setIfInBounds_toArray, List.set_cons_succ, List.set_cons_zero, Int.toNat_natCast, Int.toNat_zero, Int.toNat_one, nth_zero, nth_one]) | ((with_reducible refine m_pure ?_); refine sched_any rfl rfl (any_index_at (T := 60) Try.underlying60 Try.sizeOf39 rfl rfl (by omega) (by omega) ?_); simp only [Act.put, List.setIfInBounds_toArray, List.set_cons_succ, List.set_cons_zero, Int.toNat_natCast, Int.toNat_zero, Int.toNat_one, nth_zero, nth_one]; simp only [Nat.zero_add, Int.toNat_natCast]) | ((with_reducible refine m_read ?_); refine sched_of rfl rfl (stp_load_blk (T := 39) 3 Try.isAgg39 rfl rfl HP.out ?_); simp only [Act.put, List.setIfInBounds_toArray, List.set_cons_succ, List.set_cons_zero, Int.toNat_natCast, Int.toNat_zero, Int.toNat_one, nth_zero, nth_one]) | ((with_reducible refine m_pure ?_); refine run_pure rfl rfl (fun K hK => ?_); go_simp; refine hK _ ?_; clear hK K))
          refine ext_at rfl ?_
          go_wp2_with (fail)
          refine (around_any _ _ _ (by omega) (by omega) hm).mono ?_
          rintro e w' ⟨rfl, rfl⟩
          simp only []
          go_step
          refine ext_end hS ?_
          refine ext_at rfl ?_
          ((with_reducible refine g_bs (T := 22) ?_); refine seq_bsL (n := 6) (k := 1) (z := .int .i64 0) (T := 22) hS Try.underlying22 Try.sizeOf3 Try.zeroValue3 (by decide) (by decide) (fill6 _ _ _ _ _ _) rfl rfl (fun bn wbn hS => ?_); simp only [Act.put, List.setIfInBounds_toArray, List.set_cons_succ, List.set_cons_zero, Int.toNat_natCast, Int.toNat_zero, Int.toNat_one, nth_zero, nth_one]; simp only [List.cons_append, List.nil_append, List.set_cons_succ, List.set_cons_zero, Value.cells, iv_snoc, tv_snoc] at hS)
          refine ext_end (hS.sub (by repeat (first | exact List.Sublist.refl _ | apply List.Sublist.cons_cons | apply List.Sublist.cons | exact List.nil_sublist _))) ?_
          repeat (first | ((first | ((with_reducible refine m_pure ?_); refine skip_pure rfl rfl ?_) | ((with_reducible refine m_read ?_); refine skip_read rfl rfl ?_)); simp only [Act.put, List.setIfInBounds_toArray, List.set_cons_succ, List.set_cons_zero, Int.toNat_natCast, Int.toNat_zero, Int.toNat_one, nth_zero, nth_one]) | fail | ((with_reducible refine m_pure ?_); refine run_pure rfl rfl (fun K hK => ?_); go_simp; refine hK _ ?_; clear hK K))
          refine sched_nil ?_
          simp only [NoPanic]
          have hwr : IntKind.i64.wrap ((L.length : Int) + 1) = (L.length : Int) + 1 := by rw [IntKind.wrap_i64]; omega
          have hkn : ∃ NUM : Array Value, (∀ j, j < 6 → ∃ y, NUM[j]? = some (.int .i64 y) ∧ InI y) ∧ Heap w wbn [.frz (Old w) w, .frz SA wA, .blk b11 (.cells #[.slice aw W.length cw, .slice an N.length cn] 25 (0, 0)), .blk bl (.cells AR 39 (0, 0)), .frz SU wu, .blk bn (.cells NUM 3 (0, 0))] := by
            refine ⟨_, ?_, (hS.sub (by repeat (first | exact List.Sublist.refl _ | apply List.Sublist.cons_cons | apply List.Sublist.cons | exact List.nil_sublist _)))⟩
            intro j hj
            have har2 := aro_lt m' (most := (L.length : Int) + 1) (by omega)
            rcases (show j = 0 ∨ j = 1 ∨ j = 2 ∨ j = 3 ∨ j = 4 ∨ j = 5 by omega) with rfl | rfl | rfl | rfl | rfl | rfl
            · exact ⟨_, rfl, hm⟩
            · exact ⟨_, rfl, by unfold InI; omega⟩
            · exact ⟨_, rfl, by first | (rw [hwr]; unfold InI; omega) | (unfold InI; omega)⟩
            · exact ⟨_, rfl, by unfold InI; omega⟩
            · exact ⟨_, rfl, by unfold InI; omega⟩
            · exact ⟨_, rfl, by first | (rw [hwr]; unfold InI; omega) | (unfold InI; omega)⟩
          obtain ⟨NUM, hNUM, hS2⟩ := hkn
          have HNUM := Lib.hid hNUM
          replace hS := hS2
          clear hNUM hS2 hwr hpx' hpy'
          revert hS
          repeat (rename Heap _ _ _ => hZ; clear hZ)
          repeat (rename CellsAt _ _ _ _ => hZ; clear hZ)
          repeat (rename Below _ _ _ => hZ; clear hZ)
          intro hS
          go_wp2_with (fail)
          try simp only [List.getElem_toArray, List.getElem_cons_zero, List.getElem_cons_succ]
          go_loopw [24] (fun i wr => ∃ j : Nat, j ≤ 6 ∧ i = .int .i64 j ∧ Heap w wr [.frz (Old w) w, .frz SA wA, .blk b11 (.cells #[.slice aw W.length cw, .slice an N.length cn] 25 (0, 0)), .blk bl (.cells AR 39 (0, 0)), .frz SU wu, .blk bn (.cells NUM 3 (0, 0))]) (fun i _ => 6 - (intOf i).toNat)
          case atStart => exact ⟨0, by omega, rfl, hS⟩
          case round =>
            clear hS
            obtain ⟨j, hj, rfl, hS⟩ := hrel
            revert hS
            repeat (rename Heap _ _ _ => hZ; clear hZ)
            repeat (rename CellsAt _ _ _ _ => hZ; clear hZ)
            repeat (rename Below _ _ _ => hZ; clear hZ)
            intro hS
            by_cases hj6 : j < 6
            · obtain ⟨y, hy, hyi⟩ := HNUM.out j hj6
              have HY := Lib.hid hy
              have hop := fun (ra : Option Addr) (rc : Nat) (w : World) h1 h2 => open_ok (.agg #[.slice aw W.length cw, .slice an N.length cn]) ra rc y L W N w h1 hv h2 hIL (by omega) hyi
              have hok := hask.ok
              clear hy HNUM hask
              cases hrun : runI (List.range W.length) L with
              | none =>
                rw [hrun] at hok
                obtain rfl : vb = false := hok
                have hop1 : ∀ (ra : Option Addr) (rc : Nat) (w : World), GraphAt w (Old w) (.agg #[.slice aw W.length cw, .slice an N.length cn]) W N → SlC w (Old w) 4 (.slice ra L.length rc) L.length (isv L) → Calls Try.prog 32 #[.agg #[.slice aw W.length cw, .slice an N.length cn], .slice ra L.length rc, .int .i64 y] w fun e w' => e = .returned (.tuple #[.slice none 0 0, .int .i64 1]) ∧ Below w.heap.size w w' := by
                  intro ra rc w h1 h2
                  refine (hop ra rc w h1 h2).mono ?_
                  rintro e w' ⟨hB, ⟨_, rfl⟩ | ⟨cur, h, _⟩⟩
                  · exact ⟨rfl, hB⟩
                  · rw [hrun] at h; cases h
                have HOP := Lib.hid hop1
                clear hop hop1 hrun hru
                go_wp2_with (fail)
                refine wp_region_sched [.read 0, .pure 2, .pure 3, .pure 4, .read 5, .pure 7, .pure 8, .pure 9, .read 10, .ext 1, .ext 6, .ext 11, .pure 12, .pure 13, .pure 14, .pure 15, .pure 16] [] (fun w' => Heap w w' _) (by kernel_rfl) (by as_aux_lemma => kernel_rfl) hS.drew (fun w1 hS => ?_)
                repeat (first | ((first | ((with_reducible refine m_pure ?_); refine skip_pure rfl rfl ?_) | ((with_reducible refine m_read ?_); refine skip_read rfl rfl ?_)); simp only [Act.put, List.setIfInBounds_toArray, List.set_cons_succ, List.set_cons_zero, Int.toNat_natCast, Int.toNat_zero, Int.toNat_one, nth_zero, nth_one]) | ((with_reducible refine m_read ?_); refine sched_of rfl rfl (stp_load_all (T := 25) 2 Try.isAgg25 Try.sizeOf25 rfl rfl rfl ?_); simp only [Act.put, List.setIfInBounds_toArray, List.set_cons_succ, List.set_cons_zero, Int.toNat_natCast, Int.toNat_zero, Int.toNat_one, nth_zero, nth_one]) | ((with_reducible refine m_pure ?_); refine sched_any rfl rfl (any_index_at (T := 60) Try.underlying60 Try.sizeOf39 rfl rfl (by omega) (by omega) ?_); simp only [Act.put, List.setIfInBounds_toArray, List.set_cons_succ, List.set_cons_zero, Int.toNat_natCast, Int.toNat_zero, Int.toNat_one, nth_zero, nth_one]; simp only [Nat.zero_add, Int.toNat_natCast]) | ((with_reducible refine m_read ?_); refine sched_of rfl rfl (stp_load_blk (T := 39) 3 Try.isAgg39 rfl rfl HP.out ?_); simp only [Act.put, List.setIfInBounds_toArray, List.set_cons_succ, List.set_cons_zero, Int.toNat_natCast, Int.toNat_zero, Int.toNat_one, nth_zero, nth_one]) | ((with_reducible refine m_pure ?_); refine sched_any rfl rfl (any_index_at (T := 22) Try.underlying22 Try.sizeOf3 rfl rfl (by omega) (by omega) ?_); simp only [Act.put, List.setIfInBounds_toArray, List.set_cons_succ, List.set_cons_zero, Int.toNat_natCast, Int.toNat_zero, Int.toNat_one, nth_zero, nth_one]; simp only [Nat.zero_add, Int.toNat_natCast]) | ((with_reducible refine m_read ?_); refine sched_of rfl rfl (stp_load_blk (T := 3) 5 Try.isAgg3 rfl rfl HY.out ?_); simp only [Act.put, List.setIfInBounds_toArray, List.set_cons_succ, List.set_cons_zero, Int.toNat_natCast, Int.toNat_zero, Int.toNat_one, nth_zero, nth_one]) | ((with_reducible refine m_pure ?_); refine run_pure rfl rfl (fun K hK => ?_); go_simp; refine hK _ ?_; clear hK K))
                refine ext_at rfl ?_
                go_wp2_with (fail)
                refine (own_any _ _ _ _ (hg.arg hS (List.mem_of_getElem? (i := 1) rfl))).mono ?_
                rintro e w' ⟨rfl, hB⟩
                simp only []
                go_step
                have hS := hS.below hB
                refine ext_end hS ?_
                refine ext_at rfl ?_
                go_wp2_with (fail)
                refine (real_any _ _ L _ (SlC.arg hsl hS (List.mem_of_getElem? (i := 1) rfl)) (by omega)).mono ?_
                rintro e w' ⟨ra, rc, rfl, hBr, hsr⟩
                simp only []
                go_step
                have hS := hS.call hBr
                simp only [List.cons_append, List.nil_append, List.set_cons_succ, List.set_cons_zero, Value.cells, iv_snoc, tv_snoc] at hS
                refine ext_end (hS.sub (by repeat (first | exact List.Sublist.refl _ | apply List.Sublist.cons_cons | apply List.Sublist.cons | exact List.nil_sublist _))) ?_
                refine ext_at rfl ?_
                go_wp2_with (fail)
                refine (HOP.out _ _ _ (hg.arg hS (List.mem_of_getElem? (i := 1) rfl)) (SlC.arg hsr hS (List.mem_of_getElem? (i := 6) rfl))).mono ?_
                rintro e w' ⟨rfl, hBo⟩
                simp only []
                go_step
                have hS := hS.below hBo
                refine ext_end (hS.sub (by repeat (first | exact List.Sublist.refl _ | apply List.Sublist.cons_cons | apply List.Sublist.cons | exact List.nil_sublist _))) ?_
                repeat (first | ((first | ((with_reducible refine m_pure ?_); refine skip_pure rfl rfl ?_) | ((with_reducible refine m_read ?_); refine skip_read rfl rfl ?_)); simp only [Act.put, List.setIfInBounds_toArray, List.set_cons_succ, List.set_cons_zero, Int.toNat_natCast, Int.toNat_zero, Int.toNat_one, nth_zero, nth_one]) | fail | ((with_reducible refine m_pure ?_); refine run_pure rfl rfl (fun K hK => ?_); go_simp; refine hK _ ?_; clear hK K))
                refine sched_nil ?_
                simp only [NoPanic]
                revert hS
                repeat (rename Heap _ _ _ => hZ; clear hZ)
                repeat (rename CellsAt _ _ _ _ => hZ; clear hZ)
                repeat (rename Below _ _ _ => hZ; clear hZ)
                intro hS
                go_wp2_with (fail)
                go_roundw
                case rel => exact ⟨j + 1, by omega, by go_num, (hS.sub (by repeat (first | exact List.Sublist.refl _ | apply List.Sublist.cons_cons | apply List.Sublist.cons | exact List.nil_sublist _)))⟩
                case measure => simp [intOf]; omega
              | some cur =>
                rw [hrun] at hok
                obtain rfl : vb = true := hok
                by_cases hin : 0 ≤ y ∧ y ≤ L.length
                · obtain ⟨v, rfl⟩ : ∃ v : Nat, y = v := ⟨y.toNat, by omega⟩
                  have hvl : v ≤ L.length := by omega
                  obtain ⟨hkk, cells, hcs, hrows⟩ := hru rfl
                  subst hkk
                  obtain ⟨av, cv, curv, hcell, hrv, hgv, hNv⟩ := hrows v hvl
                  have hop1 : ∀ (ra : Option Addr) (rc : Nat) (w : World), GraphAt w (Old w) (.agg #[.slice aw W.length cw, .slice an N.length cn]) W N → SlC w (Old w) 4 (.slice ra L.length rc) L.length (isv L) → Calls Try.prog 32 #[.agg #[.slice aw W.length cw, .slice an N.length cn], .slice ra L.length rc, .int .i64 (v : Nat)] w fun e w' => ∃ ao co, e = .returned (.tuple #[.slice ao W.length co, .int .i64 0]) ∧ Below w.heap.size w w' ∧ Nats w' (New w w') (.slice ao W.length co) (idx curv) := by
                    intro ra rc w h1 h2
                    refine (hop ra rc w h1 h2).mono ?_
                    rintro e w' ⟨hB, ⟨h, _⟩ | ⟨cur, h, _, ⟨h, _⟩ | ⟨c2, ao, co, _, _, h3, rfl, h4⟩⟩⟩
                    · rw [hrun] at h; cases h
                    · omega
                    · rw [Int.toNat_natCast, hrv] at h3
                      cases h3
                      exact ⟨ao, co, rfl, hB, h4⟩
                  have hind : ∀ (w : World), Nats w (Old w) (.slice av W.length cv) curv → Calls Try.prog 16 #[.slice av W.length cv] w fun e w' => ∃ a' c', e = .returned (.slice a' W.length c') ∧ Below w.heap.size w w' ∧ Nats w' (New w w') (.slice a' W.length c') (idx curv) := by
                    intro w h
                    have := indices_any av W.length cv curv w h (by rw [hgv.len]; exact hgv) (by rw [hgv.len]; exact hv.wlen)
                    rw [hgv.len] at this
                    exact this
                  have hcs2 : (cells.drop (((v : Nat) : Int).toNat * 1)).take 1 = [.slice av W.length cv] := by
                    rw [Int.toNat_natCast, Nat.mul_one, List.take_one, List.head?_drop, hcell]; rfl
                  have HOP := Lib.hid hop1
                  have HIND := Lib.hid hind
                  have f3 : decide (((v : Nat) : Int) < 0) = false := by simp
                  have f4 : decide (L.length < v) = false := by simp; omega
                  clear hop hop1 hrun hru hind hrows hcell hrv hin
                  go_wp2_with (fail)
                  refine wp_region_sched [.read 0, .pure 2, .pure 3, .pure 4, .read 5, .pure 7, .pure 8, .pure 9, .read 10, .ext 1, .ext 6, .ext 11, .pure 12, .pure 13, .pure 14, .pure 15, .pure 16] [] (fun w' => Heap w w' _) (by kernel_rfl) (by as_aux_lemma => kernel_rfl) hS.drew (fun w1 hS => ?_)
                  repeat (first | ((first | ((with_reducible refine m_pure ?_); refine skip_pure rfl rfl ?_) | ((with_reducible refine m_read ?_); refine skip_read rfl rfl ?_)); simp only [Act.put, List.setIfInBounds_toArray, List.set_cons_succ, List.set_cons_zero, Int.toNat_natCast, Int.toNat_zero, Int.toNat_one, nth_zero, nth_one]) | ((with_reducible refine m_read ?_); refine sched_of rfl rfl (stp_load_all (T := 25) 2 Try.isAgg25 Try.sizeOf25 rfl rfl rfl ?_); simp only [Act.put, List.setIfInBounds_toArray, List.set_cons_succ, List.set_cons_zero, Int.toNat_natCast, Int.toNat_zero, Int.toNat_one, nth_zero, nth_one]) | ((with_reducible refine m_pure ?_); refine sched_any rfl rfl (any_index_at (T := 60) Try.underlying60 Try.sizeOf39 rfl rfl (by omega) (by omega) ?_); simp only [Act.put, List.setIfInBounds_toArray, List.set_cons_succ, List.set_cons_zero, Int.toNat_natCast, Int.toNat_zero, Int.toNat_one, nth_zero, nth_one]; simp only [Nat.zero_add, Int.toNat_natCast]) | ((with_reducible refine m_read ?_); refine sched_of rfl rfl (stp_load_blk (T := 39) 3 Try.isAgg39 rfl rfl HP.out ?_); simp only [Act.put, List.setIfInBounds_toArray, List.set_cons_succ, List.set_cons_zero, Int.toNat_natCast, Int.toNat_zero, Int.toNat_one, nth_zero, nth_one]) | ((with_reducible refine m_pure ?_); refine sched_any rfl rfl (any_index_at (T := 22) Try.underlying22 Try.sizeOf3 rfl rfl (by omega) (by omega) ?_); simp only [Act.put, List.setIfInBounds_toArray, List.set_cons_succ, List.set_cons_zero, Int.toNat_natCast, Int.toNat_zero, Int.toNat_one, nth_zero, nth_one]; simp only [Nat.zero_add, Int.toNat_natCast]) | ((with_reducible refine m_read ?_); refine sched_of rfl rfl (stp_load_blk (T := 3) 5 Try.isAgg3 rfl rfl HY.out ?_); simp only [Act.put, List.setIfInBounds_toArray, List.set_cons_succ, List.set_cons_zero, Int.toNat_natCast, Int.toNat_zero, Int.toNat_one, nth_zero, nth_one]) | ((with_reducible refine m_pure ?_); refine run_pure rfl rfl (fun K hK => ?_); go_simp; refine hK _ ?_; clear hK K))
                  refine ext_at rfl ?_
                  go_wp2_with (fail)
                  refine (own_any _ _ _ _ (hg.arg hS (List.mem_of_getElem? (i := 1) rfl))).mono ?_
                  rintro e w' ⟨rfl, hB⟩
                  simp only []
                  go_step
                  have hS := hS.below hB
                  refine ext_end hS ?_
                  refine ext_at rfl ?_
                  go_wp2_with (fail)
                  refine (real_any _ _ L _ (SlC.arg hsl hS (List.mem_of_getElem? (i := 1) rfl)) (by omega)).mono ?_
                  rintro e w' ⟨ra, rc, rfl, hBr, hsr⟩
                  simp only []
                  go_step
                  have hS := hS.call hBr
                  simp only [List.cons_append, List.nil_append, List.set_cons_succ, List.set_cons_zero, Value.cells, iv_snoc, tv_snoc] at hS
                  refine ext_end (hS.sub (by repeat (first | exact List.Sublist.refl _ | apply List.Sublist.cons_cons | apply List.Sublist.cons | exact List.nil_sublist _))) ?_
                  refine ext_at rfl ?_
                  go_wp2_with (fail)
                  refine (HOP.out _ _ _ (hg.arg hS (List.mem_of_getElem? (i := 1) rfl)) (SlC.arg hsr hS (List.mem_of_getElem? (i := 6) rfl))).mono ?_
                  rintro e w' ⟨zo, zc, rfl, hBo, hzo⟩
                  simp only []
                  go_step
                  have hS := hS.call hBo
                  simp only [List.cons_append, List.nil_append, List.set_cons_succ, List.set_cons_zero, Value.cells, iv_snoc, tv_snoc] at hS
                  refine ext_end (hS.sub (by repeat (first | exact List.Sublist.refl _ | apply List.Sublist.cons_cons | apply List.Sublist.cons | exact List.nil_sublist _))) ?_
                  repeat (first | ((first | ((with_reducible refine m_pure ?_); refine skip_pure rfl rfl ?_) | ((with_reducible refine m_read ?_); refine skip_read rfl rfl ?_)); simp only [Act.put, List.setIfInBounds_toArray, List.set_cons_succ, List.set_cons_zero, Int.toNat_natCast, Int.toNat_zero, Int.toNat_one, nth_zero, nth_one]) | fail | ((with_reducible refine m_pure ?_); refine run_pure rfl rfl (fun K hK => ?_); go_simp; refine hK _ ?_; clear hK K))
                  refine sched_nil ?_
                  simp only [NoPanic]
                  revert hS
                  repeat (rename Heap _ _ _ => hZ; clear hZ)
                  repeat (rename CellsAt _ _ _ _ => hZ; clear hZ)
                  repeat (rename Below _ _ _ => hZ; clear hZ)
                  intro hS
                  go_wp2_with (fail)
                  refine wp_region_sched [.pure 0, .pure 1, .pure 2, .read 3, .pure 4, .pure 5, .pure 6, .pure 7, .pure 8, .read 9, .pure 10, .pure 11, .pure 12, .read 13, .pure 14, .pure 15, .pure 16, .pure 17] [] (fun w' => Heap w w' _) (by kernel_rfl) (by as_aux_lemma => kernel_rfl) hS.drew (fun w1 hS => ?_)
                  repeat (first | ((first | ((with_reducible refine m_pure ?_); refine skip_pure rfl rfl ?_) | ((with_reducible refine m_read ?_); refine skip_read rfl rfl ?_)); simp only [Act.put, List.setIfInBounds_toArray, List.set_cons_succ, List.set_cons_zero, Int.toNat_natCast, Int.toNat_zero, Int.toNat_one, nth_zero, nth_one]) | ((with_reducible refine m_pure ?_); refine sched_any rfl rfl (any_index_at (T := 22) Try.underlying22 Try.sizeOf3 rfl rfl (by omega) (by omega) ?_); simp only [Act.put, List.setIfInBounds_toArray, List.set_cons_succ, List.set_cons_zero, Int.toNat_natCast, Int.toNat_zero, Int.toNat_one, nth_zero, nth_one]; simp only [Nat.zero_add, Int.toNat_natCast]) | ((with_reducible refine m_read ?_); refine sched_of rfl rfl (stp_load_blk (T := 3) 5 Try.isAgg3 rfl rfl HY.out ?_); simp only [Act.put, List.setIfInBounds_toArray, List.set_cons_succ, List.set_cons_zero, Int.toNat_natCast, Int.toNat_zero, Int.toNat_one, nth_zero, nth_one]) | ((with_reducible refine m_read ?_); refine sched_of rfl rfl (stp_load_all (T := 25) 2 Try.isAgg25 Try.sizeOf25 rfl rfl rfl ?_); simp only [Act.put, List.setIfInBounds_toArray, List.set_cons_succ, List.set_cons_zero, Int.toNat_natCast, Int.toNat_zero, Int.toNat_one, nth_zero, nth_one]) | ((with_reducible refine m_pure ?_); refine sched_any rfl rfl (any_index_at (T := 60) Try.underlying60 Try.sizeOf39 rfl rfl (by omega) (by omega) ?_); simp only [Act.put, List.setIfInBounds_toArray, List.set_cons_succ, List.set_cons_zero, Int.toNat_natCast, Int.toNat_zero, Int.toNat_one, nth_zero, nth_one]; simp only [Nat.zero_add, Int.toNat_natCast]) | ((with_reducible refine m_read ?_); refine sched_of rfl rfl (stp_load_blk (T := 39) 3 Try.isAgg39 rfl rfl HP.out ?_); simp only [Act.put, List.setIfInBounds_toArray, List.set_cons_succ, List.set_cons_zero, Int.toNat_natCast, Int.toNat_zero, Int.toNat_one, nth_zero, nth_one]) | ((with_reducible refine m_pure ?_); refine run_pure rfl rfl (fun K hK => ?_); go_simp; refine hK _ ?_; clear hK K))
                  refine sched_nil ?_
                  simp only [NoPanic]
                  revert hS
                  repeat (rename Heap _ _ _ => hZ; clear hZ)
                  repeat (rename CellsAt _ _ _ _ => hZ; clear hZ)
                  repeat (rename Below _ _ _ => hZ; clear hZ)
                  intro hS
                  go_wp2_with (first | ((with_reducible refine g_idx (T := 22) ?_); refine seq_any rfl (any_index_at (T := 22) Try.underlying22 Try.sizeOf3 rfl rfl (by omega) (by omega) ?_); simp only [Act.put, List.setIfInBounds_toArray, List.set_cons_succ, List.set_cons_zero, Int.toNat_natCast, Int.toNat_zero, Int.toNat_one, nth_zero, nth_one]; simp only [Nat.zero_add, Int.toNat_natCast]) | ((with_reducible refine g_load (T := 3) ?_); refine seq_of hS rfl (stp_load_blk (T := 3) 5 Try.isAgg3 rfl rfl HY.out ?_); simp only [Act.put, List.setIfInBounds_toArray, List.set_cons_succ, List.set_cons_zero, Int.toNat_natCast, Int.toNat_zero, Int.toNat_one, nth_zero, nth_one]) | ((with_reducible refine g_idx (T := 45) ?_); refine seq_any rfl (any_index (T := 45) Try.underlying45 Try.sizeOf22 rfl rfl hcs (by omega) (by omega) (by omega) (fun bq oq hcellq => ?_)); rw [hcs2] at hcellq; simp only [Act.put, List.setIfInBounds_toArray, List.set_cons_succ, List.set_cons_zero, Int.toNat_natCast, Int.toNat_zero, Int.toNat_one, nth_zero, nth_one]) | ((with_reducible refine g_load (T := 22) ?_); refine seq_of hS rfl (stp_load (T := 22) Try.isAgg22 rfl (by with_reducible assumption) (by simp) rfl ?_); simp only [Act.put, List.setIfInBounds_toArray, List.set_cons_succ, List.set_cons_zero, Int.toNat_natCast, Int.toNat_zero, Int.toNat_one, nth_zero, nth_one]) | (go_at_call 16; refine (HIND.out _ (hNv.arg hS (List.mem_of_getElem? (i := 4) rfl))).mono ?_; rintro e wi ⟨ai1, ci1, rfl, hBi, hidx⟩; have hS := hS.call hBi; simp only [List.cons_append, List.nil_append, List.set_cons_succ, List.set_cons_zero, Value.cells, iv_snoc, tv_snoc] at hS) | (go_at_call 18; refine (sameInts_any _ _ _ _ _ _ _ _ _ (hzo.arg hS (List.mem_of_getElem? (i := 7) rfl)) (hidx.arg hS (List.mem_of_getElem? (i := 8) rfl))).mono ?_; rintro e w' ⟨rfl, hBs⟩; have hS := hS.below hBs; rw [decide_eq_true rfl]))
                  go_roundw
                  case rel => exact ⟨j + 1, by omega, by go_num, (hS.sub (by repeat (first | exact List.Sublist.refl _ | apply List.Sublist.cons_cons | apply List.Sublist.cons | exact List.nil_sublist _)))⟩
                  case measure => simp [intOf]; omega
                · have hop1 : ∀ (ra : Option Addr) (rc : Nat) (w : World), GraphAt w (Old w) (.agg #[.slice aw W.length cw, .slice an N.length cn]) W N → SlC w (Old w) 4 (.slice ra L.length rc) L.length (isv L) → Calls Try.prog 32 #[.agg #[.slice aw W.length cw, .slice an N.length cn], .slice ra L.length rc, .int .i64 y] w fun e w' => e = .returned (.tuple #[.slice none 0 0, .int .i64 7]) ∧ Below w.heap.size w w' := by
                    intro ra rc w h1 h2
                    refine (hop ra rc w h1 h2).mono ?_
                    rintro e w' ⟨hB, ⟨h, _⟩ | ⟨cur, h, _, ⟨_, rfl⟩ | ⟨c2, ao, co, h1, h2, _⟩⟩⟩
                    · rw [hrun] at h; cases h
                    · exact ⟨rfl, hB⟩
                    · exact absurd ⟨h1, h2⟩ hin
                  have HOP := Lib.hid hop1
                  have hyc : (decide (y < 0) = true) ∨ (decide (y < 0) = false ∧ decide ((L.length : Int) < y) = true) := by
                    by_cases h : y < 0
                    · left; simpa using h
                    · right; exact ⟨by simpa using h, by simp; omega⟩
                  clear hop hop1 hrun hru hin
                  go_wp2_with (fail)
                  refine wp_region_sched [.read 0, .pure 2, .pure 3, .pure 4, .read 5, .pure 7, .pure 8, .pure 9, .read 10, .ext 1, .ext 6, .ext 11, .pure 12, .pure 13, .pure 14, .pure 15, .pure 16] [] (fun w' => Heap w w' _) (by kernel_rfl) (by as_aux_lemma => kernel_rfl) hS.drew (fun w1 hS => ?_)
                  repeat (first | ((first | ((with_reducible refine m_pure ?_); refine skip_pure rfl rfl ?_) | ((with_reducible refine m_read ?_); refine skip_read rfl rfl ?_)); simp only [Act.put, List.setIfInBounds_toArray, List.set_cons_succ, List.set_cons_zero, Int.toNat_natCast, Int.toNat_zero, Int.toNat_one, nth_zero, nth_one]) | ((with_reducible refine m_read ?_); refine sched_of rfl rfl (stp_load_all (T := 25) 2 Try.isAgg25 Try.sizeOf25 rfl rfl rfl ?_); simp only [Act.put, List.setIfInBounds_toArray, List.set_cons_succ, List.set_cons_zero, Int.toNat_natCast, Int.toNat_zero, Int.toNat_one, nth_zero, nth_one]) | ((with_reducible refine m_pure ?_); refine sched_any rfl rfl (any_index_at (T := 60) Try.underlying60 Try.sizeOf39 rfl rfl (by omega) (by omega) ?_); simp only [Act.put, List.setIfInBounds_toArray, List.set_cons_succ, List.set_cons_zero, Int.toNat_natCast, Int.toNat_zero, Int.toNat_one, nth_zero, nth_one]; simp only [Nat.zero_add, Int.toNat_natCast]) | ((with_reducible refine m_read ?_); refine sched_of rfl rfl (stp_load_blk (T := 39) 3 Try.isAgg39 rfl rfl HP.out ?_); simp only [Act.put, List.setIfInBounds_toArray, List.set_cons_succ, List.set_cons_zero, Int.toNat_natCast, Int.toNat_zero, Int.toNat_one, nth_zero, nth_one]) | ((with_reducible refine m_pure ?_); refine sched_any rfl rfl (any_index_at (T := 22) Try.underlying22 Try.sizeOf3 rfl rfl (by omega) (by omega) ?_); simp only [Act.put, List.setIfInBounds_toArray, List.set_cons_succ, List.set_cons_zero, Int.toNat_natCast, Int.toNat_zero, Int.toNat_one, nth_zero, nth_one]; simp only [Nat.zero_add, Int.toNat_natCast]) | ((with_reducible refine m_read ?_); refine sched_of rfl rfl (stp_load_blk (T := 3) 5 Try.isAgg3 rfl rfl HY.out ?_); simp only [Act.put, List.setIfInBounds_toArray, List.set_cons_succ, List.set_cons_zero, Int.toNat_natCast, Int.toNat_zero, Int.toNat_one, nth_zero, nth_one]) | ((with_reducible refine m_pure ?_); refine run_pure rfl rfl (fun K hK => ?_); go_simp; refine hK _ ?_; clear hK K))
                  refine ext_at rfl ?_
                  go_wp2_with (fail)
                  refine (own_any _ _ _ _ (hg.arg hS (List.mem_of_getElem? (i := 1) rfl))).mono ?_
                  rintro e w' ⟨rfl, hB⟩
                  simp only []
                  go_step
                  have hS := hS.below hB
                  refine ext_end hS ?_
                  refine ext_at rfl ?_
                  go_wp2_with (fail)
                  refine (real_any _ _ L _ (SlC.arg hsl hS (List.mem_of_getElem? (i := 1) rfl)) (by omega)).mono ?_
                  rintro e w' ⟨ra, rc, rfl, hBr, hsr⟩
                  simp only []
                  go_step
                  have hS := hS.call hBr
                  simp only [List.cons_append, List.nil_append, List.set_cons_succ, List.set_cons_zero, Value.cells, iv_snoc, tv_snoc] at hS
                  refine ext_end (hS.sub (by repeat (first | exact List.Sublist.refl _ | apply List.Sublist.cons_cons | apply List.Sublist.cons | exact List.nil_sublist _))) ?_
                  refine ext_at rfl ?_
                  go_wp2_with (fail)
                  refine (HOP.out _ _ _ (hg.arg hS (List.mem_of_getElem? (i := 1) rfl)) (SlC.arg hsr hS (List.mem_of_getElem? (i := 6) rfl))).mono ?_
                  rintro e w' ⟨rfl, hBo⟩
                  simp only []
                  go_step
                  have hS := hS.below hBo
                  refine ext_end (hS.sub (by repeat (first | exact List.Sublist.refl _ | apply List.Sublist.cons_cons | apply List.Sublist.cons | exact List.nil_sublist _))) ?_
                  repeat (first | ((first | ((with_reducible refine m_pure ?_); refine skip_pure rfl rfl ?_) | ((with_reducible refine m_read ?_); refine skip_read rfl rfl ?_)); simp only [Act.put, List.setIfInBounds_toArray, List.set_cons_succ, List.set_cons_zero, Int.toNat_natCast, Int.toNat_zero, Int.toNat_one, nth_zero, nth_one]) | fail | ((with_reducible refine m_pure ?_); refine run_pure rfl rfl (fun K hK => ?_); go_simp; refine hK _ ?_; clear hK K))
                  refine sched_nil ?_
                  simp only [NoPanic]
                  revert hS
                  repeat (rename Heap _ _ _ => hZ; clear hZ)
                  repeat (rename CellsAt _ _ _ _ => hZ; clear hZ)
                  repeat (rename Below _ _ _ => hZ; clear hZ)
                  intro hS
                  go_wp2_with (fail)
                  rcases hyc with f3 | ⟨f3, f4⟩
                  all_goals
                    refine wp_region_sched [.pure 0, .pure 1, .pure 2, .read 3, .pure 4, .pure 5, .pure 6, .pure 7, .pure 8, .read 9, .pure 10, .pure 11, .pure 12, .read 13, .pure 14, .pure 15, .pure 16, .pure 17] [] (fun w' => Heap w w' _) (by kernel_rfl) (by as_aux_lemma => kernel_rfl) hS.drew (fun w1 hS => ?_)
                    repeat (first | ((first | ((with_reducible refine m_pure ?_); refine skip_pure rfl rfl ?_) | ((with_reducible refine m_read ?_); refine skip_read rfl rfl ?_)); simp only [Act.put, List.setIfInBounds_toArray, List.set_cons_succ, List.set_cons_zero, Int.toNat_natCast, Int.toNat_zero, Int.toNat_one, nth_zero, nth_one]) | ((with_reducible refine m_pure ?_); refine sched_any rfl rfl (any_index_at (T := 22) Try.underlying22 Try.sizeOf3 rfl rfl (by omega) (by omega) ?_); simp only [Act.put, List.setIfInBounds_toArray, List.set_cons_succ, List.set_cons_zero, Int.toNat_natCast, Int.toNat_zero, Int.toNat_one, nth_zero, nth_one]; simp only [Nat.zero_add, Int.toNat_natCast]) | ((with_reducible refine m_read ?_); refine sched_of rfl rfl (stp_load_blk (T := 3) 5 Try.isAgg3 rfl rfl HY.out ?_); simp only [Act.put, List.setIfInBounds_toArray, List.set_cons_succ, List.set_cons_zero, Int.toNat_natCast, Int.toNat_zero, Int.toNat_one, nth_zero, nth_one]) | ((with_reducible refine m_read ?_); refine sched_of rfl rfl (stp_load_all (T := 25) 2 Try.isAgg25 Try.sizeOf25 rfl rfl rfl ?_); simp only [Act.put, List.setIfInBounds_toArray, List.set_cons_succ, List.set_cons_zero, Int.toNat_natCast, Int.toNat_zero, Int.toNat_one, nth_zero, nth_one]) | ((with_reducible refine m_pure ?_); refine sched_any rfl rfl (any_index_at (T := 60) Try.underlying60 Try.sizeOf39 rfl rfl (by omega) (by omega) ?_); simp only [Act.put, List.setIfInBounds_toArray, List.set_cons_succ, List.set_cons_zero, Int.toNat_natCast, Int.toNat_zero, Int.toNat_one, nth_zero, nth_one]; simp only [Nat.zero_add, Int.toNat_natCast]) | ((with_reducible refine m_read ?_); refine sched_of rfl rfl (stp_load_blk (T := 39) 3 Try.isAgg39 rfl rfl HP.out ?_); simp only [Act.put, List.setIfInBounds_toArray, List.set_cons_succ, List.set_cons_zero, Int.toNat_natCast, Int.toNat_zero, Int.toNat_one, nth_zero, nth_one]) | ((with_reducible refine m_pure ?_); refine run_pure rfl rfl (fun K hK => ?_); go_simp; refine hK _ ?_; clear hK K))
                    refine sched_nil ?_
                    simp only [NoPanic]
                    go_wp2_with (fail)
                    go_roundw
                    case rel => exact ⟨j + 1, by omega, by go_num, (hS.sub (by repeat (first | exact List.Sublist.refl _ | apply List.Sublist.cons_cons | apply List.Sublist.cons | exact List.nil_sublist _)))⟩
                    case measure => simp [intOf]; omega
            · obtain rfl : j = 6 := by omega
              go_wp2_with (fail)
              go_roundw
              case rel => exact ⟨p + 1, by omega, by go_num, (hS.sub (by repeat (first | exact List.Sublist.refl _ | apply List.Sublist.cons_cons | apply List.Sublist.cons | exact List.nil_sublist _)))⟩
              case measure => simp [intOf]; omega
    · obtain rfl : p = 3 := by omega
      go_wp2_with (first | (go_at_call 23; refine (lives_any _).mono ?_; rintro e w' ⟨rfl, hB⟩; have hS := hS.below hB))
      go_ret
      exact ⟨rfl, hS.toBelow (by simp)⟩
end Go.Proofs.Ytdibpfbibgicaaa
