/- C7: strip.Open, whole. -/
import Derived.Test.YtdibpfbibgicaaaC6
set_option linter.unusedVariables false
set_option linter.unusedSimpArgs false
namespace Go.Proofs.Ytdibpfbibgicaaa
open Go.RowKit Go.Hp

/-- What Open answers for a valid graph. -/
def OpenPost (w : World) (W : List Int) (L : List IS) (n : Int) (e : Ending) (w' : World) : Prop :=
  Below w.heap.size w w' ∧
      ((runI (List.range W.length) L = none ∧ e = .returned (.tuple #[.slice none 0 0, .int .i64 1])) ∨
       (∃ cur, runI (List.range W.length) L = some cur ∧ Gr W.length cur ∧
         ((¬ (0 ≤ n ∧ n ≤ L.length) ∧ e = .returned (.tuple #[.slice none 0 0, .int .i64 7])) ∨
          (∃ c2 ao co, 0 ≤ n ∧ n ≤ L.length ∧ runI (List.range W.length) (L.take n.toNat) = some c2 ∧ e = .returned (.tuple #[.slice ao W.length co, .int .i64 0]) ∧ Nats w' (New w w') (.slice ao W.length co) (idx c2)))))

set_option maxHeartbeats 4000000 in
set_option maxRecDepth 100000 in
theorem open_ok (gv : Value) (al : Option Addr) (cl : Nat) (n : Int) (L : List IS) (W : List Int) (N : List Tri) (w : World) (hg : GraphAt w (Old w) gv W N) (hv : VG W N) (hL : SlC w (Old w) 4 (.slice al L.length cl) L.length (isv L)) (hI : ∀ s ∈ L, InIS s) (hlen : L.length ≤ 1000000) (hn : InI n) :
    Calls Try.prog 32 #[gv, .slice al L.length cl, .int .i64 n] w (OpenPost w W L n) := by
  have hg' := hg
  obtain ⟨aw, cw, an, cn, rfl, hw, hnn⟩ := hg'
  have hS := Heap.start w
  have hle := hv.wlen
  have hst := StOk.start hv
  have HV0 := Lib.hid (valid_of_VG hv)
  generalize hllE : lenTo N N.length = ll at hst
  generalize hlwE : lwTo W W.length = lw at hst
  have HLL := Lib.hid hllE
  have HLW := Lib.hid hlwE
  clear hllE hlwE
  go_enter Try.func32, Try.ntmps32
  go_wp2_with (first | ((with_reducible refine g_box (T := 34) ?_); refine seq_box (T := 34) (v := .agg _) hS rfl (fun b3 wb3 hS => ?_); simp only [Act.put, List.setIfInBounds_toArray, List.set_cons_succ, List.set_cons_zero, Int.toNat_natCast, Int.toNat_zero, Int.toNat_one, nth_zero, nth_one]; simp only [List.cons_append, List.nil_append, List.set_cons_succ, List.set_cons_zero, Value.cells, iv_snoc, tv_snoc] at hS) | ((with_reducible refine g_box (T := 3) ?_); refine seq_box (T := 3) (v := .int .i64 n) hS rfl (fun b5 wb5 hS => ?_); simp only [Act.put, List.setIfInBounds_toArray, List.set_cons_succ, List.set_cons_zero, Int.toNat_natCast, Int.toNat_zero, Int.toNat_one, nth_zero, nth_one]; simp only [List.cons_append, List.nil_append, List.set_cons_succ, List.set_cons_zero, Value.cells, iv_snoc, tv_snoc] at hS) | ((with_reducible refine g_load (T := 34) ?_); refine seq_of hS rfl (stp_load_all (T := 34) 1 Try.isAgg34 Try.sizeOf34 rfl rfl rfl ?_); simp only [Act.put, List.setIfInBounds_toArray, List.set_cons_succ, List.set_cons_zero, Int.toNat_natCast, Int.toNat_zero, Int.toNat_one, nth_zero, nth_one]) | (go_at_call 24; refine (rvalid_any _ _ _ _ (hg.arg hS (by simp))).mono ?_; rintro e w' ⟨rfl, hB⟩; have hS := hS.below hB; rw [HV0.out]) | (go_at_call 36; refine (salone_any _ _ _ _ (hg.arg hS (by simp)) hv).mono ?_; rintro e wa ⟨a1, c1, bw, bl, bs, ow, ol, rfl, hmw, hml, hSa⟩; have hS := hS.import hSa; simp only [stH] at hS; simp only [List.cons_append, List.nil_append, List.set_cons_succ, List.set_cons_zero, Value.cells, iv_snoc, tv_snoc] at hS) | ((with_reducible refine g_alloc (T := 3) ?_); refine seq_alloc (T := 3) hS Try.zeroValue3 (fun b9 wb9 hS => ?_); simp only [Act.put, List.setIfInBounds_toArray, List.set_cons_succ, List.set_cons_zero, Int.toNat_natCast, Int.toNat_zero, Int.toNat_one, nth_zero, nth_one]; simp only [List.cons_append, List.nil_append, List.set_cons_succ, List.set_cons_zero, Value.cells, iv_snoc, tv_snoc] at hS) | ((with_reducible refine g_store (T := 3) ?_); refine seq_store (T := 3) (u := .int .i64 0) 3 hS rfl rfl rfl Try.sizeOf3 (by simp [Value.cells, Value.oneCell']) (by simp [Value.cells]) (fun _ hS => ?_); simp only [Act.put, List.setIfInBounds_toArray, List.set_cons_succ, List.set_cons_zero, Int.toNat_natCast, Int.toNat_zero, Int.toNat_one, nth_zero, nth_one]; simp only [List.cons_append, List.nil_append, List.set_cons_succ, List.set_cons_zero, Value.cells, iv_snoc, tv_snoc] at hS; simp only [List.take_zero, List.nil_append, List.append_nil, List.drop_succ_cons, List.drop_zero, List.drop_nil, List.take_succ_cons, List.cons_append, List.size_toArray, List.length_cons, List.length_nil, Nat.reduceAdd] at hS) | ((with_reducible refine g_alloc (T := 77) ?_); refine seq_alloc (T := 77) hS Try.zeroValue77 (fun b10 wb10 hS => ?_); simp only [Act.put, List.setIfInBounds_toArray, List.set_cons_succ, List.set_cons_zero, Int.toNat_natCast, Int.toNat_zero, Int.toNat_one, nth_zero, nth_one]; simp only [List.cons_append, List.nil_append, List.set_cons_succ, List.set_cons_zero, Value.cells, iv_snoc, tv_snoc] at hS) | ((with_reducible refine g_store (T := 77) ?_); refine seq_store (T := 77) (u := .pointer _) 8 hS rfl rfl rfl Try.sizeOf77 (by simp [Value.cells, Value.oneCell']) (by simp [Value.cells]) (fun _ hS => ?_); simp only [Act.put, List.setIfInBounds_toArray, List.set_cons_succ, List.set_cons_zero, Int.toNat_natCast, Int.toNat_zero, Int.toNat_one, nth_zero, nth_one]; simp only [List.cons_append, List.nil_append, List.set_cons_succ, List.set_cons_zero, Value.cells, iv_snoc, tv_snoc] at hS; simp only [List.take_zero, List.nil_append, List.append_nil, List.drop_succ_cons, List.drop_zero, List.drop_nil, List.take_succ_cons, List.cons_append, List.size_toArray, List.length_cons, List.length_nil, Nat.reduceAdd] at hS) | ((with_reducible refine g_alloc (T := 22) ?_); refine seq_alloc (T := 22) hS Try.zeroValue22 (fun b11 wb11 hS => ?_); simp only [Act.put, List.setIfInBounds_toArray, List.set_cons_succ, List.set_cons_zero, Int.toNat_natCast, Int.toNat_zero, Int.toNat_one, nth_zero, nth_one]; simp only [List.cons_append, List.nil_append, List.set_cons_succ, List.set_cons_zero, Value.cells, iv_snoc, tv_snoc] at hS) | ((with_reducible refine g_load (T := 77) ?_); refine seq_of hS rfl (stp_load_blk (T := 77) 8 Try.isAgg77 rfl rfl rfl ?_); simp only [Act.put, List.setIfInBounds_toArray, List.set_cons_succ, List.set_cons_zero, Int.toNat_natCast, Int.toNat_zero, Int.toNat_one, nth_zero, nth_one]))
  rw [HLL.out] at hml
  rw [HLW.out] at hmw
  have hO : Heap w _ ((.frz (Old w) w :: [.blk b3 (.cells #[.slice aw W.length cw, .slice an N.length cn] 34 (0, 0))]) ++ ([.blk b9 (.cells #[.int .i64 0] 3 (0, 0)), .blk b5 (.cells #[.int .i64 n] 3 (0, 0)), .blk b10 (.cells #[.pointer (some ⟨bs, 0, none⟩)] 77 (0, 0)), .blk b11 (.cells #[.slice none 0 0] 22 (0, 0))] ++ stH a1 W.length c1 bw bl bs (List.range W.length) ow ol)) := hS.order [0, 1, 3, 2, 8, 9, 4, 5, 6, 7] rfl
  refine (run_any 54 #[.pointer (some ⟨b9, 0, none⟩), .pointer (some ⟨b5, 0, none⟩), .pointer (some ⟨b10, 0, none⟩), .pointer (some ⟨b11, 0, none⟩)] (enters_of Try.func54 (by kernel_rfl) rfl) (opnNX W.length n bs b9 b5 b10 b11) _ al a1 cl c1 bw bl bs L W N _ ow ol lw ll _ hO.split ⟨.slice none 0 0, [], rfl, .inl ⟨by simp, rfl, rfl⟩⟩ hmw hml hst hv (hL.rest hO) hI
    (fun p s X cur bl ow ol lw ll S w h1 h2 h3 h4 h5 h6 h7 h8 h9 => opnNote a1 c1 bw bs b9 b5 b10 b11 n W N L.length hlen hv p s X cur bl ow ol lw ll S w h1 h2 h4 h8 h9)).mono ?_
  rintro e w' (⟨hr, rfl, hS'⟩ | ⟨cur, X, bl', ow', ol', lw', ll', hr, rfl, hX, hmw', hml', hst', hgr', hS'⟩)
  · have hS := hO.unsplit hS'
    have HR := Lib.hid hr
    clear hr
    simp only []
    go_step
    go_wp2
    exact bodyPost_ret (results_tmp2 rfl _ _ _) rfl ⟨hS.toBelow (by simp), .inl ⟨HR.out, rfl⟩⟩
  · obtain ⟨ov, rest, rfl, hor⟩ := hX
    have hS := hO.unsplit hS'
    have HR := Lib.hid hr
    clear hr hS'
    by_cases h1 : n < 0
    · have f1 : decide (n < 0) = true := by simpa using h1
      have hS2 : Heap w w' ([_, _, _, _, _, _] ++ _) := hS
      have hS := hS2.sub (List.sublist_append_left _ _)
      simp only []
      go_step
      go_wp2_with (first | ((with_reducible refine g_load (T := 3) ?_); refine seq_of hS rfl (stp_load_blk (T := 3) 3 Try.isAgg3 rfl rfl rfl ?_); simp only [Act.put, List.setIfInBounds_toArray, List.set_cons_succ, List.set_cons_zero, Int.toNat_natCast, Int.toNat_zero, Int.toNat_one, nth_zero, nth_one]))
      exact bodyPost_ret (results_tmp2 rfl _ _ _) rfl ⟨hS.toBelow (by simp), .inr ⟨cur, HR.out, hgr', .inl ⟨by omega, rfl⟩⟩⟩
    · have f1 : decide (n < 0) = false := by simp; omega
      by_cases h2 : (L.length : Int) < n
      · have f2 : decide ((L.length : Int) < n) = true := by simpa using h2
        have hS2 : Heap w w' ([_, _, _, _, _, _] ++ _) := hS
        have hS := hS2.sub (List.sublist_append_left _ _)
        simp only []
        go_step
        go_wp2_with (first | ((with_reducible refine g_load (T := 3) ?_); refine seq_of hS rfl (stp_load_blk (T := 3) 3 Try.isAgg3 rfl rfl rfl ?_); simp only [Act.put, List.setIfInBounds_toArray, List.set_cons_succ, List.set_cons_zero, Int.toNat_natCast, Int.toNat_zero, Int.toNat_one, nth_zero, nth_one]))
        exact bodyPost_ret (results_tmp2 rfl _ _ _) rfl ⟨hS.toBelow (by simp), .inr ⟨cur, HR.out, hgr', .inl ⟨by omega, rfl⟩⟩⟩
      · have f2 : decide ((L.length : Int) < n) = false := by simp; omega
        have hcl := hgr'.len
        have hri := rank_idx hgr'
        have hcle : cur.length ≤ 4096 := by omega
        have hcb : ∀ x ∈ cur, x ≤ 9223372036854775807 := fun x hx => by
          obtain ⟨i, hi, rfl⟩ := List.mem_iff_getElem.1 hx
          have := hgr'.le i (by omega)
          rw [nth_eq 0 _ _ hi] at this
          omega
        have HRI := Lib.hid hri
        have HCL := Lib.hid hcl
        clear hri hcl
        by_cases h3 : n = L.length
        · have f3 : (n == (L.length : Int)) = true := by simp [h3]
          have H3 := Lib.hid h3
          clear h3
          rcases hor with ⟨_, rfl, rfl⟩ | ⟨cu, S, w2, ao, co, hn0, hn1, _⟩
          · simp only [stH, List.cons_append, List.nil_append, List.append_nil] at hS
            simp only []
            go_step
            go_wp2_with (first | ((with_reducible refine g_load (T := 3) ?_); refine seq_of hS rfl (stp_load_blk (T := 3) 3 Try.isAgg3 rfl rfl rfl ?_); simp only [Act.put, List.setIfInBounds_toArray, List.set_cons_succ, List.set_cons_zero, Int.toNat_natCast, Int.toNat_zero, Int.toNat_one, nth_zero, nth_one]) | ((with_reducible refine g_load (T := 77) ?_); refine seq_of hS rfl (stp_load_blk (T := 77) 4 Try.isAgg77 rfl rfl rfl ?_); simp only [Act.put, List.setIfInBounds_toArray, List.set_cons_succ, List.set_cons_zero, Int.toNat_natCast, Int.toNat_zero, Int.toNat_one, nth_zero, nth_one]) | (go_at_call 40; refine (sindices_any _ _ _ _ _ _ _ _ (hS.fz 9 rfl) (Heap.rowB hS 6 rfl) (hS.rowNats 6 rfl hcb) hcle).mono ?_; rintro e w' ⟨ai, ci, rfl, hB, hNx⟩; have hS := hS.call hB; rw [HRI.out] at hNx; rw [HCL.out] at hNx ⊢; simp only [List.cons_append, List.nil_append, List.set_cons_succ, List.set_cons_zero, Value.cells, iv_snoc, tv_snoc] at hS))
            refine bodyPost_ret (results_tmp2 rfl _ _ _) rfl ⟨hS.toBelow (by simp), .inr ⟨cur, HR.out, hgr', .inr ⟨cur, ai, ci, by omega, by omega, ?_, rfl, hNx.weaken (hS.isNew (List.mem_of_getElem? (i := 9) rfl))⟩⟩⟩
            rw [H3.out, Int.toNat_natCast, List.take_length]
            exact HR.out
          · have := H3.out
            omega
        · have f3 : (n == (L.length : Int)) = false := by simp; omega
          rcases hor with ⟨hno, _⟩ | ⟨cu, S, w2, ao, co, hn0, hn1, hr2, rfl, rfl, hNx⟩
          · omega
          · have HR2 := Lib.hid hr2
            clear hr2
            simp only [stH, List.cons_append, List.nil_append, List.append_nil] at hS
            simp only []
            go_step
            go_wp2_with (first | ((with_reducible refine g_load (T := 3) ?_); refine seq_of hS rfl (stp_load_blk (T := 3) 3 Try.isAgg3 rfl rfl rfl ?_); simp only [Act.put, List.setIfInBounds_toArray, List.set_cons_succ, List.set_cons_zero, Int.toNat_natCast, Int.toNat_zero, Int.toNat_one, nth_zero, nth_one]) | ((with_reducible refine g_load (T := 22) ?_); refine seq_of hS rfl (stp_load_blk (T := 22) 5 Try.isAgg22 rfl rfl rfl ?_); simp only [Act.put, List.setIfInBounds_toArray, List.set_cons_succ, List.set_cons_zero, Int.toNat_natCast, Int.toNat_zero, Int.toNat_one, nth_zero, nth_one]))
            exact bodyPost_ret (results_tmp2 rfl _ _ _) rfl ⟨hS.toBelow (by simp), .inr ⟨cur, HR.out, hgr', .inr ⟨cu, ao, co, by omega, by omega, HR2.out, rfl, (hNx.later hS (List.mem_of_getElem? (i := 6) rfl)).weaken (hS.isNew (List.mem_of_getElem? (i := 5) rfl))⟩⟩⟩
end Go.Proofs.Ytdibpfbibgicaaa
