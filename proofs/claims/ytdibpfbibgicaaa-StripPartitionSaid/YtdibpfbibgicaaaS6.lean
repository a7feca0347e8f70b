/- S6: the law StripPartition, walked. -/
import Derived.Test.YtdibpfbibgicaaaS4
import Derived.Test.YtdibpfbibgicaaaP5
set_option linter.unusedVariables false
set_option linter.unusedSimpArgs false
namespace Go.Proofs.Ytdibpfbibgicaaa
open Go.RowKit Go.Hp

set_option maxHeartbeats 8000000 in
set_option maxRecDepth 100000 in
theorem partition_walk (a : Option Addr) (n c : Nat) (xs : List Int) (z : Int) (w : World) (hx : Ints w (Old w) (.slice a n c) xs) (hz : InI z) :
    Calls Try.prog 4 #[.slice a n c, .int .i64 z] w fun e w' => e = .returned (.bool true) ∧ Below w.heap.size w w' := by
  have hS := Heap.start w
  have ha := aro_lt z (most := 20) (by omega)
  go_enter Try.func4, Try.ntmps4
  go_wp2_with (fail)
  refine (some_any _ _ _ 10 _ _ (hx.arg hS (by simp)) (by omega) (by omega)).mono ?_
  rintro e w1 ⟨gv, W, N, rfl, hB1, hg, hG⟩
  have hv := hG.vg (by omega)
  have hle := hv.wlen
  have hS := hS.call hB1
  simp only [List.cons_append, List.nil_append, List.set_cons_succ, List.set_cons_zero, Value.cells, iv_snoc, tv_snoc] at hS
  simp only []
  go_step
  go_wp2_with (fail)
  refine (own_any _ _ _ _ (hg.arg hS (List.mem_of_getElem? (i := 1) rfl))).mono ?_
  rintro e w2 ⟨rfl, hB⟩
  have hS := hS.below hB
  obtain ⟨aw, cw, an, cn, rfl, hw, hnn⟩ := hg
  have hg : GraphAt w1 (New w w1) (.agg #[.slice aw W.length cw, .slice an N.length cn]) W N := ⟨aw, cw, an, cn, rfl, hw, hnn⟩
  simp only []
  go_step
  go_wp2_with (first | ((with_reducible refine g_alloc (T := 34) ?_); refine seq_alloc (T := 34) hS Try.zeroValue34 (fun b5 wb5 hS => ?_); simp only [Act.put, List.setIfInBounds_toArray, List.set_cons_succ, List.set_cons_zero, Int.toNat_natCast, Int.toNat_zero, Int.toNat_one, nth_zero, nth_one]; simp only [List.cons_append, List.nil_append, List.set_cons_succ, List.set_cons_zero, Value.cells, iv_snoc, tv_snoc] at hS) | ((with_reducible refine g_store (T := 34) ?_); refine seq_store (T := 34) (u := .agg #[.slice _ _ _, .slice _ _ _]) 2 hS rfl rfl rfl Try.sizeOf34 (by simp [Value.cells, Value.oneCell']) (by simp [Value.cells]) (fun _ hS => ?_); simp only [Act.put, List.setIfInBounds_toArray, List.set_cons_succ, List.set_cons_zero, Int.toNat_natCast, Int.toNat_zero, Int.toNat_one, nth_zero, nth_one]; simp only [List.cons_append, List.nil_append, List.set_cons_succ, List.set_cons_zero, Value.cells, iv_snoc, tv_snoc] at hS; simp only [List.take_zero, List.nil_append, List.append_nil, List.drop_succ_cons, List.drop_zero, List.drop_nil, List.take_succ_cons, List.cons_append, List.size_toArray, List.length_cons, List.length_nil, Nat.reduceAdd] at hS))
  apply wp_region_col (.fork [.read 0, .pure 1] 2 (.fork [.pure 3] 4 (.line [.pure 5, .pure 6, .pure 7, .pure 8, .pure 9, .ext 10, .pure 11, .mutt 12, .pure 13, .pure 14]) 10 (.line [.ext 4, .pure 5, .pure 6, .pure 7, .pure 8, .pure 9, .pure 11, .mutt 12, .pure 13, .pure 14])) 10 (.line [.ext 2, .pure 3, .ext 4, .pure 5, .pure 6, .pure 7, .pure 8, .pure 9, .pure 11, .mutt 12, .pure 13, .pure 14])) [12] (fun w' => Heap w w' _) (by kernel_rfl) (by kernel_rfl) hS.drew (ColF W N (1 + aro z 20) w w1 (New w w1) b5 aw cw an cn)
  case h =>
    intro hR w3 hS
    refine tr_fork ?_
    repeat (first | ((first | ((with_reducible refine m_pure ?_); refine skip_pure rfl rfl ?_) | ((with_reducible refine m_read ?_); refine skip_read rfl rfl ?_)); simp only [Act.put, List.setIfInBounds_toArray, List.set_cons_succ, List.set_cons_zero, Int.toNat_natCast, Int.toNat_zero, Int.toNat_one, nth_zero, nth_one]) | ((with_reducible refine m_read ?_); refine sched_of rfl rfl (stp_load_all (T := 34) 2 Try.isAgg34 Try.sizeOf34 rfl rfl rfl ?_); simp only [Act.put, List.setIfInBounds_toArray, List.set_cons_succ, List.set_cons_zero, Int.toNat_natCast, Int.toNat_zero, Int.toNat_one, nth_zero, nth_one]) | ((with_reducible refine m_pure ?_); refine run_pure rfl rfl (fun K hK => ?_); go_simp; refine hK _ ?_; clear hK K))
    refine sched_nil ?_
    simp only [NoPanic, WithK]
    refine ⟨?_, ?_⟩
    · refine fork_op rfl ?_
      go_wp2_with (fail)
      refine (around_any _ _ _ (by omega) (by omega) hz).mono ?_
      rintro e w' ⟨rfl, rfl⟩
      simp only []
      go_step
      refine ext_end hS ?_
      refine tr_fork ?_
      repeat (first | ((first | ((with_reducible refine m_pure ?_); refine skip_pure rfl rfl ?_) | ((with_reducible refine m_read ?_); refine skip_read rfl rfl ?_)); simp only [Act.put, List.setIfInBounds_toArray, List.set_cons_succ, List.set_cons_zero, Int.toNat_natCast, Int.toNat_zero, Int.toNat_one, nth_zero, nth_one]) | fail | ((with_reducible refine m_pure ?_); refine run_pure rfl rfl (fun K hK => ?_); go_simp; refine hK _ ?_; clear hK K))
      refine sched_nil ?_
      simp only [NoPanic, WithK]
      refine ⟨?_, ?_⟩
      · refine fork_op rfl ?_
        go_wp2_with (fail)
        refine (collapse_some _ _ W N 10 _ (hg.arg hS (List.mem_of_getElem? (i := 1) rfl)) hG (by omega) ⟨by omega, by omega⟩).mono ?_
        rintro e w' ⟨hB4, l, ao, co, gw, gcw, gn, gcn, ai, ci, rfl, hcol, hs, hgw, hgn, hgi⟩
        simp only []
        go_step
        have hS := hS.call hB4
        simp only [List.cons_append, List.nil_append, List.set_cons_succ, List.set_cons_zero, Value.cells, iv_snoc, tv_snoc] at hS
        refine ext_end (hS.sub (by repeat (first | exact List.Sublist.refl _ | apply List.Sublist.cons_cons | apply List.Sublist.cons | exact List.nil_sublist _))) ?_
        refine tr_line ?_
        repeat (first | ((first | ((with_reducible refine m_pure ?_); refine skip_pure rfl rfl ?_) | ((with_reducible refine m_read ?_); refine skip_read rfl rfl ?_)); simp only [Act.put, List.setIfInBounds_toArray, List.set_cons_succ, List.set_cons_zero, Int.toNat_natCast, Int.toNat_zero, Int.toNat_one, nth_zero, nth_one]) | fail | ((with_reducible refine m_pure ?_); refine run_pure rfl rfl (fun K hK => ?_); go_simp; refine hK _ ?_; clear hK K))
        refine ext_at rfl ?_
        ((with_reducible refine g_alloc (T := 34) ?_); refine seq_alloc (T := 34) hS Try.zeroValue34 (fun b7 wb7 hS => ?_); simp only [Act.put, List.setIfInBounds_toArray, List.set_cons_succ, List.set_cons_zero, Int.toNat_natCast, Int.toNat_zero, Int.toNat_one, nth_zero, nth_one]; simp only [List.cons_append, List.nil_append, List.set_cons_succ, List.set_cons_zero, Value.cells, iv_snoc, tv_snoc] at hS)
        refine ext_end (hS.sub (by repeat (first | exact List.Sublist.refl _ | apply List.Sublist.cons_cons | apply List.Sublist.cons | exact List.nil_sublist _))) ?_
        repeat (first | ((first | ((with_reducible refine m_pure ?_); refine skip_pure rfl rfl ?_) | ((with_reducible refine m_read ?_); refine skip_read rfl rfl ?_)); simp only [Act.put, List.setIfInBounds_toArray, List.set_cons_succ, List.set_cons_zero, Int.toNat_natCast, Int.toNat_zero, Int.toNat_one, nth_zero, nth_one]) | fail | ((with_reducible refine m_pure ?_); refine run_pure rfl rfl (fun K hK => ?_); go_simp; refine hK _ ?_; clear hK K))
        refine mut_at rfl ?_
        ((with_reducible refine g_store (T := 34) ?_); refine seq_store (T := 34) (u := .agg #[.slice _ _ _, .slice _ _ _]) 4 hS rfl rfl rfl Try.sizeOf34 (by simp [Value.cells, Value.oneCell']) (by simp [Value.cells]) (fun _ hS => ?_); simp only [Act.put, List.setIfInBounds_toArray, List.set_cons_succ, List.set_cons_zero, Int.toNat_natCast, Int.toNat_zero, Int.toNat_one, nth_zero, nth_one]; simp only [List.cons_append, List.nil_append, List.set_cons_succ, List.set_cons_zero, Value.cells, iv_snoc, tv_snoc] at hS; simp only [List.take_zero, List.nil_append, List.append_nil, List.drop_succ_cons, List.drop_zero, List.drop_nil, List.take_succ_cons, List.cons_append, List.size_toArray, List.length_cons, List.length_nil, Nat.reduceAdd] at hS)
        refine mut_end ?_
        repeat (first | ((first | ((with_reducible refine m_pure ?_); refine skip_pure rfl rfl ?_) | ((with_reducible refine m_read ?_); refine skip_read rfl rfl ?_)); simp only [Act.put, List.setIfInBounds_toArray, List.set_cons_succ, List.set_cons_zero, Int.toNat_natCast, Int.toNat_zero, Int.toNat_one, nth_zero, nth_one]) | fail | ((with_reducible refine m_pure ?_); refine run_pure rfl rfl (fun K hK => ?_); go_simp; refine hK _ ?_; clear hK K))
        refine sched_nil ?_
        simp only [NoPanic]
        exact hR b7 ao co gw gcw gn gcn ai ci l _ ⟨hcol, _, _, hs, hgw, hgn, hgi, hS⟩
      · refine fork_op rfl ?_
        ((with_reducible refine g_alloc (T := 34) ?_); refine seq_alloc (T := 34) hS Try.zeroValue34 (fun b7 wb7 hS => ?_); simp only [Act.put, List.setIfInBounds_toArray, List.set_cons_succ, List.set_cons_zero, Int.toNat_natCast, Int.toNat_zero, Int.toNat_one, nth_zero, nth_one]; simp only [List.cons_append, List.nil_append, List.set_cons_succ, List.set_cons_zero, Value.cells, iv_snoc, tv_snoc] at hS)
        refine ext_end (hS.sub (by repeat (first | exact List.Sublist.refl _ | apply List.Sublist.cons_cons | apply List.Sublist.cons | exact List.nil_sublist _))) ?_
        refine tr_line ?_
        refine ext_at rfl ?_
        go_wp2_with (fail)
        refine (collapse_some _ _ W N 10 _ (hg.arg hS (List.mem_of_getElem? (i := 1) rfl)) hG (by omega) ⟨by omega, by omega⟩).mono ?_
        rintro e w' ⟨hB4, l, ao, co, gw, gcw, gn, gcn, ai, ci, rfl, hcol, hs, hgw, hgn, hgi⟩
        simp only []
        go_step
        have hS := hS.call hB4
        simp only [List.cons_append, List.nil_append, List.set_cons_succ, List.set_cons_zero, Value.cells, iv_snoc, tv_snoc] at hS
        refine ext_end (hS.sub (by repeat (first | exact List.Sublist.refl _ | apply List.Sublist.cons_cons | apply List.Sublist.cons | exact List.nil_sublist _))) ?_
        repeat (first | ((first | ((with_reducible refine m_pure ?_); refine skip_pure rfl rfl ?_) | ((with_reducible refine m_read ?_); refine skip_read rfl rfl ?_)); simp only [Act.put, List.setIfInBounds_toArray, List.set_cons_succ, List.set_cons_zero, Int.toNat_natCast, Int.toNat_zero, Int.toNat_one, nth_zero, nth_one]) | fail | ((with_reducible refine m_pure ?_); refine run_pure rfl rfl (fun K hK => ?_); go_simp; refine hK _ ?_; clear hK K))
        refine mut_at rfl ?_
        ((with_reducible refine g_store (T := 34) ?_); refine seq_store (T := 34) (u := .agg #[.slice _ _ _, .slice _ _ _]) 3 hS rfl rfl rfl Try.sizeOf34 (by simp [Value.cells, Value.oneCell']) (by simp [Value.cells]) (fun _ hS => ?_); simp only [Act.put, List.setIfInBounds_toArray, List.set_cons_succ, List.set_cons_zero, Int.toNat_natCast, Int.toNat_zero, Int.toNat_one, nth_zero, nth_one]; simp only [List.cons_append, List.nil_append, List.set_cons_succ, List.set_cons_zero, Value.cells, iv_snoc, tv_snoc] at hS; simp only [List.take_zero, List.nil_append, List.append_nil, List.drop_succ_cons, List.drop_zero, List.drop_nil, List.take_succ_cons, List.cons_append, List.size_toArray, List.length_cons, List.length_nil, Nat.reduceAdd] at hS)
        refine mut_end ?_
        repeat (first | ((first | ((with_reducible refine m_pure ?_); refine skip_pure rfl rfl ?_) | ((with_reducible refine m_read ?_); refine skip_read rfl rfl ?_)); simp only [Act.put, List.setIfInBounds_toArray, List.set_cons_succ, List.set_cons_zero, Int.toNat_natCast, Int.toNat_zero, Int.toNat_one, nth_zero, nth_one]) | fail | ((with_reducible refine m_pure ?_); refine run_pure rfl rfl (fun K hK => ?_); go_simp; refine hK _ ?_; clear hK K))
        refine sched_nil ?_
        simp only [NoPanic]
        exact hR b7 ao co gw gcw gn gcn ai ci l _ ⟨hcol, _, _, hs, hgw, hgn, hgi, hS.order [0, 1, 2, 4, 3] rfl⟩
    · refine fork_op rfl ?_
      ((with_reducible refine g_alloc (T := 34) ?_); refine seq_alloc (T := 34) hS Try.zeroValue34 (fun b7 wb7 hS => ?_); simp only [Act.put, List.setIfInBounds_toArray, List.set_cons_succ, List.set_cons_zero, Int.toNat_natCast, Int.toNat_zero, Int.toNat_one, nth_zero, nth_one]; simp only [List.cons_append, List.nil_append, List.set_cons_succ, List.set_cons_zero, Value.cells, iv_snoc, tv_snoc] at hS)
      refine ext_end (hS.sub (by repeat (first | exact List.Sublist.refl _ | apply List.Sublist.cons_cons | apply List.Sublist.cons | exact List.nil_sublist _))) ?_
      refine tr_line ?_
      refine ext_at rfl ?_
      go_wp2_with (fail)
      refine (around_any _ _ _ (by omega) (by omega) hz).mono ?_
      rintro e w' ⟨rfl, rfl⟩
      simp only []
      go_step
      refine ext_end (hS.sub (by repeat (first | exact List.Sublist.refl _ | apply List.Sublist.cons_cons | apply List.Sublist.cons | exact List.nil_sublist _))) ?_
      repeat (first | ((first | ((with_reducible refine m_pure ?_); refine skip_pure rfl rfl ?_) | ((with_reducible refine m_read ?_); refine skip_read rfl rfl ?_)); simp only [Act.put, List.setIfInBounds_toArray, List.set_cons_succ, List.set_cons_zero, Int.toNat_natCast, Int.toNat_zero, Int.toNat_one, nth_zero, nth_one]) | fail | ((with_reducible refine m_pure ?_); refine run_pure rfl rfl (fun K hK => ?_); go_simp; refine hK _ ?_; clear hK K))
      refine ext_at rfl ?_
      go_wp2_with (fail)
      refine (collapse_some _ _ W N 10 _ (hg.arg hS (List.mem_of_getElem? (i := 1) rfl)) hG (by omega) ⟨by omega, by omega⟩).mono ?_
      rintro e w' ⟨hB4, l, ao, co, gw, gcw, gn, gcn, ai, ci, rfl, hcol, hs, hgw, hgn, hgi⟩
      simp only []
      go_step
      have hS := hS.call hB4
      simp only [List.cons_append, List.nil_append, List.set_cons_succ, List.set_cons_zero, Value.cells, iv_snoc, tv_snoc] at hS
      refine ext_end (hS.sub (by repeat (first | exact List.Sublist.refl _ | apply List.Sublist.cons_cons | apply List.Sublist.cons | exact List.nil_sublist _))) ?_
      repeat (first | ((first | ((with_reducible refine m_pure ?_); refine skip_pure rfl rfl ?_) | ((with_reducible refine m_read ?_); refine skip_read rfl rfl ?_)); simp only [Act.put, List.setIfInBounds_toArray, List.set_cons_succ, List.set_cons_zero, Int.toNat_natCast, Int.toNat_zero, Int.toNat_one, nth_zero, nth_one]) | fail | ((with_reducible refine m_pure ?_); refine run_pure rfl rfl (fun K hK => ?_); go_simp; refine hK _ ?_; clear hK K))
      refine mut_at rfl ?_
      ((with_reducible refine g_store (T := 34) ?_); refine seq_store (T := 34) (u := .agg #[.slice _ _ _, .slice _ _ _]) 3 hS rfl rfl rfl Try.sizeOf34 (by simp [Value.cells, Value.oneCell']) (by simp [Value.cells]) (fun _ hS => ?_); simp only [Act.put, List.setIfInBounds_toArray, List.set_cons_succ, List.set_cons_zero, Int.toNat_natCast, Int.toNat_zero, Int.toNat_one, nth_zero, nth_one]; simp only [List.cons_append, List.nil_append, List.set_cons_succ, List.set_cons_zero, Value.cells, iv_snoc, tv_snoc] at hS; simp only [List.take_zero, List.nil_append, List.append_nil, List.drop_succ_cons, List.drop_zero, List.drop_nil, List.take_succ_cons, List.cons_append, List.size_toArray, List.length_cons, List.length_nil, Nat.reduceAdd] at hS)
      refine mut_end ?_
      repeat (first | ((first | ((with_reducible refine m_pure ?_); refine skip_pure rfl rfl ?_) | ((with_reducible refine m_read ?_); refine skip_read rfl rfl ?_)); simp only [Act.put, List.setIfInBounds_toArray, List.set_cons_succ, List.set_cons_zero, Int.toNat_natCast, Int.toNat_zero, Int.toNat_one, nth_zero, nth_one]) | fail | ((with_reducible refine m_pure ?_); refine run_pure rfl rfl (fun K hK => ?_); go_simp; refine hK _ ?_; clear hK K))
      refine sched_nil ?_
      simp only [NoPanic]
      exact hR b7 ao co gw gcw gn gcn ai ci l _ ⟨hcol, _, _, hs, hgw, hgn, hgi, hS.order [0, 1, 2, 4, 3] rfl⟩
  case hrest =>
    clear hS
    rintro b7 ao co gw gcw gn gcn ai ci l w3 ⟨hcol, S2, w4, hs, hgw, hgn, hgi, hS⟩
    have hgr := hcol.1.gr0
    have hqv := hG.qvg (by omega) hgr.1
    have hsame := fun F h1 h2 i k => hcol.1.same_idx hv (F := F) h1 h2 (i := i) (k := k)
    have hzero := fun i => hcol.1.zero_idx (i := i)
    have hlt := fun i => idx_lt hgr.1 (i := i)
    have hend := sumsTo_end (W := W) hgr.1
    have hql : (qW W (runOf (List.range W.length) l)).length = (hds (runOf (List.range W.length) l)).length := by simp [qW]
    have hKn := hds_len_le (runOf (List.range W.length) l)
    rw [hgr.1.len] at hKn
    have hil := idx_len (runOf (List.range W.length) l)
    rw [hgr.1.len] at hil
    generalize (hds (runOf (List.range W.length) l)).length = K at *
    generalize idx (runOf (List.range W.length) l) = G at *
    generalize qW W (runOf (List.range W.length) l) = Wq at *
    generalize qN N (runOf (List.range W.length) l) = Nq at *
    clear hcol hgr hs hG
    subst hql
    have hgq : GraphAt w4 S2 (.agg #[.slice gw Wq.length gcw, .slice gn Nq.length gcn]) Wq Nq := ⟨gw, gcw, gn, gcn, rfl, hgw, hgn⟩
    have HV := Lib.hid (valid_of_VG hqv)
    go_step
    go_wp2_with (first | ((with_reducible refine g_load (T := 22) ?_); refine seq_of hS rfl (stp_load_blk (T := 22) 2 Try.isAgg22 rfl rfl rfl ?_); simp only [Act.put, List.setIfInBounds_toArray, List.set_cons_succ, List.set_cons_zero, Int.toNat_natCast, Int.toNat_zero, Int.toNat_one, nth_zero, nth_one]) | ((with_reducible refine g_load (T := 34) ?_); refine seq_of hS rfl (stp_load_all (T := 34) 4 Try.isAgg34 Try.sizeOf34 rfl rfl rfl ?_); simp only [Act.put, List.setIfInBounds_toArray, List.set_cons_succ, List.set_cons_zero, Int.toNat_natCast, Int.toNat_zero, Int.toNat_one, nth_zero, nth_one]) | ((with_reducible refine g_load (T := 22) ?_); refine seq_of hS rfl (stp_load_blk (T := 22) 4 Try.isAgg22 rfl rfl rfl ?_); simp only [Act.put, List.setIfInBounds_toArray, List.set_cons_succ, List.set_cons_zero, Int.toNat_natCast, Int.toNat_zero, Int.toNat_one, nth_zero, nth_one]) | ((with_reducible refine g_mks (T := 22) ?_); refine seq_make (n := Wq.length) (T := 22) (E := 3) hS Try.underlying22 Try.info3 rfl rfl (by omega) (fun bs wbs hS => ?_); simp only [Act.put, List.setIfInBounds_toArray, List.set_cons_succ, List.set_cons_zero, Int.toNat_natCast, Int.toNat_zero, Int.toNat_one, nth_zero, nth_one]; simp only [List.cons_append, List.nil_append, List.set_cons_succ, List.set_cons_zero, Value.cells, iv_snoc, tv_snoc] at hS) | (go_at_call 24; refine (rvalid_any _ _ _ _ (hgq.arg hS (List.mem_of_getElem? (i := 3) rfl))).mono ?_; rintro e w' ⟨rfl, hB⟩; have hS := hS.below hB; rw [HV.out]))
    rw [← sumsTo_zero W G] at hS
    simp only [List.getElem_toArray, List.getElem_cons_zero, List.getElem_cons_succ]
    go_loopw [11] (fun i wr => ∃ k : Nat, k ≤ W.length ∧ i = .int .i64 k ∧ Heap w wr [.frz (Old w) w, .frz (New w w1) w1, .blk b5 (.cells #[.slice aw W.length cw, .slice an N.length cn] 34 (0, 0)), .frz S2 w4, .blk b7 (.cells #[.slice gw Wq.length gcw, .slice gn Nq.length gcn] 34 (0, 0)), .row (.slice (some ⟨bs, 0, none⟩) Wq.length Wq.length) 3 1 Wq.length (iv (sumsTo W G Wq.length k))]) (fun i _ => W.length - (intOf i).toNat)
    case atStart => exact ⟨0, by omega, rfl, hS⟩
    case round =>
      clear hS
      obtain ⟨k, hk, rfl, hS⟩ := hrel
      by_cases hlk : k < W.length
      · have hq := hlt k hlk
        have hbd := sumsTo_bd hv G (Nat.le_of_lt hlk) hq
        have hstep := sumsTo_step W G hq
        have hw2 := hv.w0 _ (nth_mem 0 W k hlk)
        obtain ⟨v, hv1⟩ : ∃ v, (((nth 0 G k : Nat) : Int) == ((nth 0 G 0 : Nat) : Int)) = v := ⟨_, rfl⟩
        have hv2 : (((k : Nat) : Int) == 0) = v := by
          rw [← hv1, Bool.eq_iff_iff, beq_iff_eq, beq_iff_eq]
          have := hzero k hlk
          omega
        have HST := Lib.hid hstep
        clear hstep
        have f1 : decide (((nth 0 G k : Nat) : Int) < 0) = false := by simp
        have f2 : decide (Wq.length ≤ nth 0 G k) = false := by simp; omega
        have c1 : v = true ∨ v = false := by clear hv1 hv2; cases v <;> simp
        go_wp2
        rcases c1 with rfl | rfl
        all_goals
          refine wp_region_sched [.pure 0, .pure 1, .pure 2, .read 3, .pure 4, .pure 5, .pure 6, .pure 7, .pure 8, .read 9, .pure 10, .pure 11, .pure 12, .pure 13, .pure 14, .pure 15, .pure 16, .pure 17, .read 18, .pure 19, .pure 20, .read 21, .pure 22, .pure 23, .pure 24, .pure 25, .pure 26] [] (fun w' => Heap w w' _) (by kernel_rfl) (by kernel_rfl) hS.drew (fun w1 hS => ?_)
          repeat (first | ((first | ((with_reducible refine m_pure ?_); refine skip_pure rfl rfl ?_) | ((with_reducible refine m_read ?_); refine skip_read rfl rfl ?_)); simp only [Act.put, List.setIfInBounds_toArray, List.set_cons_succ, List.set_cons_zero, Int.toNat_natCast, Int.toNat_zero, Int.toNat_one, nth_zero, nth_one]) | ((with_reducible refine m_pure ?_); refine sched_any rfl rfl (any_index_nat (T := 22) Try.underlying22 Try.sizeOf3 rfl rfl (by with_reducible assumption) (by omega) (by omega) (fun _ _ _ => ?_)); simp only [Act.put, List.setIfInBounds_toArray, List.set_cons_succ, List.set_cons_zero, Int.toNat_natCast, Int.toNat_zero, Int.toNat_one, nth_zero, nth_one]) | ((with_reducible refine m_read ?_); refine sched_of rfl rfl (stp_load (T := 3) Try.isAgg3 rfl (by with_reducible assumption) (by simp) rfl ?_); simp only [Act.put, List.setIfInBounds_toArray, List.set_cons_succ, List.set_cons_zero, Int.toNat_natCast, Int.toNat_zero, Int.toNat_one, nth_zero, nth_one]) | ((with_reducible refine m_pure ?_); refine run_pure rfl rfl (fun K hK => ?_); go_simp; refine hK _ ?_; clear hK K))
          refine sched_nil ?_
          simp only [NoPanic]
          go_wp2
          refine wp_region_sched [.pure 0, .pure 1, .pure 2, .pure 3, .read 4, .pure 5, .pure 6, .pure 7, .pure 8, .read 9, .pure 10, .read 11, .pure 12, .read 13, .pure 14, .pure 15, .read 16, .pure 17, .pure 18, .mutt 19] [19] (fun w' => Heap w w' _) (by kernel_rfl) (by kernel_rfl) hS.drew (fun w1 hS => ?_)
          repeat (first | ((first | ((with_reducible refine m_pure ?_); refine skip_pure rfl rfl ?_) | ((with_reducible refine m_read ?_); refine skip_read rfl rfl ?_)); simp only [Act.put, List.setIfInBounds_toArray, List.set_cons_succ, List.set_cons_zero, Int.toNat_natCast, Int.toNat_zero, Int.toNat_one, nth_zero, nth_one]) | ((with_reducible refine m_pure ?_); refine sched_any rfl rfl (any_index_nat (T := 22) Try.underlying22 Try.sizeOf3 rfl rfl (by with_reducible assumption) (by omega) (by omega) (fun _ _ _ => ?_)); simp only [Act.put, List.setIfInBounds_toArray, List.set_cons_succ, List.set_cons_zero, Int.toNat_natCast, Int.toNat_zero, Int.toNat_one, nth_zero, nth_one]) | ((with_reducible refine m_pure ?_); refine sched_any rfl rfl (any_index_at (T := 22) Try.underlying22 Try.sizeOf3 rfl rfl (by omega) (by omega) ?_); simp only [Act.put, List.setIfInBounds_toArray, List.set_cons_succ, List.set_cons_zero, Int.toNat_natCast, Int.toNat_zero, Int.toNat_one, nth_zero, nth_one]; simp only [Nat.zero_add, Int.toNat_natCast]) | ((with_reducible refine m_pure ?_); refine sched_any rfl rfl (any_index_int (T := 22) Try.underlying22 Try.sizeOf3 rfl rfl (by with_reducible assumption) (by omega) (by omega) (fun _ _ _ => ?_)); simp only [Act.put, List.setIfInBounds_toArray, List.set_cons_succ, List.set_cons_zero, Int.toNat_natCast, Int.toNat_zero, Int.toNat_one, nth_zero, nth_one]) | ((with_reducible refine m_read ?_); refine sched_of rfl rfl (stp_load_row (T := 3) 5 Try.isAgg3 rfl rfl (by omega) ?_); simp only [Act.put, List.setIfInBounds_toArray, List.set_cons_succ, List.set_cons_zero, Int.toNat_natCast, Int.toNat_zero, Int.toNat_one, nth_zero, nth_one]) | ((with_reducible refine m_read ?_); refine sched_of rfl rfl (stp_load_blk (T := 22) 2 Try.isAgg22 rfl rfl rfl ?_); simp only [Act.put, List.setIfInBounds_toArray, List.set_cons_succ, List.set_cons_zero, Int.toNat_natCast, Int.toNat_zero, Int.toNat_one, nth_zero, nth_one]) | ((with_reducible refine m_read ?_); refine sched_of rfl rfl (stp_load (T := 3) Try.isAgg3 rfl (by with_reducible assumption) (by simp) rfl ?_); simp only [Act.put, List.setIfInBounds_toArray, List.set_cons_succ, List.set_cons_zero, Int.toNat_natCast, Int.toNat_zero, Int.toNat_one, nth_zero, nth_one]) | ((with_reducible refine m_pure ?_); refine run_pure rfl rfl (fun K hK => ?_); go_simp; refine hK _ ?_; clear hK K))
          refine mut_at rfl ?_
          ((with_reducible refine g_store (T := 3) ?_); refine seq_store_row (T := 3) 5 hS rfl rfl rfl (by omega) Try.sizeOf3 (fun _ hS => ?_); simp only [Act.put, List.setIfInBounds_toArray, List.set_cons_succ, List.set_cons_zero, Int.toNat_natCast, Int.toNat_zero, Int.toNat_one, nth_zero, nth_one]; simp only [List.cons_append, List.nil_append, List.set_cons_succ, List.set_cons_zero, Value.cells, iv_snoc, tv_snoc] at hS)
          refine mut_end ?_
          refine sched_nil ?_
          simp only [NoPanic]
          go_wp2
          go_roundw
        all_goals first | (rw [show IntKind.i64.wrap (nth 0 (sumsTo W G Wq.length k) (nth 0 G k) + nth 0 W k) = nth 0 (sumsTo W G Wq.length k) (nth 0 G k) + nth 0 W k by rw [IntKind.wrap_i64]; omega, HST.out] at hS; exact ⟨k + 1, by omega, by go_num, hS⟩) | (simp [intOf]; omega)
      · have hkk : k = W.length := by omega
        subst hkk
        rw [hend] at hS
        go_wp2_with (first | (go_at_call 25; refine (alone_any _ _ hle).mono ?_; rintro e wb ⟨ab, cb, rfl, hB, hbe⟩; have hS := hS.call hB; simp only [List.cons_append, List.nil_append, List.set_cons_succ, List.set_cons_zero, Value.cells, iv_snoc, tv_snoc] at hS))
        go_loopw [12, 13] (fun of ch wr => ∃ (F : List Nat) (af : Option Addr) (cf : Nat) (S : Nat → Prop) (wq : World) (cb : Bool), of = .slice af W.length cf ∧ ch = .bool cb ∧ Nats wq S (.slice af W.length cf) F ∧ Gr W.length F ∧ Finer W.length F G ∧ (cb = false → Joined N G F N.length) ∧ Heap w wr [.frz (Old w) w, .frz (New w w1) w1, .blk b5 (.cells #[.slice aw W.length cw, .slice an N.length cn] 34 (0, 0)), .frz S2 w4, .blk b7 (.cells #[.slice gw Wq.length gcw, .slice gn Nq.length gcn] 34 (0, 0)), .row (.slice (some ⟨bs, 0, none⟩) Wq.length Wq.length) 3 1 Wq.length (iv Wq), .frz S wq]) (fun of ch wr => 2 * (hds (natsAt wr of)).length + flag ch)
        case atStart => exact ⟨List.range W.length, ab, cb, _, _, true, rfl, rfl, hbe, gr_range _, finer_range _, (fun e => by cases e), hS⟩
        case round =>
          clear hS hbe hB
          obtain ⟨F, af, cf, S, wq, cb, rfl, rfl, hF, hFg, hFf, hFj, hS⟩ := hrel
          have hM0 := natsAt_eq hF hS (List.mem_of_getElem? (i := 6) rfl)
          cases cb with
          | true =>
            clear hFj
            go_wp2
            obtain ⟨h0, hh0⟩ : ∃ h, (hds F).length = h := ⟨_, rfl⟩
            have HM0 : Hid ((hds (natsAt wr (.slice af W.length cf))).length = h0) := by unfold Hid; rw [hM0]; exact hh0
            have hFle := hFg.len
            go_loopw [12, 13, 14] (fun of ch i wr => ∃ (j : Nat) (F : List Nat) (af : Option Addr) (cf : Nat) (S : Nat → Prop) (wq : World) (cb : Bool), j ≤ N.length ∧ i = .int .i64 j ∧ of = .slice af W.length cf ∧ ch = .bool cb ∧ Nats wq S (.slice af W.length cf) F ∧ Gr W.length F ∧ Finer W.length F G ∧ (cb = false → (hds F).length = h0 ∧ Joined N G F j) ∧ (cb = true → (hds F).length < h0) ∧ Heap w wr [.frz (Old w) w, .frz (New w w1) w1, .blk b5 (.cells #[.slice aw W.length cw, .slice an N.length cn] 34 (0, 0)), .frz S2 w4, .blk b7 (.cells #[.slice gw Wq.length gcw, .slice gn Nq.length gcn] 34 (0, 0)), .row (.slice (some ⟨bs, 0, none⟩) Wq.length Wq.length) 3 1 Wq.length (iv Wq), .frz S wq]) (fun _ _ i _ => N.length - (intOf i).toNat)
            case atStart => exact ⟨0, F, af, cf, S, wq, false, by omega, rfl, rfl, rfl, hF, hFg, hFf, (fun _ => ⟨hh0, fun j hj => by omega⟩), (fun e => by cases e), hS⟩
            case round =>
              clear hS hF hFg hFf hM0 hh0 hFle
              obtain ⟨j, F, af, cf, S, wq, cb, hj, rfl, rfl, rfl, hF, hFg, hFf, hc1, hc2, hS⟩ := hrel
              have hFl := hFg.len
              by_cases hjn : j < N.length
              · have hn0 := hv.n0 _ (nth_mem tz N j hjn)
                have hlen2 := hv.nlen
                obtain ⟨x, hx⟩ : ∃ x : Nat, (nth tz N j).1 = x := ⟨(nth tz N j).1.toNat, by omega⟩
                obtain ⟨y, hy⟩ : ∃ y : Nat, (nth tz N j).2.1 = y := ⟨(nth tz N j).2.1.toNat, by omega⟩
                have hxn : x < W.length := by omega
                have hyn : y < W.length := by omega
                have hst := fun (h : Joined N G F j) => h.step (i := j)
                rw [hx, hy, Int.toNat_natCast, Int.toNat_natCast] at hst
                have HX := Lib.hid hx
                have HY := Lib.hid hy
                have HST := Lib.hid hst
                clear hx hy hst hn0
                obtain ⟨vg, hvg⟩ : ∃ v, (((nth 0 G x : Nat) : Int) == ((nth 0 G y : Nat) : Int)) = v := ⟨_, rfl⟩
                obtain ⟨vf, hvf⟩ : ∃ v, (((nth 0 F x : Nat) : Int) == ((nth 0 F y : Nat) : Int)) = v := ⟨_, rfl⟩
                have c1 : vg = true ∨ vg = false := by clear hvg; cases vg <;> simp
                have c2 : vf = true ∨ vf = false := by clear hvf; cases vf <;> simp
                go_wp2_with (first | ((with_reducible refine g_load (T := 23) ?_); refine seq_of hS rfl (stp_load_blk (T := 23) 2 Try.isAgg23 rfl rfl rfl ?_); simp only [Act.put, List.setIfInBounds_toArray, List.set_cons_succ, List.set_cons_zero, Int.toNat_natCast, Int.toNat_zero, Int.toNat_one, nth_zero, nth_one]) | ((with_reducible refine g_idx (T := 23) ?_); refine seq_any rfl (any_index_tri (T := 23) Try.underlying23 Try.sizeOf55 rfl rfl (by with_reducible assumption) (by omega) (by omega) (fun _ _ _ => ?_)); simp only [Act.put, List.setIfInBounds_toArray, List.set_cons_succ, List.set_cons_zero, Int.toNat_natCast, Int.toNat_zero, Int.toNat_one, nth_zero, nth_one]) | (((with_reducible refine g_load (T := 3) ?_); refine seq_of hS rfl (stp_load (T := 3) Try.isAgg3 rfl (by with_reducible assumption) (by simp) rfl ?_); simp only [Act.put, List.setIfInBounds_toArray, List.set_cons_succ, List.set_cons_zero, Int.toNat_natCast, Int.toNat_zero, Int.toNat_one, nth_zero, nth_one]); rw [HX.out]) | (((with_reducible refine g_load (T := 3) ?_); refine seq_of hS rfl (stp_loadj (T := 3) 1 Try.isAgg3 rfl (by with_reducible assumption) (by simp) rfl ?_); simp only [Act.put, List.setIfInBounds_toArray, List.set_cons_succ, List.set_cons_zero, Int.toNat_natCast, Int.toNat_zero, Int.toNat_one, nth_zero, nth_one]); rw [HY.out]))
                rcases c1 with rfl | rfl
                · rcases c2 with rfl | rfl
                  · refine wp_region_sched [.pure 0, .pure 1, .pure 2, .read 3, .pure 4, .pure 5, .pure 6, .read 7, .pure 8, .pure 9, .pure 10, .pure 11, .pure 12, .read 13, .pure 14, .pure 15, .pure 16, .read 17, .pure 18, .pure 19] [] (fun w' => Heap w w' _) (by kernel_rfl) (by kernel_rfl) hS.drew (fun w1 hS => ?_)
                    repeat (first | ((first | ((with_reducible refine m_pure ?_); refine skip_pure rfl rfl ?_) | ((with_reducible refine m_read ?_); refine skip_read rfl rfl ?_)); simp only [Act.put, List.setIfInBounds_toArray, List.set_cons_succ, List.set_cons_zero, Int.toNat_natCast, Int.toNat_zero, Int.toNat_one, nth_zero, nth_one]) | ((with_reducible refine m_pure ?_); refine sched_any rfl rfl (any_index_nat (T := 22) Try.underlying22 Try.sizeOf3 rfl rfl (by with_reducible assumption) (by omega) (by omega) (fun _ _ _ => ?_)); simp only [Act.put, List.setIfInBounds_toArray, List.set_cons_succ, List.set_cons_zero, Int.toNat_natCast, Int.toNat_zero, Int.toNat_one, nth_zero, nth_one]) | ((with_reducible refine m_read ?_); refine sched_of rfl rfl (stp_load (T := 3) Try.isAgg3 rfl (by with_reducible assumption) (by simp) rfl ?_); simp only [Act.put, List.setIfInBounds_toArray, List.set_cons_succ, List.set_cons_zero, Int.toNat_natCast, Int.toNat_zero, Int.toNat_one, nth_zero, nth_one]) | ((with_reducible refine m_pure ?_); refine run_pure rfl rfl (fun K hK => ?_); go_simp; refine hK _ ?_; clear hK K))
                    refine sched_nil ?_
                    simp only [NoPanic]
                    go_wp2
                    go_roundw
                    case rel => exact ⟨j + 1, F, af, cf, S, wq, cb, by omega, by go_num, rfl, rfl, hF, hFg, hFf, (fun e => ⟨(hc1 e).1, HST.out (hc1 e).2 fun _ => by have := beq_iff_eq.1 hvf; omega⟩), hc2, hS⟩
                    case measure => simp [intOf]; omega
                  · refine wp_region_sched [.pure 0, .pure 1, .pure 2, .read 3, .pure 4, .pure 5, .pure 6, .read 7, .pure 8, .pure 9, .pure 10, .pure 11, .pure 12, .read 13, .pure 14, .pure 15, .pure 16, .read 17, .pure 18, .pure 19] [] (fun w' => Heap w w' _) (by kernel_rfl) (by kernel_rfl) hS.drew (fun w1 hS => ?_)
                    repeat (first | ((first | ((with_reducible refine m_pure ?_); refine skip_pure rfl rfl ?_) | ((with_reducible refine m_read ?_); refine skip_read rfl rfl ?_)); simp only [Act.put, List.setIfInBounds_toArray, List.set_cons_succ, List.set_cons_zero, Int.toNat_natCast, Int.toNat_zero, Int.toNat_one, nth_zero, nth_one]) | ((with_reducible refine m_pure ?_); refine sched_any rfl rfl (any_index_nat (T := 22) Try.underlying22 Try.sizeOf3 rfl rfl (by with_reducible assumption) (by omega) (by omega) (fun _ _ _ => ?_)); simp only [Act.put, List.setIfInBounds_toArray, List.set_cons_succ, List.set_cons_zero, Int.toNat_natCast, Int.toNat_zero, Int.toNat_one, nth_zero, nth_one]) | ((with_reducible refine m_read ?_); refine sched_of rfl rfl (stp_load (T := 3) Try.isAgg3 rfl (by with_reducible assumption) (by simp) rfl ?_); simp only [Act.put, List.setIfInBounds_toArray, List.set_cons_succ, List.set_cons_zero, Int.toNat_natCast, Int.toNat_zero, Int.toNat_one, nth_zero, nth_one]) | ((with_reducible refine m_pure ?_); refine run_pure rfl rfl (fun K hK => ?_); go_simp; refine hK _ ?_; clear hK K))
                    refine sched_nil ?_
                    simp only [NoPanic]
                    go_wp2
                    have hvg' : nth 0 G x = nth 0 G y := by have := beq_iff_eq.1 hvg; omega
                    have hvf' : nth 0 F x ≠ nth 0 F y := by intro e; rw [e] at hvf; simp at hvf
                    have hxg := hFg.lt hxn
                    have hyg := hFg.lt hyn
                    have hgr2 := gr_mrg hFg hxg hyg (hFg.idem x hxn) (hFg.idem y hyn)
                    have hfi2 := hFf.mrg hFg hxn hyn hvg'
                    have hdl := hds_mrg_len hFg hxg hyg (hFg.idem x hxn) (hFg.idem y hyn) hvf'
                    have hold : (hds F).length ≤ h0 := by
                      cases cb with
                      | true => have := hc2 rfl; omega
                      | false => have := (hc1 rfl).1; omega
                    have HG2 := Lib.hid hgr2
                    have HF2 := Lib.hid hfi2
                    clear hc1 hc2 HST hgr2 hfi2 hvg' hvf'
                    have hmer : ∀ w, Nats w (Old w) (.slice af W.length cf) F → Calls Try.prog 26 #[.slice af W.length cf, .agg #[.int .i64 (nth 0 F x : Nat), .int .i64 (nth 0 F y : Nat)]] w fun e w' => ∃ a' c', e = .returned (.slice a' W.length c') ∧ Below w.heap.size w w' ∧ Nats w' (New w w') (.slice a' W.length c') (mrg F (nth 0 F x) (nth 0 F y)) := by
                      intro w h
                      have := merged_any _ _ _ (nth 0 F x) (nth 0 F y) _ _ h (by omega) (fun q hq => by obtain ⟨i, hi, rfl⟩ := List.mem_iff_getElem.1 hq; have := hFg.lt (i := i) (by omega); rw [nth_eq 0 _ _ hi] at this; omega) (by omega) (by omega)
                      rw [hFl] at this
                      exact this
                    have HMER := Lib.hid hmer
                    clear hmer
                    refine wp_region_sched [.pure 0, .pure 1, .pure 2, .pure 3, .read 4, .pure 5, .pure 6, .pure 7, .read 8, .pure 9, .ext 10, .pure 11] [] (fun w' => Heap w w' _) (by kernel_rfl) (by kernel_rfl) hS.drew (fun w1 hS => ?_)
                    repeat (first | ((first | ((with_reducible refine m_pure ?_); refine skip_pure rfl rfl ?_) | ((with_reducible refine m_read ?_); refine skip_read rfl rfl ?_)); simp only [Act.put, List.setIfInBounds_toArray, List.set_cons_succ, List.set_cons_zero, Int.toNat_natCast, Int.toNat_zero, Int.toNat_one, nth_zero, nth_one]) | ((with_reducible refine m_pure ?_); refine sched_any rfl rfl (any_index_nat (T := 22) Try.underlying22 Try.sizeOf3 rfl rfl (by with_reducible assumption) (by omega) (by omega) (fun _ _ _ => ?_)); simp only [Act.put, List.setIfInBounds_toArray, List.set_cons_succ, List.set_cons_zero, Int.toNat_natCast, Int.toNat_zero, Int.toNat_one, nth_zero, nth_one]) | ((with_reducible refine m_read ?_); refine sched_of rfl rfl (stp_load (T := 3) Try.isAgg3 rfl (by with_reducible assumption) (by simp) rfl ?_); simp only [Act.put, List.setIfInBounds_toArray, List.set_cons_succ, List.set_cons_zero, Int.toNat_natCast, Int.toNat_zero, Int.toNat_one, nth_zero, nth_one]) | ((with_reducible refine m_pure ?_); refine run_pure rfl rfl (fun K hK => ?_); go_simp; refine hK _ ?_; clear hK K))
                    refine ext_at rfl ?_
                    go_wp2_with (fail)
                    refine (HMER.out _ (hF.arg hS (List.mem_of_getElem? (i := 6) rfl))).mono ?_
                    rintro e w' ⟨a2, c2, rfl, hB, hN2⟩
                    simp only []
                    go_step
                    have hS := hS.call hB
                    simp only [List.cons_append, List.nil_append, List.set_cons_succ, List.set_cons_zero, Value.cells, iv_snoc, tv_snoc] at hS
                    refine ext_end (hS.sub (by repeat (first | exact List.Sublist.refl _ | apply List.Sublist.cons_cons | apply List.Sublist.cons | exact List.nil_sublist _))) ?_
                    repeat (first | ((first | ((with_reducible refine m_pure ?_); refine skip_pure rfl rfl ?_) | ((with_reducible refine m_read ?_); refine skip_read rfl rfl ?_)); simp only [Act.put, List.setIfInBounds_toArray, List.set_cons_succ, List.set_cons_zero, Int.toNat_natCast, Int.toNat_zero, Int.toNat_one, nth_zero, nth_one]) | fail | ((with_reducible refine m_pure ?_); refine run_pure rfl rfl (fun K hK => ?_); go_simp; refine hK _ ?_; clear hK K))
                    refine sched_nil ?_
                    simp only [NoPanic]
                    go_wp2
                    go_roundw
                    case rel => exact ⟨j + 1, _, a2, c2, _, _, true, by omega, by go_num, rfl, rfl, hN2, HG2.out, HF2.out, (fun e => by cases e), (fun _ => by omega), (hS.sub (by repeat (first | exact List.Sublist.refl _ | apply List.Sublist.cons_cons | apply List.Sublist.cons | exact List.nil_sublist _)))⟩
                    case measure => simp [intOf]; omega
                · refine wp_region_sched [.pure 0, .pure 1, .pure 2, .read 3, .pure 4, .pure 5, .pure 6, .read 7, .pure 8, .pure 9, .pure 10, .pure 11, .pure 12, .read 13, .pure 14, .pure 15, .pure 16, .read 17, .pure 18, .pure 19] [] (fun w' => Heap w w' _) (by kernel_rfl) (by kernel_rfl) hS.drew (fun w1 hS => ?_)
                  repeat (first | ((first | ((with_reducible refine m_pure ?_); refine skip_pure rfl rfl ?_) | ((with_reducible refine m_read ?_); refine skip_read rfl rfl ?_)); simp only [Act.put, List.setIfInBounds_toArray, List.set_cons_succ, List.set_cons_zero, Int.toNat_natCast, Int.toNat_zero, Int.toNat_one, nth_zero, nth_one]) | ((with_reducible refine m_pure ?_); refine sched_any rfl rfl (any_index_nat (T := 22) Try.underlying22 Try.sizeOf3 rfl rfl (by with_reducible assumption) (by omega) (by omega) (fun _ _ _ => ?_)); simp only [Act.put, List.setIfInBounds_toArray, List.set_cons_succ, List.set_cons_zero, Int.toNat_natCast, Int.toNat_zero, Int.toNat_one, nth_zero, nth_one]) | ((with_reducible refine m_read ?_); refine sched_of rfl rfl (stp_load (T := 3) Try.isAgg3 rfl (by with_reducible assumption) (by simp) rfl ?_); simp only [Act.put, List.setIfInBounds_toArray, List.set_cons_succ, List.set_cons_zero, Int.toNat_natCast, Int.toNat_zero, Int.toNat_one, nth_zero, nth_one]) | ((with_reducible refine m_pure ?_); refine run_pure rfl rfl (fun K hK => ?_); go_simp; refine hK _ ?_; clear hK K))
                  refine sched_nil ?_
                  simp only [NoPanic]
                  go_wp2
                  go_roundw
                  case rel => exact ⟨j + 1, F, af, cf, S, wq, cb, by omega, by go_num, rfl, rfl, hF, hFg, hFf, (fun e => ⟨(hc1 e).1, HST.out (hc1 e).2 fun q => by rw [q] at hvg; simp at hvg⟩), hc2, hS⟩
                  case measure => simp [intOf]; omega
              · have hjj : j = N.length := by omega
                subst hjj
                have hM1 := natsAt_eq hF hS (List.mem_of_getElem? (i := 6) rfl)
                go_wp2_with (first | ((with_reducible refine g_load (T := 23) ?_); refine seq_of hS rfl (stp_load_blk (T := 23) 2 Try.isAgg23 rfl rfl rfl ?_); simp only [Act.put, List.setIfInBounds_toArray, List.set_cons_succ, List.set_cons_zero, Int.toNat_natCast, Int.toNat_zero, Int.toNat_one, nth_zero, nth_one]))
                go_roundw
                case rel => exact ⟨F, af, cf, S, wq, cb, rfl, rfl, hF, hFg, hFf, (fun e => (hc1 e).2), hS⟩
                case measure =>
                  rw [hM1, HM0.out]
                  cases cb with
                  | true => have := hc2 rfl; simp only [flag]; omega
                  | false => have := (hc1 rfl).1; simp only [flag]; omega
          | false =>
            have hj := hFj rfl
            clear hFj hM0
            have HSM := Lib.hid (hsame F hFf hj)
            clear hj hFf hFg
            go_wp2
            go_loopw [17] (fun i wr => ∃ x : Nat, x ≤ W.length ∧ i = .int .i64 x ∧ Heap w wr [.frz (Old w) w, .frz (New w w1) w1, .blk b5 (.cells #[.slice aw W.length cw, .slice an N.length cn] 34 (0, 0)), .frz S2 w4, .blk b7 (.cells #[.slice gw Wq.length gcw, .slice gn Nq.length gcn] 34 (0, 0)), .row (.slice (some ⟨bs, 0, none⟩) Wq.length Wq.length) 3 1 Wq.length (iv Wq), .frz S wq]) (fun i _ => W.length - (intOf i).toNat)
            case atStart => exact ⟨0, by omega, rfl, hS⟩
            case round =>
              clear hS
              obtain ⟨x, hxl, rfl, hS⟩ := hrel
              by_cases hlx : x < W.length
              · go_wp2
                go_loopw [18] (fun i wr => ∃ y : Nat, y ≤ x ∧ i = .int .i64 y ∧ Heap w wr [.frz (Old w) w, .frz (New w w1) w1, .blk b5 (.cells #[.slice aw W.length cw, .slice an N.length cn] 34 (0, 0)), .frz S2 w4, .blk b7 (.cells #[.slice gw Wq.length gcw, .slice gn Nq.length gcn] 34 (0, 0)), .row (.slice (some ⟨bs, 0, none⟩) Wq.length Wq.length) 3 1 Wq.length (iv Wq), .frz S wq]) (fun i _ => x - (intOf i).toNat)
                case atStart => exact ⟨0, by omega, rfl, hS⟩
                case round =>
                  clear hS
                  obtain ⟨y, hyl, rfl, hS⟩ := hrel
                  by_cases hly : y < x
                  · have hsm := HSM.out x y hlx (by omega)
                    obtain ⟨v, hv1⟩ : ∃ v, (((nth 0 G x : Nat) : Int) == ((nth 0 G y : Nat) : Int)) = v := ⟨_, rfl⟩
                    have hv2 : (((nth 0 F x : Nat) : Int) == ((nth 0 F y : Nat) : Int)) = v := by
                      rw [← hv1, Bool.eq_iff_iff, beq_iff_eq, beq_iff_eq]; omega
                    clear hsm
                    have c1 : v = true ∨ v = false := by clear hv1 hv2; cases v <;> simp
                    go_wp2
                    rcases c1 with rfl | rfl
                    all_goals
                      refine wp_region_sched [.pure 0, .pure 1, .pure 2, .read 3, .pure 4, .pure 5, .pure 6, .read 7, .pure 8, .pure 9, .pure 10, .pure 11, .read 12, .pure 13, .pure 14, .pure 15, .read 16, .pure 17, .pure 18] [] (fun w' => Heap w w' _) (by kernel_rfl) (by kernel_rfl) hS.drew (fun w1 hS => ?_)
                      repeat (first | ((first | ((with_reducible refine m_pure ?_); refine skip_pure rfl rfl ?_) | ((with_reducible refine m_read ?_); refine skip_read rfl rfl ?_)); simp only [Act.put, List.setIfInBounds_toArray, List.set_cons_succ, List.set_cons_zero, Int.toNat_natCast, Int.toNat_zero, Int.toNat_one, nth_zero, nth_one]) | ((with_reducible refine m_pure ?_); refine sched_any rfl rfl (any_index_nat (T := 22) Try.underlying22 Try.sizeOf3 rfl rfl (by with_reducible assumption) (by omega) (by omega) (fun _ _ _ => ?_)); simp only [Act.put, List.setIfInBounds_toArray, List.set_cons_succ, List.set_cons_zero, Int.toNat_natCast, Int.toNat_zero, Int.toNat_one, nth_zero, nth_one]) | ((with_reducible refine m_read ?_); refine sched_of rfl rfl (stp_load (T := 3) Try.isAgg3 rfl (by with_reducible assumption) (by simp) rfl ?_); simp only [Act.put, List.setIfInBounds_toArray, List.set_cons_succ, List.set_cons_zero, Int.toNat_natCast, Int.toNat_zero, Int.toNat_one, nth_zero, nth_one]) | ((with_reducible refine m_pure ?_); refine run_pure rfl rfl (fun K hK => ?_); go_simp; refine hK _ ?_; clear hK K))
                      refine sched_nil ?_
                      simp only [NoPanic]
                      go_wp2
                      go_roundw
                    all_goals first | exact ⟨y + 1, by omega, by go_num, hS⟩ | (simp [intOf]; omega)
                  · have hyx : y = x := by omega
                    subst hyx
                    go_wp2
                    go_roundw
                    case rel => exact ⟨y + 1, by omega, by go_num, hS⟩
                    case measure => simp [intOf]; omega
              · have hxx : x = W.length := by omega
                subst hxx
                go_wp2_with (first | ((with_reducible refine g_load (T := 22) ?_); refine seq_of hS rfl (stp_load_blk (T := 22) 4 Try.isAgg22 rfl rfl rfl ?_); simp only [Act.put, List.setIfInBounds_toArray, List.set_cons_succ, List.set_cons_zero, Int.toNat_natCast, Int.toNat_zero, Int.toNat_one, nth_zero, nth_one]) | (go_at_call 18; refine (sameInts_any _ _ _ _ _ _ Wq Wq _ (hS.rowInts 5 rfl hgw.2) (hgw.arg hS (List.mem_of_getElem? (i := 3) rfl))).mono ?_; rintro e w' ⟨rfl, hB⟩; have hS := hS.below hB; rw [decide_eq_true rfl]) | (go_at_call 23; refine (lives_any _).mono ?_; rintro e w' ⟨rfl, hB⟩; have hS := hS.below hB))
                go_ret
                exact ⟨rfl, hS.toBelow (by simp)⟩
end Go.Proofs.Ytdibpfbibgicaaa
