/- S8: the law StripFinds, walked. -/
import Derived.Test.YtdibpfbibgicaaaB6
set_option linter.unusedVariables false
set_option linter.unusedSimpArgs false
namespace Go.Proofs.Ytdibpfbibgicaaa
open Go.RowKit Go.Hp

/-- What lies in memory behind the call of Collapse. -/
def Col2F (W : List Int) (N : List Tri) (y : Int) (w wA wf : World) (SA SF : Nat → Prop) (ba bn : Nat) (AR NUM : Array Value) (b20 : Nat) (ao : Option Addr) (co : Nat) (gw : Option Addr) (gcw : Nat) (gn : Option Addr) (gcn : Nat) (ai : Option Addr) (ci cc : Nat) (l : List Str) (Wq : List Int) (Nq : List Tri) (G : List Nat) (w' : World) : Prop :=
  ColRes W N y cc l Wq Nq G ∧ ∃ (SC : Nat → Prop) (wC : World), Strs wC SC (.slice ao l.length co) l ∧ Ints wC SC (.slice gw Wq.length gcw) Wq ∧ Tris wC SC (.slice gn Nq.length gcn) Nq ∧ Nats wC SC (.slice ai G.length ci) G ∧
    Heap w w' [.frz (Old w) w, .frz SA wA, .blk ba (.cells AR 25 (0, 0)), .blk bn (.cells NUM 3 (0, 0)), .frz SF wf, .frz SC wC, .blk b20 (.cells #[.slice gw Wq.length gcw, .slice gn Nq.length gcn] 34 (0, 0))]

set_option maxHeartbeats 8000000 in
set_option maxRecDepth 100000 in
theorem finds_walk (a : Option Addr) (n c : Nat) (xs : List Int) (z at' how by' : Int) (w : World) (hx : Ints w (Old w) (.slice a n c) xs) (hz : InI z) (ha : InI at') (hh : InI how) (hb : InI by') :
    Calls Try.prog 3 #[.slice a n c, .int .i64 z, .int .i64 at', .int .i64 how, .int .i64 by'] w fun e w' => e = .returned (.bool true) ∧ Below w.heap.size w w' := by
  have hS := Heap.start w
  have har := aro_lt z (most := 14) (by omega)
  go_enter Try.func3, Try.ntmps3
  go_wp2_with (fail)
  refine (some_any _ _ _ 9 _ _ (hx.arg hS (by simp)) (by omega) (by omega)).mono ?_
  rintro e wg ⟨gv, W0, N0, rfl, hB1, hg0, hG0⟩
  have hwl0 := hG0.wlen
  have hnl0 := hG0.nlen
  have hS := hS.call hB1
  simp only [List.cons_append, List.nil_append, List.set_cons_succ, List.set_cons_zero, Value.cells, iv_snoc, tv_snoc] at hS
  simp only []
  go_step
  obtain ⟨aw0, cw0, an0, cn0, rfl, hw0, hn0⟩ := hg0
  have hg0 : GraphAt wg (New w wg) (.agg #[.slice aw0 W0.length cw0, .slice an0 N0.length cn0]) W0 N0 := ⟨aw0, cw0, an0, cn0, rfl, hw0, hn0⟩
  go_wp2_with (first | ((with_reducible refine g_alloc (T := 25) ?_); refine seq_alloc (T := 25) hS Try.zeroValue25 (fun b11 wb11 hS => ?_); simp only [Act.put, List.setIfInBounds_toArray, List.set_cons_succ, List.set_cons_zero, Int.toNat_natCast, Int.toNat_zero, Int.toNat_one, nth_zero, nth_one]; simp only [List.cons_append, List.nil_append, List.set_cons_succ, List.set_cons_zero, Value.cells, iv_snoc, tv_snoc] at hS) | ((with_reducible refine g_store (T := 25) ?_); refine seq_store (T := 25) (u := .agg #[.slice _ _ _, .slice _ _ _]) 2 hS rfl rfl rfl Try.sizeOf25 (by simp [Value.cells, Value.oneCell']) (by simp [Value.cells]) (fun _ hS => ?_); simp only [Act.put, List.setIfInBounds_toArray, List.set_cons_succ, List.set_cons_zero, Int.toNat_natCast, Int.toNat_zero, Int.toNat_one, nth_zero, nth_one]; simp only [List.cons_append, List.nil_append, List.set_cons_succ, List.set_cons_zero, Value.cells, iv_snoc, tv_snoc] at hS; simp only [List.take_zero, List.nil_append, List.append_nil, List.drop_succ_cons, List.drop_zero, List.drop_nil, List.take_succ_cons, List.cons_append, List.size_toArray, List.length_cons, List.length_nil, Nat.reduceAdd] at hS))
  refine wp_region_sched [.read 0, .read 1, .pure 2, .pure 3, .pure 4, .pure 6, .ext 5, .ext 7, .pure 8] [] (fun w' => Heap w w' _) (by kernel_rfl) (by as_aux_lemma => kernel_rfl) hS.drew (fun w1 hS => ?_)
  repeat (first | ((first | ((with_reducible refine m_pure ?_); refine skip_pure rfl rfl ?_) | ((with_reducible refine m_read ?_); refine skip_read rfl rfl ?_)); simp only [Act.put, List.setIfInBounds_toArray, List.set_cons_succ, List.set_cons_zero, Int.toNat_natCast, Int.toNat_zero, Int.toNat_one, nth_zero, nth_one]) | ((with_reducible refine m_read ?_); refine sched_of rfl rfl (stp_load_all (T := 25) 2 Try.isAgg25 Try.sizeOf25 rfl rfl rfl ?_); simp only [Act.put, List.setIfInBounds_toArray, List.set_cons_succ, List.set_cons_zero, Int.toNat_natCast, Int.toNat_zero, Int.toNat_one, nth_zero, nth_one]) | ((with_reducible refine m_pure ?_); refine run_pure rfl rfl (fun K hK => ?_); go_simp; refine hK _ ?_; clear hK K))
  refine ext_at rfl ?_
  go_wp2_with (fail)
  refine (spoilt_any _ _ _ _ _ _ _ (hg0.arg hS (List.mem_of_getElem? (i := 1) rfl)) (by omega) (by omega) ha hh hb).mono ?_
  rintro e w' ⟨g1, W1, N1, rfl, hB2, hg1, hl1⟩
  simp only []
  go_step
  have hS := hS.call hB2
  simp only [List.cons_append, List.nil_append, List.set_cons_succ, List.set_cons_zero, Value.cells, iv_snoc, tv_snoc] at hS
  obtain ⟨aw1, cw1, an1, cn1, rfl, hw1, hn1⟩ := hg1
  generalize New _ w' = S1 at *
  refine ext_end (hS.sub (by repeat (first | exact List.Sublist.refl _ | apply List.Sublist.cons_cons | apply List.Sublist.cons | exact List.nil_sublist _))) ?_
  refine ext_at rfl ?_
  ((with_reducible refine g_bs (T := 28) ?_); refine seq_bsL (n := 3) (k := 2) (z := .agg #[.slice none 0 0, .slice none 0 0]) (T := 28) hS Try.underlying28 Try.sizeOf25 Try.zeroValue25 (by decide) (by decide) (fill3g _ _ _ _) rfl rfl (fun ba wba hS => ?_); simp only [Act.put, List.setIfInBounds_toArray, List.set_cons_succ, List.set_cons_zero, Int.toNat_natCast, Int.toNat_zero, Int.toNat_one, nth_zero, nth_one]; simp only [List.cons_append, List.nil_append, List.set_cons_succ, List.set_cons_zero, Value.cells, iv_snoc, tv_snoc] at hS)
  refine ext_end (hS.sub (by repeat (first | exact List.Sublist.refl _ | apply List.Sublist.cons_cons | apply List.Sublist.cons | exact List.nil_sublist _))) ?_
  repeat (first | ((first | ((with_reducible refine m_pure ?_); refine skip_pure rfl rfl ?_) | ((with_reducible refine m_read ?_); refine skip_read rfl rfl ?_)); simp only [Act.put, List.setIfInBounds_toArray, List.set_cons_succ, List.set_cons_zero, Int.toNat_natCast, Int.toNat_zero, Int.toNat_one, nth_zero, nth_one]) | fail | ((with_reducible refine m_pure ?_); refine run_pure rfl rfl (fun K hK => ?_); go_simp; refine hK _ ?_; clear hK K))
  refine sched_nil ?_
  simp only [NoPanic]
  go_wp2_with (first | (go_at_call 10; refine (around_any _ _ _ (by omega) (by omega) hz).mono ?_; rintro e w' ⟨rfl, rfl⟩) | ((with_reducible refine g_bs (T := 22) ?_); refine seq_bsL (n := 3) (k := 1) (z := .int .i64 0) (T := 22) hS Try.underlying22 Try.sizeOf3 Try.zeroValue3 (by decide) (by decide) (fill3 _ _ _) rfl rfl (fun bn wbn hS => ?_); simp only [Act.put, List.setIfInBounds_toArray, List.set_cons_succ, List.set_cons_zero, Int.toNat_natCast, Int.toNat_zero, Int.toNat_one, nth_zero, nth_one]; simp only [List.cons_append, List.nil_append, List.set_cons_succ, List.set_cons_zero, Value.cells, iv_snoc, tv_snoc] at hS))
  have hkey : ∃ (AR NUM : Array Value) (SA : Nat → Prop) (wA : World), AR.size = 6 ∧ NUM.size = 3 ∧ (∀ p, p < 3 → ∃ (W : List Int) (N : List Tri) (aw : Option Addr) (cw : Nat) (an : Option Addr) (cn : Nat), ((AR.toList.drop (p * 2)).take 2).toArray = #[.slice aw W.length cw, .slice an N.length cn] ∧ GraphAt wA SA (.agg #[.slice aw W.length cw, .slice an N.length cn]) W N ∧ W.length ≤ 64) ∧ (∀ q, q < 3 → ∃ y, NUM[q]? = some (.int .i64 y) ∧ InI y) ∧ Heap w wbn [.frz (Old w) w, .frz SA wA, .blk ba (.cells AR 25 (0, 0)), .blk bn (.cells NUM 3 (0, 0))] := by
    have hS2 : Heap w wbn [.frz (Old w) w, .frz (New w wg) wg, .frz S1 w', .blk ba (.cells #[.slice aw0 W0.length cw0, .slice an0 N0.length cn0, .slice aw1 W1.length cw1, .slice an1 N1.length cn1, .slice none 0 0, .slice none 0 0] 25 (0, 0)), .blk bn (.cells #[.int .i64 (aro z 14), .int .i64 z, .int .i64 1152921504606846976] 3 (0, 0))] := (hS.sub (by repeat (first | exact List.Sublist.refl _ | apply List.Sublist.cons_cons | apply List.Sublist.cons | exact List.nil_sublist _)))
    have hS3 := (hS2.order [1, 2, 0, 3, 4] rfl).join
    have hS4 := hS3.order [1, 0, 2, 3] rfl
    refine ⟨_, _, _, _, rfl, rfl, ?_, ?_, hS4⟩
    · intro p hp
      rcases (show p = 0 ∨ p = 1 ∨ p = 2 by omega) with rfl | rfl | rfl
      · exact ⟨W0, N0, aw0, cw0, an0, cn0, rfl, ⟨aw0, cw0, an0, cn0, rfl, (hw0.later hS2 (List.mem_of_getElem? (i := 1) rfl)).weaken (fun k hk => .inl hk), (hn0.later hS2 (List.mem_of_getElem? (i := 1) rfl)).weaken (fun k hk => .inl hk)⟩, by omega⟩
      · exact ⟨W1, N1, aw1, cw1, an1, cn1, rfl, ⟨aw1, cw1, an1, cn1, rfl, (hw1.later hS2 (List.mem_of_getElem? (i := 2) rfl)).weaken (fun k hk => .inr hk), (hn1.later hS2 (List.mem_of_getElem? (i := 2) rfl)).weaken (fun k hk => .inr hk)⟩, hl1⟩
      · exact ⟨[], [], none, 0, none, 0, rfl, ⟨none, 0, none, 0, rfl, Ints.nil _ _, Tris.nil _ _⟩, by simp⟩
    · intro q hq
      rcases (show q = 0 ∨ q = 1 ∨ q = 2 by omega) with rfl | rfl | rfl
      · exact ⟨_, rfl, by unfold InI; omega⟩
      · exact ⟨_, rfl, hz⟩
      · exact ⟨_, rfl, by unfold InI; omega⟩
  clear hS hg0 hw0 hn0 hw1 hn1 hG0 hwl0 hnl0 hB1 hl1 hx ha hh hb
  obtain ⟨AR, NUM, SA, wA, har6, hnum3, hARR, hNUM, hS⟩ := hkey
  revert hS
  repeat (rename Heap _ _ _ => hZ; clear hZ)
  repeat (rename CellsAt _ _ _ _ => hZ; clear hZ)
  repeat (rename Below _ _ _ => hZ; clear hZ)
  intro hS
  go_loopw [14] (fun i wr => ∃ p : Nat, p ≤ 3 ∧ i = .int .i64 p ∧ Heap w wr [.frz (Old w) w, .frz SA wA, .blk ba (.cells AR 25 (0, 0)), .blk bn (.cells NUM 3 (0, 0))]) (fun i _ => 3 - (intOf i).toNat)
  case atStart => exact ⟨0, by omega, rfl, hS⟩
  case round =>
    clear hS
    obtain ⟨p, hp, rfl, hS⟩ := hrel
    by_cases hp3 : p < 3
    · obtain ⟨W, N, aw, cw, an, cn, hA, hg, hsm⟩ := hARR p hp3
      have HA := Lib.hid hA
      have HNUM := Lib.hid hNUM
      clear hA hARR hNUM
      go_wp2_with (first | ((with_reducible refine g_idx (T := 28) ?_); refine seq_any rfl (any_index_atk (T := 28) Try.underlying28 Try.sizeOf25 rfl rfl (by omega) (by omega) ?_); simp only [Act.put, List.setIfInBounds_toArray, List.set_cons_succ, List.set_cons_zero, Int.toNat_natCast, Int.toNat_zero, Int.toNat_one, nth_zero, nth_one]; simp only [Nat.zero_add, Int.toNat_natCast]) | (((with_reducible refine g_load (T := 25) ?_); refine seq_of hS rfl (stp_loadk_blk (T := 25) 2 Try.isAgg25 Try.sizeOf25 rfl rfl (by omega) ?_); simp only [Act.put, List.setIfInBounds_toArray, List.set_cons_succ, List.set_cons_zero, Int.toNat_natCast, Int.toNat_zero, Int.toNat_one, nth_zero, nth_one]); rw [HA.out]) | (go_at_call 11; refine (refvalid_any _ _ _ _ (hg.arg hS (List.mem_of_getElem? (i := 1) rfl))).mono ?_; rintro e w' ⟨rfl, hB⟩; have hS := hS.below hB))
      go_loopw [16] (fun i wr => ∃ q : Nat, q ≤ 3 ∧ i = .int .i64 q ∧ Heap w wr [.frz (Old w) w, .frz SA wA, .blk ba (.cells AR 25 (0, 0)), .blk bn (.cells NUM 3 (0, 0))]) (fun i _ => 3 - (intOf i).toNat)
      case atStart => exact ⟨0, by omega, rfl, hS⟩
      case round =>
        clear hS
        obtain ⟨q, hq, rfl, hS⟩ := hrel
        revert hS
        repeat (rename Heap _ _ _ => hZ; clear hZ)
        repeat (rename CellsAt _ _ _ _ => hZ; clear hZ)
        repeat (rename Below _ _ _ => hZ; clear hZ)
        intro hS
        by_cases hq3 : q < 3
        · obtain ⟨y, hy, hyi⟩ := HNUM.out q hq3
          have HY := Lib.hid hy
          clear hy HNUM
          go_wp2_with (fail)
          refine wp_region_sched [.pure 0, .pure 1, .pure 2, .read 3, .pure 5, .pure 6, .pure 7, .read 8, .ext 4, .ext 9, .pure 10, .pure 11, .pure 12, .pure 13, .pure 14] [] (fun w' => Heap w w' _) (by kernel_rfl) (by as_aux_lemma => kernel_rfl) hS.drew (fun w1 hS => ?_)
          repeat (first | ((first | ((with_reducible refine m_pure ?_); refine skip_pure rfl rfl ?_) | ((with_reducible refine m_read ?_); refine skip_read rfl rfl ?_)); simp only [Act.put, List.setIfInBounds_toArray, List.set_cons_succ, List.set_cons_zero, Int.toNat_natCast, Int.toNat_zero, Int.toNat_one, nth_zero, nth_one]) | ((with_reducible refine m_pure ?_); refine sched_any rfl rfl (any_index_atk (T := 28) Try.underlying28 Try.sizeOf25 rfl rfl (by omega) (by omega) ?_); simp only [Act.put, List.setIfInBounds_toArray, List.set_cons_succ, List.set_cons_zero, Int.toNat_natCast, Int.toNat_zero, Int.toNat_one, nth_zero, nth_one]; simp only [Nat.zero_add, Int.toNat_natCast]) | (((with_reducible refine m_read ?_); refine sched_of rfl rfl (stp_loadk_blk (T := 25) 2 Try.isAgg25 Try.sizeOf25 rfl rfl (by omega) ?_); simp only [Act.put, List.setIfInBounds_toArray, List.set_cons_succ, List.set_cons_zero, Int.toNat_natCast, Int.toNat_zero, Int.toNat_one, nth_zero, nth_one]); rw [HA.out]) | ((with_reducible refine m_pure ?_); refine sched_any rfl rfl (any_index_at (T := 22) Try.underlying22 Try.sizeOf3 rfl rfl (by omega) (by omega) ?_); simp only [Act.put, List.setIfInBounds_toArray, List.set_cons_succ, List.set_cons_zero, Int.toNat_natCast, Int.toNat_zero, Int.toNat_one, nth_zero, nth_one]; simp only [Nat.zero_add, Int.toNat_natCast]) | ((with_reducible refine m_read ?_); refine sched_of rfl rfl (stp_load_blk (T := 3) 3 Try.isAgg3 rfl rfl HY.out ?_); simp only [Act.put, List.setIfInBounds_toArray, List.set_cons_succ, List.set_cons_zero, Int.toNat_natCast, Int.toNat_zero, Int.toNat_one, nth_zero, nth_one]) | ((with_reducible refine m_pure ?_); refine run_pure rfl rfl (fun K hK => ?_); go_simp; refine hK _ ?_; clear hK K))
          refine ext_at rfl ?_
          go_wp2_with (fail)
          refine (own_any _ _ _ _ (hg.arg hS (List.mem_of_getElem? (i := 1) rfl))).mono ?_
          rintro e w' ⟨rfl, hB⟩
          simp only []
          go_step
          have hS := hS.below hB
          refine ext_end hS ?_
          refine ext_at rfl ?_
          go_wp2_with (fail)
          refine (find_all _ _ _ _ _ (hg.arg hS (List.mem_of_getElem? (i := 1) rfl)) hyi).mono ?_
          rintro e w' ⟨hBf, fa, fk, fc, F, rfl, hF, hFR⟩
          simp only []
          go_step
          have hS := hS.call hBf
          simp only [List.cons_append, List.nil_append, List.set_cons_succ, List.set_cons_zero, Value.cells, iv_snoc, tv_snoc] at hS
          generalize New _ w' = SF at *
          refine ext_end (hS.sub (by repeat (first | exact List.Sublist.refl _ | apply List.Sublist.cons_cons | apply List.Sublist.cons | exact List.nil_sublist _))) ?_
          repeat (first | ((first | ((with_reducible refine m_pure ?_); refine skip_pure rfl rfl ?_) | ((with_reducible refine m_read ?_); refine skip_read rfl rfl ?_)); simp only [Act.put, List.setIfInBounds_toArray, List.set_cons_succ, List.set_cons_zero, Int.toNat_natCast, Int.toNat_zero, Int.toNat_one, nth_zero, nth_one]) | fail | ((with_reducible refine m_pure ?_); refine run_pure rfl rfl (fun K hK => ?_); go_simp; refine hK _ ?_; clear hK K))
          refine sched_nil ?_
          simp only [NoPanic]
          go_wp2_with (fail)
          revert hS
          repeat (rename Heap _ _ _ => hZ; clear hZ)
          repeat (rename CellsAt _ _ _ _ => hZ; clear hZ)
          repeat (rename Below _ _ _ => hZ; clear hZ)
          intro hS
          apply wp_region_col2 (.fork [.pure 0, .pure 1, .pure 2, .read 3, .pure 5, .pure 6, .pure 7, .read 8] 4 (.fork [] 9 (.line [.pure 10, .pure 11, .pure 12, .pure 13, .pure 14, .ext 15, .pure 16, .mutt 17, .pure 18, .pure 19]) 15 (.line [.ext 9, .pure 10, .pure 11, .pure 12, .pure 13, .pure 14, .pure 16, .mutt 17, .pure 18, .pure 19])) 15 (.line [.ext 4, .ext 9, .pure 10, .pure 11, .pure 12, .pure 13, .pure 14, .pure 16, .mutt 17, .pure 18, .pure 19])) [17] (fun w' => Heap w w' _) (by kernel_rfl) (by as_aux_lemma => kernel_rfl) hS.drew (Col2F W N y w wA w' SA SF ba bn AR NUM)
          case h =>
            intro hR w3 hS
            refine tr_fork ?_
            repeat (first | ((first | ((with_reducible refine m_pure ?_); refine skip_pure rfl rfl ?_) | ((with_reducible refine m_read ?_); refine skip_read rfl rfl ?_)); simp only [Act.put, List.setIfInBounds_toArray, List.set_cons_succ, List.set_cons_zero, Int.toNat_natCast, Int.toNat_zero, Int.toNat_one, nth_zero, nth_one]) | ((with_reducible refine m_pure ?_); refine sched_any rfl rfl (any_index_atk (T := 28) Try.underlying28 Try.sizeOf25 rfl rfl (by omega) (by omega) ?_); simp only [Act.put, List.setIfInBounds_toArray, List.set_cons_succ, List.set_cons_zero, Int.toNat_natCast, Int.toNat_zero, Int.toNat_one, nth_zero, nth_one]; simp only [Nat.zero_add, Int.toNat_natCast]) | (((with_reducible refine m_read ?_); refine sched_of rfl rfl (stp_loadk_blk (T := 25) 2 Try.isAgg25 Try.sizeOf25 rfl rfl (by omega) ?_); simp only [Act.put, List.setIfInBounds_toArray, List.set_cons_succ, List.set_cons_zero, Int.toNat_natCast, Int.toNat_zero, Int.toNat_one, nth_zero, nth_one]); rw [HA.out]) | ((with_reducible refine m_pure ?_); refine sched_any rfl rfl (any_index_at (T := 22) Try.underlying22 Try.sizeOf3 rfl rfl (by omega) (by omega) ?_); simp only [Act.put, List.setIfInBounds_toArray, List.set_cons_succ, List.set_cons_zero, Int.toNat_natCast, Int.toNat_zero, Int.toNat_one, nth_zero, nth_one]; simp only [Nat.zero_add, Int.toNat_natCast]) | ((with_reducible refine m_read ?_); refine sched_of rfl rfl (stp_load_blk (T := 3) 3 Try.isAgg3 rfl rfl HY.out ?_); simp only [Act.put, List.setIfInBounds_toArray, List.set_cons_succ, List.set_cons_zero, Int.toNat_natCast, Int.toNat_zero, Int.toNat_one, nth_zero, nth_one]) | ((with_reducible refine m_pure ?_); refine run_pure rfl rfl (fun K hK => ?_); go_simp; refine hK _ ?_; clear hK K))
            refine sched_nil ?_
            simp only [NoPanic, WithK]
            refine ⟨?_, ?_⟩
            · refine fork_op rfl ?_
              go_wp2_with (fail)
              refine (own_any _ _ _ _ (hg.arg hS (List.mem_of_getElem? (i := 1) rfl))).mono ?_
              rintro e w' ⟨rfl, hB⟩
              simp only []
              go_step
              have hS := hS.below hB
              refine ext_end hS ?_
              refine tr_fork ?_
              refine sched_nil ?_
              simp only [NoPanic, WithK]
              refine ⟨?_, ?_⟩
              · refine fork_op rfl ?_
                go_wp2_with (fail)
                refine (collapse_all _ _ _ _ _ (hg.arg hS (List.mem_of_getElem? (i := 1) rfl)) hyi).mono ?_
                rintro e w' ⟨hBc, ao, co, gw, gcw, gn, gcn, ai, ci, cc, l, Wq, Nq, G, rfl, hs, hgw, hgn, hgi, hCR⟩
                simp only []
                go_step
                have hS := hS.call hBc
                simp only [List.cons_append, List.nil_append, List.set_cons_succ, List.set_cons_zero, Value.cells, iv_snoc, tv_snoc] at hS
                refine ext_end (hS.sub (by repeat (first | exact List.Sublist.refl _ | apply List.Sublist.cons_cons | apply List.Sublist.cons | exact List.nil_sublist _))) ?_
                refine tr_line ?_
                repeat (first | ((first | ((with_reducible refine m_pure ?_); refine skip_pure rfl rfl ?_) | ((with_reducible refine m_read ?_); refine skip_read rfl rfl ?_)); simp only [Act.put, List.setIfInBounds_toArray, List.set_cons_succ, List.set_cons_zero, Int.toNat_natCast, Int.toNat_zero, Int.toNat_one, nth_zero, nth_one]) | fail | ((with_reducible refine m_pure ?_); refine run_pure rfl rfl (fun K hK => ?_); go_simp; refine hK _ ?_; clear hK K))
                refine ext_at rfl ?_
                ((with_reducible refine g_alloc (T := 34) ?_); refine seq_alloc (T := 34) hS Try.zeroValue34 (fun b20 wb20 hS => ?_); simp only [Act.put, List.setIfInBounds_toArray, List.set_cons_succ, List.set_cons_zero, Int.toNat_natCast, Int.toNat_zero, Int.toNat_one, nth_zero, nth_one]; simp only [List.cons_append, List.nil_append, List.set_cons_succ, List.set_cons_zero, Value.cells, iv_snoc, tv_snoc] at hS)
                refine ext_end (hS.sub (by repeat (first | exact List.Sublist.refl _ | apply List.Sublist.cons_cons | apply List.Sublist.cons | exact List.nil_sublist _))) ?_
                repeat (first | ((first | ((with_reducible refine m_pure ?_); refine skip_pure rfl rfl ?_) | ((with_reducible refine m_read ?_); refine skip_read rfl rfl ?_)); simp only [Act.put, List.setIfInBounds_toArray, List.set_cons_succ, List.set_cons_zero, Int.toNat_natCast, Int.toNat_zero, Int.toNat_one, nth_zero, nth_one]) | fail | ((with_reducible refine m_pure ?_); refine run_pure rfl rfl (fun K hK => ?_); go_simp; refine hK _ ?_; clear hK K))
                refine mut_at rfl ?_
                ((with_reducible refine g_store (T := 34) ?_); refine seq_store (T := 34) (u := .agg #[.slice _ _ _, .slice _ _ _]) 6 hS rfl rfl rfl Try.sizeOf34 (by simp [Value.cells, Value.oneCell']) (by simp [Value.cells]) (fun _ hS => ?_); simp only [Act.put, List.setIfInBounds_toArray, List.set_cons_succ, List.set_cons_zero, Int.toNat_natCast, Int.toNat_zero, Int.toNat_one, nth_zero, nth_one]; simp only [List.cons_append, List.nil_append, List.set_cons_succ, List.set_cons_zero, Value.cells, iv_snoc, tv_snoc] at hS; simp only [List.take_zero, List.nil_append, List.append_nil, List.drop_succ_cons, List.drop_zero, List.drop_nil, List.take_succ_cons, List.cons_append, List.size_toArray, List.length_cons, List.length_nil, Nat.reduceAdd] at hS)
                refine mut_end ?_
                repeat (first | ((first | ((with_reducible refine m_pure ?_); refine skip_pure rfl rfl ?_) | ((with_reducible refine m_read ?_); refine skip_read rfl rfl ?_)); simp only [Act.put, List.setIfInBounds_toArray, List.set_cons_succ, List.set_cons_zero, Int.toNat_natCast, Int.toNat_zero, Int.toNat_one, nth_zero, nth_one]) | fail | ((with_reducible refine m_pure ?_); refine run_pure rfl rfl (fun K hK => ?_); go_simp; refine hK _ ?_; clear hK K))
                refine sched_nil ?_
                simp only [NoPanic]
                exact hR b20 ao co gw gcw gn gcn ai ci cc l Wq Nq G _ ⟨hCR, _, _, hs, hgw, hgn, hgi, hS⟩
              · refine fork_op rfl ?_
                ((with_reducible refine g_alloc (T := 34) ?_); refine seq_alloc (T := 34) hS Try.zeroValue34 (fun b20 wb20 hS => ?_); simp only [Act.put, List.setIfInBounds_toArray, List.set_cons_succ, List.set_cons_zero, Int.toNat_natCast, Int.toNat_zero, Int.toNat_one, nth_zero, nth_one]; simp only [List.cons_append, List.nil_append, List.set_cons_succ, List.set_cons_zero, Value.cells, iv_snoc, tv_snoc] at hS)
                refine ext_end (hS.sub (by repeat (first | exact List.Sublist.refl _ | apply List.Sublist.cons_cons | apply List.Sublist.cons | exact List.nil_sublist _))) ?_
                refine tr_line ?_
                refine ext_at rfl ?_
                go_wp2_with (fail)
                refine (collapse_all _ _ _ _ _ (hg.arg hS (List.mem_of_getElem? (i := 1) rfl)) hyi).mono ?_
                rintro e w' ⟨hBc, ao, co, gw, gcw, gn, gcn, ai, ci, cc, l, Wq, Nq, G, rfl, hs, hgw, hgn, hgi, hCR⟩
                simp only []
                go_step
                have hS := hS.call hBc
                simp only [List.cons_append, List.nil_append, List.set_cons_succ, List.set_cons_zero, Value.cells, iv_snoc, tv_snoc] at hS
                refine ext_end (hS.sub (by repeat (first | exact List.Sublist.refl _ | apply List.Sublist.cons_cons | apply List.Sublist.cons | exact List.nil_sublist _))) ?_
                repeat (first | ((first | ((with_reducible refine m_pure ?_); refine skip_pure rfl rfl ?_) | ((with_reducible refine m_read ?_); refine skip_read rfl rfl ?_)); simp only [Act.put, List.setIfInBounds_toArray, List.set_cons_succ, List.set_cons_zero, Int.toNat_natCast, Int.toNat_zero, Int.toNat_one, nth_zero, nth_one]) | fail | ((with_reducible refine m_pure ?_); refine run_pure rfl rfl (fun K hK => ?_); go_simp; refine hK _ ?_; clear hK K))
                refine mut_at rfl ?_
                ((with_reducible refine g_store (T := 34) ?_); refine seq_store (T := 34) (u := .agg #[.slice _ _ _, .slice _ _ _]) 5 hS rfl rfl rfl Try.sizeOf34 (by simp [Value.cells, Value.oneCell']) (by simp [Value.cells]) (fun _ hS => ?_); simp only [Act.put, List.setIfInBounds_toArray, List.set_cons_succ, List.set_cons_zero, Int.toNat_natCast, Int.toNat_zero, Int.toNat_one, nth_zero, nth_one]; simp only [List.cons_append, List.nil_append, List.set_cons_succ, List.set_cons_zero, Value.cells, iv_snoc, tv_snoc] at hS; simp only [List.take_zero, List.nil_append, List.append_nil, List.drop_succ_cons, List.drop_zero, List.drop_nil, List.take_succ_cons, List.cons_append, List.size_toArray, List.length_cons, List.length_nil, Nat.reduceAdd] at hS)
                refine mut_end ?_
                repeat (first | ((first | ((with_reducible refine m_pure ?_); refine skip_pure rfl rfl ?_) | ((with_reducible refine m_read ?_); refine skip_read rfl rfl ?_)); simp only [Act.put, List.setIfInBounds_toArray, List.set_cons_succ, List.set_cons_zero, Int.toNat_natCast, Int.toNat_zero, Int.toNat_one, nth_zero, nth_one]) | fail | ((with_reducible refine m_pure ?_); refine run_pure rfl rfl (fun K hK => ?_); go_simp; refine hK _ ?_; clear hK K))
                refine sched_nil ?_
                simp only [NoPanic]
                exact hR b20 ao co gw gcw gn gcn ai ci cc l Wq Nq G _ ⟨hCR, _, _, hs, hgw, hgn, hgi, hS.order [0, 1, 2, 3, 4, 6, 5] rfl⟩
            · refine fork_op rfl ?_
              ((with_reducible refine g_alloc (T := 34) ?_); refine seq_alloc (T := 34) hS Try.zeroValue34 (fun b20 wb20 hS => ?_); simp only [Act.put, List.setIfInBounds_toArray, List.set_cons_succ, List.set_cons_zero, Int.toNat_natCast, Int.toNat_zero, Int.toNat_one, nth_zero, nth_one]; simp only [List.cons_append, List.nil_append, List.set_cons_succ, List.set_cons_zero, Value.cells, iv_snoc, tv_snoc] at hS)
              refine ext_end (hS.sub (by repeat (first | exact List.Sublist.refl _ | apply List.Sublist.cons_cons | apply List.Sublist.cons | exact List.nil_sublist _))) ?_
              refine tr_line ?_
              refine ext_at rfl ?_
              go_wp2_with (fail)
              refine (own_any _ _ _ _ (hg.arg hS (List.mem_of_getElem? (i := 1) rfl))).mono ?_
              rintro e w' ⟨rfl, hB⟩
              simp only []
              go_step
              have hS := hS.below hB
              refine ext_end (hS.sub (by repeat (first | exact List.Sublist.refl _ | apply List.Sublist.cons_cons | apply List.Sublist.cons | exact List.nil_sublist _))) ?_
              refine ext_at rfl ?_
              go_wp2_with (fail)
              refine (collapse_all _ _ _ _ _ (hg.arg hS (List.mem_of_getElem? (i := 1) rfl)) hyi).mono ?_
              rintro e w' ⟨hBc, ao, co, gw, gcw, gn, gcn, ai, ci, cc, l, Wq, Nq, G, rfl, hs, hgw, hgn, hgi, hCR⟩
              simp only []
              go_step
              have hS := hS.call hBc
              simp only [List.cons_append, List.nil_append, List.set_cons_succ, List.set_cons_zero, Value.cells, iv_snoc, tv_snoc] at hS
              refine ext_end (hS.sub (by repeat (first | exact List.Sublist.refl _ | apply List.Sublist.cons_cons | apply List.Sublist.cons | exact List.nil_sublist _))) ?_
              repeat (first | ((first | ((with_reducible refine m_pure ?_); refine skip_pure rfl rfl ?_) | ((with_reducible refine m_read ?_); refine skip_read rfl rfl ?_)); simp only [Act.put, List.setIfInBounds_toArray, List.set_cons_succ, List.set_cons_zero, Int.toNat_natCast, Int.toNat_zero, Int.toNat_one, nth_zero, nth_one]) | fail | ((with_reducible refine m_pure ?_); refine run_pure rfl rfl (fun K hK => ?_); go_simp; refine hK _ ?_; clear hK K))
              refine mut_at rfl ?_
              ((with_reducible refine g_store (T := 34) ?_); refine seq_store (T := 34) (u := .agg #[.slice _ _ _, .slice _ _ _]) 5 hS rfl rfl rfl Try.sizeOf34 (by simp [Value.cells, Value.oneCell']) (by simp [Value.cells]) (fun _ hS => ?_); simp only [Act.put, List.setIfInBounds_toArray, List.set_cons_succ, List.set_cons_zero, Int.toNat_natCast, Int.toNat_zero, Int.toNat_one, nth_zero, nth_one]; simp only [List.cons_append, List.nil_append, List.set_cons_succ, List.set_cons_zero, Value.cells, iv_snoc, tv_snoc] at hS; simp only [List.take_zero, List.nil_append, List.append_nil, List.drop_succ_cons, List.drop_zero, List.drop_nil, List.take_succ_cons, List.cons_append, List.size_toArray, List.length_cons, List.length_nil, Nat.reduceAdd] at hS)
              refine mut_end ?_
              repeat (first | ((first | ((with_reducible refine m_pure ?_); refine skip_pure rfl rfl ?_) | ((with_reducible refine m_read ?_); refine skip_read rfl rfl ?_)); simp only [Act.put, List.setIfInBounds_toArray, List.set_cons_succ, List.set_cons_zero, Int.toNat_natCast, Int.toNat_zero, Int.toNat_one, nth_zero, nth_one]) | fail | ((with_reducible refine m_pure ?_); refine run_pure rfl rfl (fun K hK => ?_); go_simp; refine hK _ ?_; clear hK K))
              refine sched_nil ?_
              simp only [NoPanic]
              exact hR b20 ao co gw gcw gn gcn ai ci cc l Wq Nq G _ ⟨hCR, _, _, hs, hgw, hgn, hgi, hS.order [0, 1, 2, 3, 4, 6, 5] rfl⟩
          case hrest =>
            clear hS
            rintro b20 ao co gw gcw gn gcn ai ci cc l Wq Nq G w3 ⟨hCR, SC, wC, hs, hgw, hgn, hgi, hS⟩
            rcases hCR with ⟨hnv, rfl, rfl, rfl, rfl, rfl⟩ | ⟨hVG, l0, hcol, hres⟩
            · have hF' : fc = validN W N ∧ F = [] := by
                rcases hFR with ⟨_, h1, h2⟩ | ⟨hv, _, _⟩
                · exact ⟨h1, h2⟩
                · exact absurd (valid_of_VG hv) hnv
              obtain ⟨rfl, rfl⟩ := hF'
              have f1 : (((validN W N : Nat) : Int) != 0) = true := by simp; omega
              have f2 : (((validN W N : Nat) : Int) != (validN W N : Nat)) = false := by simp
              clear hFR
              go_step
              go_wp2_with (first | ((with_reducible refine g_load (T := 22) ?_); refine seq_of hS rfl (stp_load_blk (T := 22) 6 Try.isAgg22 rfl rfl rfl ?_); simp only [Act.put, List.setIfInBounds_toArray, List.set_cons_succ, List.set_cons_zero, Int.toNat_natCast, Int.toNat_zero, Int.toNat_one, nth_zero, nth_one]))
              go_roundw
              case rel => exact ⟨q + 1, by omega, by go_num, (hS.sub (by repeat (first | exact List.Sublist.refl _ | apply List.Sublist.cons_cons | apply List.Sublist.cons | exact List.nil_sublist _)))⟩
              case measure => simp [intOf]; omega
            · have hv0 := valid_of_VG hVG
              have hF' : fc = 0 ∧ F = finds W N (List.range W.length) y := by
                rcases hFR with ⟨h, _, _⟩ | ⟨_, h1, h2⟩
                · exact absurd hv0 h
                · exact ⟨h1, h2⟩
              obtain ⟨rfl, hFe⟩ := hF'
              have f1 : (((validN W N : Nat) : Int) != 0) = false := by rw [hv0]; rfl
              have hgr := hcol.1.gr0.1
              have hcl := hgr.len
              have hll := hcol.1.gr0.2
              have hWl := hVG.wlen
              obtain ⟨cur, hcur⟩ : ∃ cur, runOf (List.range W.length) l0 = cur := ⟨_, rfl⟩
              have hind : ∀ (af : Option Addr) (cf : Nat) (w : World), Nats w (Old w) (.slice af W.length cf) cur → Calls Try.prog 16 #[.slice af W.length cf] w fun e w' => ∃ a' c', e = .returned (.slice a' W.length c') ∧ Below w.heap.size w w' ∧ Nats w' (New w w') (.slice a' W.length c') (idx cur) := by
                intro af cf w h
                have := indices_any af W.length cf cur w h (by rw [← hcur, hcl]; exact hgr) (by rw [← hcur, hcl]; exact hWl)
                rw [show cur.length = W.length by rw [← hcur]; exact hcl] at this
                exact this
              have hfind : ∀ w, GraphAt w (Old w) (.agg #[.slice aw W.length cw, .slice an N.length cn]) W N → Calls Try.prog 19 #[.agg #[.slice aw W.length cw, .slice an N.length cn], .int .i64 y] w fun e w' => ∃ a c, e = .returned (.slice a F.length c) ∧ Below w.heap.size w w' ∧ Nats w' (New w w') (.slice a F.length c) F := by
                intro w h
                rw [hFe]
                exact reffind_any _ _ _ _ _ h hVG hyi
              have hrv : ∀ w, GraphAt w (Old w) (.agg #[.slice aw W.length cw, .slice an N.length cn]) W N → Calls Try.prog 11 #[.agg #[.slice aw W.length cw, .slice an N.length cn]] w fun e w' => e = .returned (.int .i64 0) ∧ Below w.heap.size w w' := by
                intro w h
                refine (refvalid_any _ _ _ _ h).mono ?_
                rintro e w' ⟨rfl, hB⟩
                exact ⟨by rw [hv0]; rfl, hB⟩
              rw [hcur] at hres hgr hcl
              have HIND := Lib.hid hind
              have HFIND := Lib.hid hfind
              have HRV := Lib.hid hrv
              have HRES := Lib.hid hres
              have HD : Hid (decide (zs F = zs F) = true) := by unfold Hid; simp
              have hl4 : l0.length ≤ 4096 := by omega
              clear hFR hFe hind hfind hrv hres hv0
              go_step
              go_wp2_with (fail)
              refine wp_region_sched [.pure 0, .pure 1, .pure 2, .read 3, .pure 4, .pure 5, .pure 6, .read 7, .ext 8, .pure 9, .pure 10, .pure 11, .pure 12, .pure 13] [] (fun w' => Heap w w' _) (by kernel_rfl) (by as_aux_lemma => kernel_rfl) hS.drew (fun w1 hS => ?_)
              repeat (first | ((first | ((with_reducible refine m_pure ?_); refine skip_pure rfl rfl ?_) | ((with_reducible refine m_read ?_); refine skip_read rfl rfl ?_)); simp only [Act.put, List.setIfInBounds_toArray, List.set_cons_succ, List.set_cons_zero, Int.toNat_natCast, Int.toNat_zero, Int.toNat_one, nth_zero, nth_one]) | ((with_reducible refine m_pure ?_); refine sched_any rfl rfl (any_index_atk (T := 28) Try.underlying28 Try.sizeOf25 rfl rfl (by omega) (by omega) ?_); simp only [Act.put, List.setIfInBounds_toArray, List.set_cons_succ, List.set_cons_zero, Int.toNat_natCast, Int.toNat_zero, Int.toNat_one, nth_zero, nth_one]; simp only [Nat.zero_add, Int.toNat_natCast]) | (((with_reducible refine m_read ?_); refine sched_of rfl rfl (stp_loadk_blk (T := 25) 2 Try.isAgg25 Try.sizeOf25 rfl rfl (by omega) ?_); simp only [Act.put, List.setIfInBounds_toArray, List.set_cons_succ, List.set_cons_zero, Int.toNat_natCast, Int.toNat_zero, Int.toNat_one, nth_zero, nth_one]); rw [HA.out]) | ((with_reducible refine m_pure ?_); refine sched_any rfl rfl (any_index_at (T := 22) Try.underlying22 Try.sizeOf3 rfl rfl (by omega) (by omega) ?_); simp only [Act.put, List.setIfInBounds_toArray, List.set_cons_succ, List.set_cons_zero, Int.toNat_natCast, Int.toNat_zero, Int.toNat_one, nth_zero, nth_one]; simp only [Nat.zero_add, Int.toNat_natCast]) | ((with_reducible refine m_read ?_); refine sched_of rfl rfl (stp_load_blk (T := 3) 3 Try.isAgg3 rfl rfl HY.out ?_); simp only [Act.put, List.setIfInBounds_toArray, List.set_cons_succ, List.set_cons_zero, Int.toNat_natCast, Int.toNat_zero, Int.toNat_one, nth_zero, nth_one]) | ((with_reducible refine m_pure ?_); refine run_pure rfl rfl (fun K hK => ?_); go_simp; refine hK _ ?_; clear hK K))
              refine ext_at rfl ?_
              go_wp2_with (fail)
              refine (refcollapse_any _ _ _ _ _ (hg.arg hS (List.mem_of_getElem? (i := 1) rfl)) hVG hyi).mono ?_
              rintro e w' ⟨hBr, l1, ao1, co1, af1, cf1, hcol1, rfl, hs1, hof1⟩
              simp only []
              go_step
              obtain rfl := Col.unique hcol1 hcol
              rw [hcur] at hof1
              have hS := hS.call hBr
              simp only [List.cons_append, List.nil_append, List.set_cons_succ, List.set_cons_zero, Value.cells, iv_snoc, tv_snoc] at hS
              generalize New _ w' = SR at *
              refine ext_end (hS.sub (by repeat (first | exact List.Sublist.refl _ | apply List.Sublist.cons_cons | apply List.Sublist.cons | exact List.nil_sublist _))) ?_
              repeat (first | ((first | ((with_reducible refine m_pure ?_); refine skip_pure rfl rfl ?_) | ((with_reducible refine m_read ?_); refine skip_read rfl rfl ?_)); simp only [Act.put, List.setIfInBounds_toArray, List.set_cons_succ, List.set_cons_zero, Int.toNat_natCast, Int.toNat_zero, Int.toNat_one, nth_zero, nth_one]) | fail | ((with_reducible refine m_pure ?_); refine run_pure rfl rfl (fun K hK => ?_); go_simp; refine hK _ ?_; clear hK K))
              refine sched_nil ?_
              simp only [NoPanic]
              revert hS
              repeat (rename Heap _ _ _ => hZ; clear hZ)
              repeat (rename CellsAt _ _ _ _ => hZ; clear hZ)
              repeat (rename Below _ _ _ => hZ; clear hZ)
              intro hS
              go_wp2_with (first | (go_at_call 16; refine (HIND.out _ _ _ (hof1.arg hS (List.mem_of_getElem? (i := 7) rfl))).mono ?_; rintro e wi ⟨ai1, ci1, rfl, hBi, hidx⟩; have hS := hS.call hBi; simp only [List.cons_append, List.nil_append, List.set_cons_succ, List.set_cons_zero, Value.cells, iv_snoc, tv_snoc] at hS) | ((with_reducible refine g_idx (T := 28) ?_); refine seq_any rfl (any_index_atk (T := 28) Try.underlying28 Try.sizeOf25 rfl rfl (by omega) (by omega) ?_); simp only [Act.put, List.setIfInBounds_toArray, List.set_cons_succ, List.set_cons_zero, Int.toNat_natCast, Int.toNat_zero, Int.toNat_one, nth_zero, nth_one]; simp only [Nat.zero_add, Int.toNat_natCast]) | (((with_reducible refine g_load (T := 25) ?_); refine seq_of hS rfl (stp_loadk_blk (T := 25) 2 Try.isAgg25 Try.sizeOf25 rfl rfl (by omega) ?_); simp only [Act.put, List.setIfInBounds_toArray, List.set_cons_succ, List.set_cons_zero, Int.toNat_natCast, Int.toNat_zero, Int.toNat_one, nth_zero, nth_one]); rw [HA.out]) | ((with_reducible refine g_bs (T := 45) ?_); refine seq_bs1 (T := 45) (v := .slice _ _ _) hS Try.underlying45 Try.sizeOf22 Try.zeroValue22 rfl rfl rfl (by decide) (by decide) rfl (fun _ _ hS => ?_); simp only [Act.put, List.setIfInBounds_toArray, List.set_cons_succ, List.set_cons_zero, Int.toNat_natCast, Int.toNat_zero, Int.toNat_one, nth_zero, nth_one]; simp only [Value.cells] at hS))
              simp only [List.cons_append, List.nil_append, List.set_cons_succ, List.set_cons_zero, Value.cells, iv_snoc, tv_snoc] at hS
              refine (refat_any _ _ _ _ _ _ _ W N cur _ (hg.arg hS (List.mem_of_getElem? (i := 1) rfl)) hVG hsm hgr (hidx.arg hS (List.mem_of_getElem? (i := 8) rfl)) (hS.fz 9 rfl) HRV.out).mono ?_
              rintro e wt ⟨hBt, ⟨ho, rfl⟩ | ⟨ho, gq, rfl, hgq⟩⟩
              · rcases HRES.out with ⟨_, rfl, rfl, rfl, rfl, rfl⟩ | ⟨ho2, _⟩
                · have hS := hS.below hBt
                  clear HRES
                  simp only []
                  go_step
                  go_wp2_with (first | ((with_reducible refine g_alloc (T := 25) ?_); refine seq_alloc (T := 25) hS Try.zeroValue25 (fun b26 wb26 hS => ?_); simp only [Act.put, List.setIfInBounds_toArray, List.set_cons_succ, List.set_cons_zero, Int.toNat_natCast, Int.toNat_zero, Int.toNat_one, nth_zero, nth_one]; simp only [List.cons_append, List.nil_append, List.set_cons_succ, List.set_cons_zero, Value.cells, iv_snoc, tv_snoc] at hS) | ((with_reducible refine g_store (T := 25) ?_); refine seq_store (T := 25) (u := .agg #[.slice none 0 0, .slice none 0 0]) 10 hS rfl rfl rfl Try.sizeOf25 (by simp [Value.cells, Value.oneCell']) (by simp [Value.cells]) (fun _ hS => ?_); simp only [Act.put, List.setIfInBounds_toArray, List.set_cons_succ, List.set_cons_zero, Int.toNat_natCast, Int.toNat_zero, Int.toNat_one, nth_zero, nth_one]; simp only [List.cons_append, List.nil_append, List.set_cons_succ, List.set_cons_zero, Value.cells, iv_snoc, tv_snoc] at hS; simp only [List.take_zero, List.nil_append, List.append_nil, List.drop_succ_cons, List.drop_zero, List.drop_nil, List.take_succ_cons, List.cons_append, List.size_toArray, List.length_cons, List.length_nil, Nat.reduceAdd] at hS))
                  revert hS
                  repeat (rename Heap _ _ _ => hZ; clear hZ)
                  repeat (rename CellsAt _ _ _ _ => hZ; clear hZ)
                  repeat (rename Below _ _ _ => hZ; clear hZ)
                  intro hS
                  refine wp_region_sched [.pure 0, .pure 1, .pure 2, .pure 3, .pure 4, .pure 5, .pure 6, .pure 7, .pure 8, .pure 9, .pure 10, .pure 11, .read 12, .pure 13, .pure 14, .pure 15, .read 16, .ext 17, .ext 18, .pure 19, .pure 20] [] (fun w' => Heap w w' _) (by kernel_rfl) (by as_aux_lemma => kernel_rfl) hS.drew (fun w1 hS => ?_)
                  repeat (first | ((first | ((with_reducible refine m_pure ?_); refine skip_pure rfl rfl ?_) | ((with_reducible refine m_read ?_); refine skip_read rfl rfl ?_)); simp only [Act.put, List.setIfInBounds_toArray, List.set_cons_succ, List.set_cons_zero, Int.toNat_natCast, Int.toNat_zero, Int.toNat_one, nth_zero, nth_one]) | ((with_reducible refine m_pure ?_); refine sched_any rfl rfl (any_index_atk (T := 28) Try.underlying28 Try.sizeOf25 rfl rfl (by omega) (by omega) ?_); simp only [Act.put, List.setIfInBounds_toArray, List.set_cons_succ, List.set_cons_zero, Int.toNat_natCast, Int.toNat_zero, Int.toNat_one, nth_zero, nth_one]; simp only [Nat.zero_add, Int.toNat_natCast]) | (((with_reducible refine m_read ?_); refine sched_of rfl rfl (stp_loadk_blk (T := 25) 2 Try.isAgg25 Try.sizeOf25 rfl rfl (by omega) ?_); simp only [Act.put, List.setIfInBounds_toArray, List.set_cons_succ, List.set_cons_zero, Int.toNat_natCast, Int.toNat_zero, Int.toNat_one, nth_zero, nth_one]); rw [HA.out]) | ((with_reducible refine m_pure ?_); refine sched_any rfl rfl (any_index_at (T := 22) Try.underlying22 Try.sizeOf3 rfl rfl (by omega) (by omega) ?_); simp only [Act.put, List.setIfInBounds_toArray, List.set_cons_succ, List.set_cons_zero, Int.toNat_natCast, Int.toNat_zero, Int.toNat_one, nth_zero, nth_one]; simp only [Nat.zero_add, Int.toNat_natCast]) | ((with_reducible refine m_read ?_); refine sched_of rfl rfl (stp_load_blk (T := 3) 3 Try.isAgg3 rfl rfl HY.out ?_); simp only [Act.put, List.setIfInBounds_toArray, List.set_cons_succ, List.set_cons_zero, Int.toNat_natCast, Int.toNat_zero, Int.toNat_one, nth_zero, nth_one]) | ((with_reducible refine m_pure ?_); refine run_pure rfl rfl (fun K hK => ?_); go_simp; refine hK _ ?_; clear hK K))
                  refine ext_at rfl ?_
                  go_wp2_with (fail)
                  refine (HFIND.out _ (hg.arg hS (List.mem_of_getElem? (i := 1) rfl))).mono ?_
                  rintro e w' ⟨fa2, fk2, rfl, hBq, hF2⟩
                  simp only []
                  go_step
                  have hS := hS.call hBq
                  simp only [List.cons_append, List.nil_append, List.set_cons_succ, List.set_cons_zero, Value.cells, iv_snoc, tv_snoc] at hS
                  generalize New _ w' = SQ at *
                  refine ext_end (hS.sub (by repeat (first | exact List.Sublist.refl _ | apply List.Sublist.cons_cons | apply List.Sublist.cons | exact List.nil_sublist _))) ?_
                  refine ext_at rfl ?_
                  go_wp2_with (fail)
                  refine (sameInts_any _ _ _ _ _ _ _ _ _ (hF.arg hS (List.mem_of_getElem? (i := 4) rfl)) (hF2.arg hS (List.mem_of_getElem? (i := 11) rfl))).mono ?_
                  rintro e w' ⟨rfl, hBs⟩
                  simp only []
                  go_step
                  have hS := hS.below hBs
                  try rw [show decide (zs F = zs F) = true by simp]
                  refine ext_end (hS.sub (by repeat (first | exact List.Sublist.refl _ | apply List.Sublist.cons_cons | apply List.Sublist.cons | exact List.nil_sublist _))) ?_
                  repeat (first | ((first | ((with_reducible refine m_pure ?_); refine skip_pure rfl rfl ?_) | ((with_reducible refine m_read ?_); refine skip_read rfl rfl ?_)); simp only [Act.put, List.setIfInBounds_toArray, List.set_cons_succ, List.set_cons_zero, Int.toNat_natCast, Int.toNat_zero, Int.toNat_one, nth_zero, nth_one]) | fail | ((with_reducible refine m_pure ?_); refine run_pure rfl rfl (fun K hK => ?_); go_simp; refine hK _ ?_; clear hK K))
                  refine sched_nil ?_
                  simp only [NoPanic]
                  revert hS
                  repeat (rename Heap _ _ _ => hZ; clear hZ)
                  repeat (rename CellsAt _ _ _ _ => hZ; clear hZ)
                  repeat (rename Below _ _ _ => hZ; clear hZ)
                  intro hS
                  go_wp2_with (fail)
                  refine wp_region_sched [.pure 0, .pure 1, .pure 2, .pure 3, .pure 4, .ext 5, .pure 6, .pure 7, .pure 8, .pure 9, .ext 10, .pure 11, .pure 12, .pure 13, .read 14, .read 16, .ext 15, .ext 17, .pure 18, .pure 19, .pure 20] [] (fun w' => Heap w w' _) (by kernel_rfl) (by as_aux_lemma => kernel_rfl) hS.drew (fun w1 hS => ?_)
                  repeat (first | ((first | ((with_reducible refine m_pure ?_); refine skip_pure rfl rfl ?_) | ((with_reducible refine m_read ?_); refine skip_read rfl rfl ?_)); simp only [Act.put, List.setIfInBounds_toArray, List.set_cons_succ, List.set_cons_zero, Int.toNat_natCast, Int.toNat_zero, Int.toNat_one, nth_zero, nth_one]) | fail | ((with_reducible refine m_pure ?_); refine run_pure rfl rfl (fun K hK => ?_); go_simp; refine hK _ ?_; clear hK K))
                  refine ext_at rfl ?_
                  refine wpList_unwanted rfl ?_
                  simp only [Act.put, List.setIfInBounds_toArray, List.set_cons_succ, List.set_cons_zero, Int.toNat_natCast, Int.toNat_zero, Int.toNat_one, nth_zero, nth_one]
                  refine ext_end (hS.sub (by repeat (first | exact List.Sublist.refl _ | apply List.Sublist.cons_cons | apply List.Sublist.cons | exact List.nil_sublist _))) ?_
                  repeat (first | ((first | ((with_reducible refine m_pure ?_); refine skip_pure rfl rfl ?_) | ((with_reducible refine m_read ?_); refine skip_read rfl rfl ?_)); simp only [Act.put, List.setIfInBounds_toArray, List.set_cons_succ, List.set_cons_zero, Int.toNat_natCast, Int.toNat_zero, Int.toNat_one, nth_zero, nth_one]) | fail | ((with_reducible refine m_pure ?_); refine run_pure rfl rfl (fun K hK => ?_); go_simp; refine hK _ ?_; clear hK K))
                  refine ext_at rfl ?_
                  refine wpList_unwanted rfl ?_
                  simp only [Act.put, List.setIfInBounds_toArray, List.set_cons_succ, List.set_cons_zero, Int.toNat_natCast, Int.toNat_zero, Int.toNat_one, nth_zero, nth_one]
                  refine ext_end (hS.sub (by repeat (first | exact List.Sublist.refl _ | apply List.Sublist.cons_cons | apply List.Sublist.cons | exact List.nil_sublist _))) ?_
                  repeat (first | ((first | ((with_reducible refine m_pure ?_); refine skip_pure rfl rfl ?_) | ((with_reducible refine m_read ?_); refine skip_read rfl rfl ?_)); simp only [Act.put, List.setIfInBounds_toArray, List.set_cons_succ, List.set_cons_zero, Int.toNat_natCast, Int.toNat_zero, Int.toNat_one, nth_zero, nth_one]) | fail | ((with_reducible refine m_pure ?_); refine run_pure rfl rfl (fun K hK => ?_); go_simp; refine hK _ ?_; clear hK K))
                  refine ext_at rfl ?_
                  refine wpList_unwanted rfl ?_
                  simp only [Act.put, List.setIfInBounds_toArray, List.set_cons_succ, List.set_cons_zero, Int.toNat_natCast, Int.toNat_zero, Int.toNat_one, nth_zero, nth_one]
                  refine ext_end (hS.sub (by repeat (first | exact List.Sublist.refl _ | apply List.Sublist.cons_cons | apply List.Sublist.cons | exact List.nil_sublist _))) ?_
                  refine ext_at rfl ?_
                  refine wpList_unwanted rfl ?_
                  simp only [Act.put, List.setIfInBounds_toArray, List.set_cons_succ, List.set_cons_zero, Int.toNat_natCast, Int.toNat_zero, Int.toNat_one, nth_zero, nth_one]
                  refine ext_end (hS.sub (by repeat (first | exact List.Sublist.refl _ | apply List.Sublist.cons_cons | apply List.Sublist.cons | exact List.nil_sublist _))) ?_
                  repeat (first | ((first | ((with_reducible refine m_pure ?_); refine skip_pure rfl rfl ?_) | ((with_reducible refine m_read ?_); refine skip_read rfl rfl ?_)); simp only [Act.put, List.setIfInBounds_toArray, List.set_cons_succ, List.set_cons_zero, Int.toNat_natCast, Int.toNat_zero, Int.toNat_one, nth_zero, nth_one]) | fail | ((with_reducible refine m_pure ?_); refine run_pure rfl rfl (fun K hK => ?_); go_simp; refine hK _ ?_; clear hK K))
                  refine sched_nil ?_
                  simp only [NoPanic]
                  revert hS
                  repeat (rename Heap _ _ _ => hZ; clear hZ)
                  repeat (rename CellsAt _ _ _ _ => hZ; clear hZ)
                  repeat (rename Below _ _ _ => hZ; clear hZ)
                  intro hS
                  go_wp2_with (first | ((with_reducible refine g_load (T := 22) ?_); refine seq_of hS rfl (stp_load_blk (T := 22) 6 Try.isAgg22 rfl rfl rfl ?_); simp only [Act.put, List.setIfInBounds_toArray, List.set_cons_succ, List.set_cons_zero, Int.toNat_natCast, Int.toNat_zero, Int.toNat_one, nth_zero, nth_one]))
                  go_roundw
                  case rel => exact ⟨q + 1, by omega, by go_num, (hS.sub (by repeat (first | exact List.Sublist.refl _ | apply List.Sublist.cons_cons | apply List.Sublist.cons | exact List.nil_sublist _)))⟩
                  case measure => simp [intOf]; omega
                · rw [ho] at ho2; cases ho2
              · rcases HRES.out with ⟨ho2, _⟩ | ⟨_, rfl, rfl, rfl, rfl, rfl⟩
                · rw [ho] at ho2; cases ho2
                · have hS := hS.call hBt
                  simp only [List.cons_append, List.nil_append, List.set_cons_succ, List.set_cons_zero, Value.cells, iv_snoc, tv_snoc] at hS
                  clear HRES
                  obtain ⟨qw, qcw, qn, qcn, rfl, hqw, hqn⟩ := hgq
                  have hgq : GraphAt wt _ (.agg #[.slice qw (qW W cur).length qcw, .slice qn (qN N cur).length qcn]) (qW W cur) (qN N cur) := ⟨qw, qcw, qn, qcn, rfl, hqw, hqn⟩
                  have hgl : GraphAt wC SC (.agg #[.slice gw (qW W cur).length gcw, .slice gn (qN N cur).length gcn]) (qW W cur) (qN N cur) := ⟨gw, gcw, gn, gcn, rfl, hgw, hgn⟩
                  simp only []
                  go_step
                  go_wp2_with (first | ((with_reducible refine g_alloc (T := 25) ?_); refine seq_alloc (T := 25) hS Try.zeroValue25 (fun b26 wb26 hS => ?_); simp only [Act.put, List.setIfInBounds_toArray, List.set_cons_succ, List.set_cons_zero, Int.toNat_natCast, Int.toNat_zero, Int.toNat_one, nth_zero, nth_one]; simp only [List.cons_append, List.nil_append, List.set_cons_succ, List.set_cons_zero, Value.cells, iv_snoc, tv_snoc] at hS) | ((with_reducible refine g_store (T := 25) ?_); refine seq_store (T := 25) (u := .agg #[.slice _ _ _, .slice _ _ _]) 11 hS rfl rfl rfl Try.sizeOf25 (by simp [Value.cells, Value.oneCell']) (by simp [Value.cells]) (fun _ hS => ?_); simp only [Act.put, List.setIfInBounds_toArray, List.set_cons_succ, List.set_cons_zero, Int.toNat_natCast, Int.toNat_zero, Int.toNat_one, nth_zero, nth_one]; simp only [List.cons_append, List.nil_append, List.set_cons_succ, List.set_cons_zero, Value.cells, iv_snoc, tv_snoc] at hS; simp only [List.take_zero, List.nil_append, List.append_nil, List.drop_succ_cons, List.drop_zero, List.drop_nil, List.take_succ_cons, List.cons_append, List.size_toArray, List.length_cons, List.length_nil, Nat.reduceAdd] at hS))
                  revert hS
                  repeat (rename Heap _ _ _ => hZ; clear hZ)
                  repeat (rename CellsAt _ _ _ _ => hZ; clear hZ)
                  repeat (rename Below _ _ _ => hZ; clear hZ)
                  intro hS
                  refine wp_region_sched [.pure 0, .pure 1, .pure 2, .pure 3, .pure 4, .pure 5, .pure 6, .pure 7, .pure 8, .pure 9, .pure 10, .pure 11, .read 12, .pure 13, .pure 14, .pure 15, .read 16, .ext 17, .ext 18, .pure 19, .pure 20] [] (fun w' => Heap w w' _) (by kernel_rfl) (by as_aux_lemma => kernel_rfl) hS.drew (fun w1 hS => ?_)
                  repeat (first | ((first | ((with_reducible refine m_pure ?_); refine skip_pure rfl rfl ?_) | ((with_reducible refine m_read ?_); refine skip_read rfl rfl ?_)); simp only [Act.put, List.setIfInBounds_toArray, List.set_cons_succ, List.set_cons_zero, Int.toNat_natCast, Int.toNat_zero, Int.toNat_one, nth_zero, nth_one]) | ((with_reducible refine m_pure ?_); refine sched_any rfl rfl (any_index_atk (T := 28) Try.underlying28 Try.sizeOf25 rfl rfl (by omega) (by omega) ?_); simp only [Act.put, List.setIfInBounds_toArray, List.set_cons_succ, List.set_cons_zero, Int.toNat_natCast, Int.toNat_zero, Int.toNat_one, nth_zero, nth_one]; simp only [Nat.zero_add, Int.toNat_natCast]) | (((with_reducible refine m_read ?_); refine sched_of rfl rfl (stp_loadk_blk (T := 25) 2 Try.isAgg25 Try.sizeOf25 rfl rfl (by omega) ?_); simp only [Act.put, List.setIfInBounds_toArray, List.set_cons_succ, List.set_cons_zero, Int.toNat_natCast, Int.toNat_zero, Int.toNat_one, nth_zero, nth_one]); rw [HA.out]) | ((with_reducible refine m_pure ?_); refine sched_any rfl rfl (any_index_at (T := 22) Try.underlying22 Try.sizeOf3 rfl rfl (by omega) (by omega) ?_); simp only [Act.put, List.setIfInBounds_toArray, List.set_cons_succ, List.set_cons_zero, Int.toNat_natCast, Int.toNat_zero, Int.toNat_one, nth_zero, nth_one]; simp only [Nat.zero_add, Int.toNat_natCast]) | ((with_reducible refine m_read ?_); refine sched_of rfl rfl (stp_load_blk (T := 3) 3 Try.isAgg3 rfl rfl HY.out ?_); simp only [Act.put, List.setIfInBounds_toArray, List.set_cons_succ, List.set_cons_zero, Int.toNat_natCast, Int.toNat_zero, Int.toNat_one, nth_zero, nth_one]) | ((with_reducible refine m_pure ?_); refine run_pure rfl rfl (fun K hK => ?_); go_simp; refine hK _ ?_; clear hK K))
                  refine ext_at rfl ?_
                  go_wp2_with (fail)
                  refine (HFIND.out _ (hg.arg hS (List.mem_of_getElem? (i := 1) rfl))).mono ?_
                  rintro e w' ⟨fa2, fk2, rfl, hBq, hF2⟩
                  simp only []
                  go_step
                  have hS := hS.call hBq
                  simp only [List.cons_append, List.nil_append, List.set_cons_succ, List.set_cons_zero, Value.cells, iv_snoc, tv_snoc] at hS
                  generalize New _ w' = SQ at *
                  refine ext_end (hS.sub (by repeat (first | exact List.Sublist.refl _ | apply List.Sublist.cons_cons | apply List.Sublist.cons | exact List.nil_sublist _))) ?_
                  refine ext_at rfl ?_
                  go_wp2_with (fail)
                  refine (sameInts_any _ _ _ _ _ _ _ _ _ (hF.arg hS (List.mem_of_getElem? (i := 4) rfl)) (hF2.arg hS (List.mem_of_getElem? (i := 12) rfl))).mono ?_
                  rintro e w' ⟨rfl, hBs⟩
                  simp only []
                  go_step
                  have hS := hS.below hBs
                  try rw [show decide (zs F = zs F) = true by simp]
                  refine ext_end (hS.sub (by repeat (first | exact List.Sublist.refl _ | apply List.Sublist.cons_cons | apply List.Sublist.cons | exact List.nil_sublist _))) ?_
                  repeat (first | ((first | ((with_reducible refine m_pure ?_); refine skip_pure rfl rfl ?_) | ((with_reducible refine m_read ?_); refine skip_read rfl rfl ?_)); simp only [Act.put, List.setIfInBounds_toArray, List.set_cons_succ, List.set_cons_zero, Int.toNat_natCast, Int.toNat_zero, Int.toNat_one, nth_zero, nth_one]) | fail | ((with_reducible refine m_pure ?_); refine run_pure rfl rfl (fun K hK => ?_); go_simp; refine hK _ ?_; clear hK K))
                  refine sched_nil ?_
                  simp only [NoPanic]
                  revert hS
                  repeat (rename Heap _ _ _ => hZ; clear hZ)
                  repeat (rename CellsAt _ _ _ _ => hZ; clear hZ)
                  repeat (rename Below _ _ _ => hZ; clear hZ)
                  intro hS
                  go_wp2_with (fail)
                  refine wp_region_sched [.pure 0, .pure 1, .pure 2, .pure 3, .pure 4, .ext 5, .pure 6, .pure 7, .pure 8, .pure 9, .ext 10, .pure 11, .pure 12, .pure 13, .read 14, .read 16, .ext 15, .ext 17, .pure 18, .pure 19, .pure 20] [] (fun w' => Heap w w' _) (by kernel_rfl) (by as_aux_lemma => kernel_rfl) hS.drew (fun w1 hS => ?_)
                  repeat (first | ((first | ((with_reducible refine m_pure ?_); refine skip_pure rfl rfl ?_) | ((with_reducible refine m_read ?_); refine skip_read rfl rfl ?_)); simp only [Act.put, List.setIfInBounds_toArray, List.set_cons_succ, List.set_cons_zero, Int.toNat_natCast, Int.toNat_zero, Int.toNat_one, nth_zero, nth_one]) | fail | ((with_reducible refine m_pure ?_); refine run_pure rfl rfl (fun K hK => ?_); go_simp; refine hK _ ?_; clear hK K))
                  refine ext_at rfl ?_
                  go_wp2_with (fail)
                  refine (same_eq _ _ _ _ _ _ (SlC.arg hs hS (List.mem_of_getElem? (i := 5) rfl)) (SlC.arg hs1 hS (List.mem_of_getElem? (i := 7) rfl)) hl4).mono ?_
                  rintro e w' ⟨rfl, hBs⟩
                  simp only []
                  go_step
                  have hS := hS.below hBs
                  refine ext_end (hS.sub (by repeat (first | exact List.Sublist.refl _ | apply List.Sublist.cons_cons | apply List.Sublist.cons | exact List.nil_sublist _))) ?_
                  repeat (first | ((first | ((with_reducible refine m_pure ?_); refine skip_pure rfl rfl ?_) | ((with_reducible refine m_read ?_); refine skip_read rfl rfl ?_)); simp only [Act.put, List.setIfInBounds_toArray, List.set_cons_succ, List.set_cons_zero, Int.toNat_natCast, Int.toNat_zero, Int.toNat_one, nth_zero, nth_one]) | fail | ((with_reducible refine m_pure ?_); refine run_pure rfl rfl (fun K hK => ?_); go_simp; refine hK _ ?_; clear hK K))
                  refine ext_at rfl ?_
                  go_wp2_with (fail)
                  refine (sameInts_any _ _ _ _ _ _ _ _ _ (hgi.arg hS (List.mem_of_getElem? (i := 5) rfl)) (hidx.arg hS (List.mem_of_getElem? (i := 8) rfl))).mono ?_
                  rintro e w' ⟨rfl, hBs⟩
                  simp only []
                  go_step
                  have hS := hS.below hBs
                  try rw [show decide (zs (idx cur) = zs (idx cur)) = true by simp]
                  refine ext_end (hS.sub (by repeat (first | exact List.Sublist.refl _ | apply List.Sublist.cons_cons | apply List.Sublist.cons | exact List.nil_sublist _))) ?_
                  repeat (first | ((first | ((with_reducible refine m_pure ?_); refine skip_pure rfl rfl ?_) | ((with_reducible refine m_read ?_); refine skip_read rfl rfl ?_)); simp only [Act.put, List.setIfInBounds_toArray, List.set_cons_succ, List.set_cons_zero, Int.toNat_natCast, Int.toNat_zero, Int.toNat_one, nth_zero, nth_one]) | ((with_reducible refine m_read ?_); refine sched_of rfl rfl (stp_load_all (T := 34) 6 Try.isAgg34 Try.sizeOf34 rfl rfl rfl ?_); simp only [Act.put, List.setIfInBounds_toArray, List.set_cons_succ, List.set_cons_zero, Int.toNat_natCast, Int.toNat_zero, Int.toNat_one, nth_zero, nth_one]) | ((with_reducible refine m_read ?_); refine sched_of rfl rfl (stp_load_all (T := 25) 11 Try.isAgg25 Try.sizeOf25 rfl rfl rfl ?_); simp only [Act.put, List.setIfInBounds_toArray, List.set_cons_succ, List.set_cons_zero, Int.toNat_natCast, Int.toNat_zero, Int.toNat_one, nth_zero, nth_one]) | ((with_reducible refine m_pure ?_); refine run_pure rfl rfl (fun K hK => ?_); go_simp; refine hK _ ?_; clear hK K))
                  refine ext_at rfl ?_
                  go_wp2_with (fail)
                  refine (model_any _ _ _ _ (hgl.arg hS (List.mem_of_getElem? (i := 5) rfl))).mono ?_
                  rintro e w' ⟨rfl, hBs⟩
                  simp only []
                  go_step
                  have hS := hS.below hBs
                  refine ext_end (hS.sub (by repeat (first | exact List.Sublist.refl _ | apply List.Sublist.cons_cons | apply List.Sublist.cons | exact List.nil_sublist _))) ?_
                  refine ext_at rfl ?_
                  go_wp2_with (fail)
                  refine (refsame_eq _ _ _ _ _ (hgl.arg hS (List.mem_of_getElem? (i := 5) rfl)) (hgq.arg hS (List.mem_of_getElem? (i := 10) rfl))).mono ?_
                  rintro e w' ⟨rfl, hBs⟩
                  simp only []
                  go_step
                  have hS := hS.below hBs
                  refine ext_end (hS.sub (by repeat (first | exact List.Sublist.refl _ | apply List.Sublist.cons_cons | apply List.Sublist.cons | exact List.nil_sublist _))) ?_
                  repeat (first | ((first | ((with_reducible refine m_pure ?_); refine skip_pure rfl rfl ?_) | ((with_reducible refine m_read ?_); refine skip_read rfl rfl ?_)); simp only [Act.put, List.setIfInBounds_toArray, List.set_cons_succ, List.set_cons_zero, Int.toNat_natCast, Int.toNat_zero, Int.toNat_one, nth_zero, nth_one]) | fail | ((with_reducible refine m_pure ?_); refine run_pure rfl rfl (fun K hK => ?_); go_simp; refine hK _ ?_; clear hK K))
                  refine sched_nil ?_
                  simp only [NoPanic]
                  revert hS
                  repeat (rename Heap _ _ _ => hZ; clear hZ)
                  repeat (rename CellsAt _ _ _ _ => hZ; clear hZ)
                  repeat (rename Below _ _ _ => hZ; clear hZ)
                  intro hS
                  go_wp2_with (fail)
                  go_roundw
                  case rel => exact ⟨q + 1, by omega, by go_num, (hS.sub (by repeat (first | exact List.Sublist.refl _ | apply List.Sublist.cons_cons | apply List.Sublist.cons | exact List.nil_sublist _)))⟩
                  case measure => simp [intOf]; omega
        · obtain rfl : q = 3 := by omega
          go_wp2_with (fail)
          go_roundw
          case rel => exact ⟨p + 1, by omega, by go_num, hS⟩
          case measure => simp [intOf]; omega
    · obtain rfl : p = 3 := by omega
      go_wp2_with (first | (go_at_call 23; refine (lives_any _).mono ?_; rintro e w' ⟨rfl, hB⟩; have hS := hS.below hB))
      go_ret
      exact ⟨rfl, hS.toBelow (by simp)⟩
end Go.Proofs.Ytdibpfbibgicaaa
