/- B2: meresmanref24.Collapse. -/
import Derived.Test.YtdibpfbibgicaaaC2
set_option linter.unusedVariables false
set_option linter.unusedSimpArgs false
namespace Go.Proofs.Ytdibpfbibgicaaa
open Go.RowKit Go.Hp

theorem Try.info87 : (Try.prog.info? 87).map (fun i => (i.zero, i.size, i.bytes)) = some (some (.agg #[.int .i64 0, .int .i64 0, .int .i64 0, .int .i64 0]), 4, 32) := by kernel_rfl
def lenV : Value → Nat
  | .slice _ n _ => n
  | _ => 0

set_option maxHeartbeats 4000000 in
set_option maxRecDepth 100000 in
theorem refcollapse_any (gv : Value) (most : Int) (W : List Int) (N : List Tri) (w : World) (hg : GraphAt w (Old w) gv W N) (hv : VG W N) (hm : InI most) :
    Calls Try.prog 15 #[gv, .int .i64 most] w fun e w' => Below w.heap.size w w' ∧ ∃ l ao co af cf, Col W N most l ∧ e = .returned (.tuple #[.slice ao l.length co, .slice af W.length cf]) ∧ Strs w' (New w w') (.slice ao l.length co) l ∧ Nats w' (New w w') (.slice af W.length cf) (runOf (List.range W.length) l) := by
  have hg' := hg
  obtain ⟨aw, cw, an, cn, rfl, hw, hnn⟩ := hg'
  have hS := (Heap.start w).addNil 87 4
  have hle := hv.wlen
  go_enter Try.func15, Try.ntmps15
  go_wp2_with (first | ((with_reducible refine g_box (T := 25) ?_); refine seq_box (T := 25) (v := .agg _) hS rfl (fun b wb hS => ?_); simp only [Act.put, List.setIfInBounds_toArray, List.set_cons_succ, List.set_cons_zero, Int.toNat_natCast, Int.toNat_zero, Int.toNat_one, nth_zero, nth_one]; simp only [List.cons_append, List.nil_append, List.set_cons_succ, List.set_cons_zero, Value.cells, iv_snoc, tv_snoc] at hS) | ((with_reducible refine g_load (T := 22) ?_); refine seq_of hS rfl (stp_load_blk (T := 22) 2 Try.isAgg22 rfl rfl rfl ?_); simp only [Act.put, List.setIfInBounds_toArray, List.set_cons_succ, List.set_cons_zero, Int.toNat_natCast, Int.toNat_zero, Int.toNat_one, nth_zero, nth_one]) | (go_at_call 25; refine (alone_any _ _ hle).mono ?_; rintro e wa ⟨af, cf, rfl, hB, hof⟩; have hS := hS.call hB; simp only [List.cons_append, List.nil_append, List.set_cons_succ, List.set_cons_zero, Value.cells, iv_snoc, tv_snoc] at hS))
  go_loopw [7, 6] (fun out ov wr => ∃ (l : List Str) (ao af : Option Addr) (co cf : Nat) (S : Nat → Prop) (wq : World), Steps W N most (List.range W.length) l ∧ out = .slice ao l.length co ∧ ov = .slice af W.length cf ∧ Nats wq S (.slice af W.length cf) (runOf (List.range W.length) l) ∧ Heap w wr [.frz (Old w) w, .row (.slice ao l.length co) 87 4 l.length (sv l), .blk b (.cells #[.slice aw W.length cw, .slice an N.length cn] 25 (0, 0)), .frz S wq]) (fun out _ _ => W.length - lenV out)
  case atStart => exact ⟨[], none, af, 0, cf, _, _, trivial, rfl, rfl, hof, hS⟩
  case round =>
    clear hS hof hB
    obtain ⟨l, ao, af, co, cf, S, wq, hstep, rfl, rfl, hof, hS⟩ := hrel
    obtain ⟨hgr, hlen⟩ := hstep.gr0
    generalize hcur : runOf (List.range W.length) l = cur at *
    have hcl := hgr.len
    have HCUR := Lib.hid hcur
    have HCL := Lib.hid hcl
    have hll : l.length ≤ 4096 := by omega
    cases hnx : next W N cur most with
    | none =>
      have HNX := Lib.hid hnx
      clear hnx hcur
      go_wp2_with (first | ((with_reducible refine g_load (T := 25) ?_); refine seq_of hS rfl (stp_load_all (T := 25) 2 Try.isAgg25 Try.sizeOf25 rfl rfl rfl ?_); simp only [Act.put, List.setIfInBounds_toArray, List.set_cons_succ, List.set_cons_zero, Int.toNat_natCast, Int.toNat_zero, Int.toNat_one, nth_zero, nth_one]) | (go_at_call 41; refine (refnext_any _ _ _ _ _ _ _ _ _ (hg.arg hS (by simp)) (hof.arg hS (by simp)) hv HCL.out hm).mono ?_; rintro e w' ⟨rfl, hB⟩; have hS := hS.below hB; rw [HNX.out]; simp only [strV, noStr]) | ((with_reducible refine g_alloc (T := 87) ?_); refine seq_alloc (T := 87) hS Try.zeroValue87 (fun b8 wb8 hS => ?_); simp only [Act.put, List.setIfInBounds_toArray, List.set_cons_succ, List.set_cons_zero, Int.toNat_natCast, Int.toNat_zero, Int.toNat_one, nth_zero, nth_one]; simp only [List.cons_append, List.nil_append, List.set_cons_succ, List.set_cons_zero, Value.cells, iv_snoc, tv_snoc] at hS) | ((with_reducible refine g_store (T := 87) ?_); refine seq_store (T := 87) (u := .agg _) 4 hS rfl rfl rfl Try.sizeOf87 (by simp [Value.cells, Value.oneCell']) (by simp [Value.cells]) (fun _ hS => ?_); simp only [Act.put, List.setIfInBounds_toArray, List.set_cons_succ, List.set_cons_zero, Int.toNat_natCast, Int.toNat_zero, Int.toNat_one, nth_zero, nth_one]; simp only [List.cons_append, List.nil_append, List.set_cons_succ, List.set_cons_zero, Value.cells, iv_snoc, tv_snoc] at hS; simp only [List.take_zero, List.nil_append, List.append_nil, List.drop_succ_cons, List.drop_zero, List.drop_nil, List.take_succ_cons, List.cons_append, List.size_toArray, List.length_cons, List.length_nil, Nat.reduceAdd] at hS))
      refine bodyPost_ret (results_tmp2 rfl _ _ _) rfl ?_
      refine ⟨hS.toBelow (by simp), l, ao, co, af, cf, ⟨hstep, by rw [HCUR.out]; exact HNX.out⟩, rfl, hS.result (T := 87) (by simp), ?_⟩
      rw [HCUR.out]
      exact (hof.later hS (List.mem_of_getElem? (i := 3) rfl)).weaken (hS.isNew (List.mem_of_getElem? (i := 2) rfl))
    | some s =>
      have hst2 := hstep.snoc (by rw [HCUR.out]; exact hnx)
      have hni := next_is hgr hnx
      have hface := hni.face
      have hinto := hni.into
      have hp := List.length_pos_of_mem (mem_hds.2 ⟨by rw [hgr.len]; exact hni.face, hni.hface⟩)
      have hmer : ∀ w, Nats w (Old w) (.slice af W.length cf) cur → Calls Try.prog 26 #[.slice af W.length cf, .agg #[.int .i64 (s.face : Nat), .int .i64 (s.into : Nat)]] w fun e w' => ∃ a' c', e = .returned (.slice a' W.length c') ∧ Below w.heap.size w w' ∧ Nats w' (New w w') (.slice a' W.length c') (mrg cur s.face s.into) := by
        intro w h
        have := merged_any _ _ _ s.face s.into _ _ h (by omega) (fun q hq => by obtain ⟨i, hi, rfl⟩ := List.mem_iff_getElem.1 hq; have := hgr.lt (i := i) (by omega); rw [nth_eq 0 _ _ hi] at this; omega) (by omega) (by omega)
        rw [hcl] at this
        exact this
      have HMER := Lib.hid hmer
      have HNX := Lib.hid hnx
      have HST := Lib.hid hst2
      clear hnx hcur hst2 hmer hni
      go_wp2_with (first | ((with_reducible refine g_load (T := 25) ?_); refine seq_of hS rfl (stp_load_all (T := 25) 2 Try.isAgg25 Try.sizeOf25 rfl rfl rfl ?_); simp only [Act.put, List.setIfInBounds_toArray, List.set_cons_succ, List.set_cons_zero, Int.toNat_natCast, Int.toNat_zero, Int.toNat_one, nth_zero, nth_one]) | (go_at_call 41; refine (refnext_any _ _ _ _ _ _ _ _ _ (hg.arg hS (by simp)) (hof.arg hS (by simp)) hv HCL.out hm).mono ?_; rintro e w' ⟨rfl, hB⟩; have hS := hS.below hB; rw [HNX.out]; simp only [strV, strA]) | ((with_reducible refine g_alloc (T := 87) ?_); refine seq_alloc (T := 87) hS Try.zeroValue87 (fun b8 wb8 hS => ?_); simp only [Act.put, List.setIfInBounds_toArray, List.set_cons_succ, List.set_cons_zero, Int.toNat_natCast, Int.toNat_zero, Int.toNat_one, nth_zero, nth_one]; simp only [List.cons_append, List.nil_append, List.set_cons_succ, List.set_cons_zero, Value.cells, iv_snoc, tv_snoc] at hS) | ((with_reducible refine g_store (T := 87) ?_); refine seq_store (T := 87) (u := .agg _) 4 hS rfl rfl rfl Try.sizeOf87 (by simp [Value.cells, Value.oneCell']) (by simp [Value.cells]) (fun _ hS => ?_); simp only [Act.put, List.setIfInBounds_toArray, List.set_cons_succ, List.set_cons_zero, Int.toNat_natCast, Int.toNat_zero, Int.toNat_one, nth_zero, nth_one]; simp only [List.cons_append, List.nil_append, List.set_cons_succ, List.set_cons_zero, Value.cells, iv_snoc, tv_snoc] at hS; simp only [List.take_zero, List.nil_append, List.append_nil, List.drop_succ_cons, List.drop_zero, List.drop_nil, List.take_succ_cons, List.cons_append, List.size_toArray, List.length_cons, List.length_nil, Nat.reduceAdd] at hS) | ((with_reducible refine g_load (T := 87) ?_); refine seq_of hS rfl (stp_load_all (T := 87) 4 Try.isAgg87 Try.sizeOf87 rfl rfl rfl ?_); simp only [Act.put, List.setIfInBounds_toArray, List.set_cons_succ, List.set_cons_zero, Int.toNat_natCast, Int.toNat_zero, Int.toNat_one, nth_zero, nth_one]) | ((with_reducible refine g_load (T := 3) ?_); refine seq_of hS rfl (stp_load_blk (T := 3) 4 Try.isAgg3 rfl rfl rfl ?_); simp only [Act.put, List.setIfInBounds_toArray, List.set_cons_succ, List.set_cons_zero, Int.toNat_natCast, Int.toNat_zero, Int.toNat_one, nth_zero, nth_one]) | ((with_reducible refine g_bs (T := 39) ?_); refine seq_bs1 (T := 39) (v := .agg _) hS Try.underlying39 Try.sizeOf87 Try.zeroValue87 rfl rfl rfl (by decide) (by decide) rfl (fun _ _ hS => ?_); simp only [Act.put, List.setIfInBounds_toArray, List.set_cons_succ, List.set_cons_zero, Int.toNat_natCast, Int.toNat_zero, Int.toNat_one, nth_zero, nth_one]; simp only [Value.cells] at hS) | ((with_reducible refine g_app ?_); refine seq_append_lit (t := 39) 1 hS Try.underlying39 Try.info87 rfl (by decide) rfl rfl rfl rfl (by simp [Value.oneCell']) (by omega) (by unfold maxLen; omega) (fun a2 c2 _ hS => ?_); simp only [Act.put, List.setIfInBounds_toArray, List.set_cons_succ, List.set_cons_zero, Int.toNat_natCast, Int.toNat_zero, Int.toNat_one, nth_zero, nth_one]; simp only [List.cons_append, List.nil_append, List.set_cons_succ, List.set_cons_zero, Value.cells, iv_snoc, tv_snoc] at hS) | (go_at_call 26; refine (HMER.out _ (hof.arg hS (by simp))).mono ?_; rintro e w' ⟨a3, c3, rfl, hB, hN2⟩; have hS := hS.call hB; simp only [List.cons_append, List.nil_append, List.set_cons_succ, List.set_cons_zero, Value.cells, iv_snoc, tv_snoc] at hS))
      go_roundw
      case rel =>
        have ht := sv_snoc l s
        rw [ht] at hS
        refine ⟨l ++ [s], a2, a3, c2, c3, _, _, HST.out, by rw [List.length_append]; rfl, rfl, by rw [runOf_snoc, HCUR.out]; exact hN2, ?_⟩
        rw [List.length_append]
        exact (hS.sub (by repeat (first | exact List.Sublist.refl _ | apply List.Sublist.cons_cons | apply List.Sublist.cons | exact List.nil_sublist _)))
      case measure => simp [lenV]; omega
end Go.Proofs.Ytdibpfbibgicaaa
