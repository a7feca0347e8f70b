import Derived.Test.YtdibpfbibgicaaaG3
namespace Go.Hp
/-- What a call has made. -/
theorem Heap.import {w0 w w' : World} {H B : List Chunk} (h : Heap w0 w H) (h' : Heap w w' (.frz (Old w) w :: B)) : Heap w0 w' (H ++ B) := by
  have h0 : Heap w0 w (H ++ []) := by rw [List.append_nil]; exact h
  refine Heap.unsplit (B := []) h0 ?_
  have : Rest w [] = Old w := by funext k; simp [Rest, Old]
  rw [this]; exact h'
end Go.Hp
namespace Go.Proofs.Ytdibpfbibgicaaa
open Go.RowKit Go.Hp
set_option linter.unusedVariables false
set_option linter.unusedSimpArgs false

/-- The weights of the faces in the map; the lengths in the map. -/
def lwTo (W : List Int) : Nat → List (Int × Int)
  | 0 => []
  | k + 1 => putL (lwTo W k) (k : Int) (nth 0 W k)
def eKey (e : Tri) : Nat × Nat := (e.1.toNat, e.2.1.toNat)
def lenTo (N : List Tri) : Nat → List ((Nat × Nat) × Int)
  | 0 => []
  | k + 1 => putL (lenTo N k) (eKey (nth tz N k)) (nth tz N k).2.2
theorem pk_eKey {e : Tri} (h1 : 0 ≤ e.1) (h2 : 0 ≤ e.2.1) : pk (eKey e) = .agg #[.int .i64 e.1, .int .i64 e.2.1] := by
  simp only [pk, eKey]
  rw [show ((e.1.toNat : Nat) : Int) = e.1 by omega, show ((e.2.1.toNat : Nat) : Int) = e.2.1 by omega]

/-- The chunks of a state: the row of groups, the maps, the object. -/
def stH (a : Option Addr) (n c bw bl bs : Nat) (of : List Nat) (ow ol : Obj) : List Chunk :=
  [.row (.slice a n c) 3 1 n (iv (zs of)), .blk bw ow, .blk bl ol, .blk bs (.cells #[.slice a n c, .map (some bw), .map (some bl)] 84 (0, 0))]

set_option maxHeartbeats 4000000 in
set_option maxRecDepth 100000 in
theorem salone_any (gv : Value) (W : List Int) (N : List Tri) (w : World) (hg : GraphAt w (Old w) gv W N) (hv : VG W N) :
    Calls Try.prog 36 #[gv] w fun e w' => ∃ a c bw bl bs ow ol, e = .returned (.pointer (some ⟨bs, 0, none⟩)) ∧ MapIs ik ik ow (lwTo W W.length) ∧ MapIs pk ik ol (lenTo N N.length) ∧ Heap w w' (.frz (Old w) w :: stH a W.length c bw bl bs (List.range W.length) ow ol) := by
  obtain ⟨aw, cw, an, cn, rfl, hw, hnn⟩ := hg
  have hS := (Heap.start w).addNil 3 1
  have hle := hv.wlen
  have hle2 := hv.nlen
  have hm0 := MapIs.empty ik ik
  have hm1 := MapIs.empty pk ik
  go_enter Try.func36, Try.ntmps36
  go_wp2_with (first | ((with_reducible refine g_box (T := 34) ?_); refine seq_box (T := 34) (v := .agg _) hS rfl (fun bg wbg hS => ?_); simp only [Act.put, List.setIfInBounds_toArray, List.set_cons_succ, List.set_cons_zero, Int.toNat_natCast, Int.toNat_zero, Int.toNat_one, nth_zero, nth_one]; simp only [List.cons_append, List.nil_append, List.set_cons_succ, List.set_cons_zero, Value.cells, iv_snoc, tv_snoc] at hS) | ((with_reducible refine g_box (T := 84) ?_); refine seq_box (T := 84) (v := .agg _) hS rfl (fun bs wbs hS => ?_); simp only [Act.put, List.setIfInBounds_toArray, List.set_cons_succ, List.set_cons_zero, Int.toNat_natCast, Int.toNat_zero, Int.toNat_one, nth_zero, nth_one]; simp only [List.cons_append, List.nil_append, List.set_cons_succ, List.set_cons_zero, Value.cells, iv_snoc, tv_snoc] at hS) | ((with_reducible refine g_mm (T := 81) ?_); refine seq_makeMap hS (fun bw wbw hS => ?_); simp only [Act.put, List.setIfInBounds_toArray, List.set_cons_succ, List.set_cons_zero, Int.toNat_natCast, Int.toNat_zero, Int.toNat_one, nth_zero, nth_one]; simp only [List.cons_append, List.nil_append, List.set_cons_succ, List.set_cons_zero, Value.cells, iv_snoc, tv_snoc] at hS) | ((with_reducible refine g_mm (T := 82) ?_); refine seq_makeMap hS (fun bl wbl hS => ?_); simp only [Act.put, List.setIfInBounds_toArray, List.set_cons_succ, List.set_cons_zero, Int.toNat_natCast, Int.toNat_zero, Int.toNat_one, nth_zero, nth_one]; simp only [List.cons_append, List.nil_append, List.set_cons_succ, List.set_cons_zero, Value.cells, iv_snoc, tv_snoc] at hS) | ((with_reducible refine g_load (T := 22) ?_); refine seq_of hS rfl (stp_load_blk (T := 22) 2 Try.isAgg22 rfl rfl rfl ?_); simp only [Act.put, List.setIfInBounds_toArray, List.set_cons_succ, List.set_cons_zero, Int.toNat_natCast, Int.toNat_zero, Int.toNat_one, nth_zero, nth_one]))
  go_loopw [15] (fun i wr => ∃ (k : Nat) (a : Option Addr) (c : Nat) (ow : Obj), k ≤ W.length ∧ i = .int .i64 k ∧ MapIs ik ik ow (lwTo W k) ∧ Heap w wr [.frz (Old w) w, .row (.slice a k c) 3 1 k (iv (zs (List.range k))), .blk bg (.cells #[.slice aw W.length cw, .slice an N.length cn] 34 (0, 0)), .blk bw ow, .blk bl (.map #[] 0), .blk bs (.cells #[.slice a k c, .map (some bw), .map (some bl)] 84 (0, 0))]) (fun i _ => W.length - (intOf i).toNat)
  case atStart => exact ⟨0, none, 0, _, by omega, rfl, hm0, hS⟩
  case round =>
    clear hS hm0
    obtain ⟨k, a, c, ow, hk, rfl, hmw, hS⟩ := hrel
    by_cases hlt : k < W.length
    · go_wp2_with (first | ((with_reducible refine g_idx (T := 22) ?_); refine seq_any rfl (any_index_int (T := 22) Try.underlying22 Try.sizeOf3 rfl rfl (by with_reducible assumption) (by omega) (by omega) (fun _ _ _ => ?_)); simp only [Act.put, List.setIfInBounds_toArray, List.set_cons_succ, List.set_cons_zero, Int.toNat_natCast, Int.toNat_zero, Int.toNat_one, nth_zero, nth_one]) | ((with_reducible refine g_load (T := 3) ?_); refine seq_of hS rfl (stp_load (T := 3) Try.isAgg3 rfl (by with_reducible assumption) (by simp) rfl ?_); simp only [Act.put, List.setIfInBounds_toArray, List.set_cons_succ, List.set_cons_zero, Int.toNat_natCast, Int.toNat_zero, Int.toNat_one, nth_zero, nth_one]) | ((with_reducible refine g_load (T := 22) ?_); refine seq_of hS rfl (stp_load_blk (T := 22) 5 Try.isAgg22 rfl rfl rfl ?_); simp only [Act.put, List.setIfInBounds_toArray, List.set_cons_succ, List.set_cons_zero, Int.toNat_natCast, Int.toNat_zero, Int.toNat_one, nth_zero, nth_one]) | ((with_reducible refine g_bs (T := 22) ?_); refine seq_bs1 (T := 22) (v := .int .i64 _) hS Try.underlying22 Try.sizeOf3 Try.zeroValue3 rfl rfl rfl (by decide) (by decide) rfl (fun _ _ hS => ?_); simp only [Act.put, List.setIfInBounds_toArray, List.set_cons_succ, List.set_cons_zero, Int.toNat_natCast, Int.toNat_zero, Int.toNat_one, nth_zero, nth_one]; simp only [Value.cells] at hS) | ((with_reducible refine g_app ?_); refine seq_append_lit (t := 22) 1 hS Try.underlying22 Try.info3 rfl (by decide) rfl rfl rfl rfl (by simp [Value.oneCell']) (by omega) (by unfold maxLen; omega) (fun _ _ _ hS => ?_); simp only [Act.put, List.setIfInBounds_toArray, List.set_cons_succ, List.set_cons_zero, Int.toNat_natCast, Int.toNat_zero, Int.toNat_one, nth_zero, nth_one]; simp only [List.cons_append, List.nil_append, List.set_cons_succ, List.set_cons_zero, Value.cells, iv_snoc, tv_snoc] at hS) | ((with_reducible refine g_store (T := 22) ?_); refine seq_store (T := 22) (u := .slice _ _ _) 5 hS rfl rfl rfl Try.sizeOf22 (by simp [Value.cells, Value.oneCell']) (by simp [Value.cells]) (fun _ hS => ?_); simp only [Act.put, List.setIfInBounds_toArray, List.set_cons_succ, List.set_cons_zero, Int.toNat_natCast, Int.toNat_zero, Int.toNat_one, nth_zero, nth_one]; simp only [List.cons_append, List.nil_append, List.set_cons_succ, List.set_cons_zero, Value.cells, iv_snoc, tv_snoc] at hS; simp only [List.take_zero, List.nil_append, List.append_nil, List.drop_succ_cons, List.drop_zero, List.drop_nil, List.take_succ_cons, List.cons_append, List.size_toArray, List.length_cons, List.length_nil, Nat.reduceAdd] at hS) | ((with_reducible refine g_load (T := 81) ?_); refine seq_of hS rfl (stp_load_blk (T := 81) 5 Try.isAgg81 rfl rfl rfl ?_); simp only [Act.put, List.setIfInBounds_toArray, List.set_cons_succ, List.set_cons_zero, Int.toNat_natCast, Int.toNat_zero, Int.toNat_one, nth_zero, nth_one]) | ((with_reducible refine g_mu (T := 81) ?_); refine seq_mapUpdate (ev := ik) (k := ((k : Nat) : Int)) (v := nth 0 W k) 3 hS Try.underlying81 keyInt rfl rfl rfl rfl (by with_reducible assumption) rfl (fun ou wu hmu hS => ?_); simp only [Act.put, List.setIfInBounds_toArray, List.set_cons_succ, List.set_cons_zero, Int.toNat_natCast, Int.toNat_zero, Int.toNat_one, nth_zero, nth_one]; simp only [List.cons_append, List.nil_append, List.set_cons_succ, List.set_cons_zero, Value.cells, iv_snoc, tv_snoc] at hS))
      go_roundw
      case rel =>
        rw [zs_snoc, ← List.range_succ] at hS
        exact ⟨k + 1, _, _, _, by omega, by go_num, hmu, (hS.sub (by repeat (first | exact List.Sublist.refl _ | apply List.Sublist.cons_cons | apply List.Sublist.cons | exact List.nil_sublist _)))⟩
      case measure => simp [intOf]; omega
    · obtain rfl : k = W.length := by omega
      go_wp2_with (first | ((with_reducible refine g_load (T := 23) ?_); refine seq_of hS rfl (stp_load_blk (T := 23) 2 Try.isAgg23 rfl rfl rfl ?_); simp only [Act.put, List.setIfInBounds_toArray, List.set_cons_succ, List.set_cons_zero, Int.toNat_natCast, Int.toNat_zero, Int.toNat_one, nth_zero, nth_one]))
      simp only [List.getElem_toArray, List.getElem_cons_zero, List.getElem_cons_succ]
      go_loopw [40] (fun i wr => ∃ (k : Nat) (ol : Obj), k ≤ N.length ∧ i = .int .i64 k ∧ MapIs pk ik ol (lenTo N k) ∧ Heap w wr [.frz (Old w) w, .row (.slice a W.length c) 3 1 W.length (iv (zs (List.range W.length))), .blk bg (.cells #[.slice aw W.length cw, .slice an N.length cn] 34 (0, 0)), .blk bw ow, .blk bl ol, .blk bs (.cells #[.slice a W.length c, .map (some bw), .map (some bl)] 84 (0, 0))]) (fun i _ => N.length - (intOf i).toNat)
      case atStart => exact ⟨0, _, by omega, rfl, hm1, hS⟩
      case round =>
        clear hS hm1
        obtain ⟨k, ol, hk, rfl, hml, hS⟩ := hrel
        by_cases hlt : k < N.length
        · have hn0 := hv.n0 _ (nth_mem tz N k hlt)
          go_wp2_with (first | ((with_reducible refine g_idx (T := 23) ?_); refine seq_any rfl (any_index_tri (T := 23) Try.underlying23 Try.sizeOf55 rfl rfl (by with_reducible assumption) (by omega) (by omega) (fun _ _ _ => ?_)); simp only [Act.put, List.setIfInBounds_toArray, List.set_cons_succ, List.set_cons_zero, Int.toNat_natCast, Int.toNat_zero, Int.toNat_one, nth_zero, nth_one]) | ((with_reducible refine g_load (T := 55) ?_); refine seq_of hS rfl (stp_loadk (T := 55) Try.isAgg55 Try.sizeOf55 rfl (by with_reducible assumption) (by simp) rfl ?_); simp only [Act.put, List.setIfInBounds_toArray, List.set_cons_succ, List.set_cons_zero, Int.toNat_natCast, Int.toNat_zero, Int.toNat_one, nth_zero, nth_one]) | ((with_reducible refine g_alloc (T := 55) ?_); refine seq_alloc (T := 55) hS Try.zeroValue55 (fun b3 wb3 hS => ?_); simp only [Act.put, List.setIfInBounds_toArray, List.set_cons_succ, List.set_cons_zero, Int.toNat_natCast, Int.toNat_zero, Int.toNat_one, nth_zero, nth_one]; simp only [List.cons_append, List.nil_append, List.set_cons_succ, List.set_cons_zero, Value.cells, iv_snoc, tv_snoc] at hS) | ((with_reducible refine g_store (T := 55) ?_); refine seq_store (T := 55) (u := .agg _) 6 hS rfl rfl rfl Try.sizeOf55 (by simp [Value.cells, Value.oneCell']) (by simp [Value.cells]) (fun _ hS => ?_); simp only [Act.put, List.setIfInBounds_toArray, List.set_cons_succ, List.set_cons_zero, Int.toNat_natCast, Int.toNat_zero, Int.toNat_one, nth_zero, nth_one]; simp only [List.cons_append, List.nil_append, List.set_cons_succ, List.set_cons_zero, Value.cells, iv_snoc, tv_snoc] at hS; simp only [List.take_zero, List.nil_append, List.append_nil, List.drop_succ_cons, List.drop_zero, List.drop_nil, List.take_succ_cons, List.cons_append, List.size_toArray, List.length_cons, List.length_nil, Nat.reduceAdd] at hS))
          refine wp_region_sched [.pure 0, .pure 1, .pure 2, .read 3, .pure 4, .read 5, .pure 6, .read 7, .pure 8, .pure 9, .read 10, .mutt 11] [11] (fun w' => Heap w w' _) (by kernel_rfl) (by kernel_rfl) hS.drew (fun w1 hS => ?_)
          repeat (first | ((first | ((with_reducible refine m_pure ?_); refine skip_pure rfl rfl ?_) | ((with_reducible refine m_read ?_); refine skip_read rfl rfl ?_)); simp only [Act.put, List.setIfInBounds_toArray, List.set_cons_succ, List.set_cons_zero, Int.toNat_natCast, Int.toNat_zero, Int.toNat_one, nth_zero, nth_one]) | ((with_reducible refine m_read ?_); refine sched_of rfl rfl (stp_load_blk (T := 3) 6 Try.isAgg3 rfl rfl rfl ?_); simp only [Act.put, List.setIfInBounds_toArray, List.set_cons_succ, List.set_cons_zero, Int.toNat_natCast, Int.toNat_zero, Int.toNat_one, nth_zero, nth_one]) | ((with_reducible refine m_read ?_); refine sched_of rfl rfl (stp_load_blk (T := 82) 5 Try.isAgg82 rfl rfl rfl ?_); simp only [Act.put, List.setIfInBounds_toArray, List.set_cons_succ, List.set_cons_zero, Int.toNat_natCast, Int.toNat_zero, Int.toNat_one, nth_zero, nth_one]) | ((with_reducible refine m_pure ?_); refine run_pure rfl rfl (fun K hK => ?_); go_simp; refine hK _ ?_; clear hK K))
          refine mut_at rfl ?_
          ((with_reducible refine g_mu (T := 82) ?_); refine seq_mapUpdate (ev := ik) (k := eKey (nth tz N k)) (v := (nth tz N k).2.2) 4 hS Try.underlying82 keyPair rfl (pk_eKey (by omega) (by omega)).symm rfl rfl (by with_reducible assumption) rfl (fun ou wu hmu hS => ?_); simp only [Act.put, List.setIfInBounds_toArray, List.set_cons_succ, List.set_cons_zero, Int.toNat_natCast, Int.toNat_zero, Int.toNat_one, nth_zero, nth_one]; simp only [List.cons_append, List.nil_append, List.set_cons_succ, List.set_cons_zero, Value.cells, iv_snoc, tv_snoc] at hS)
          refine mut_end ?_
          refine sched_nil ?_
          simp only [NoPanic]
          go_wp2
          go_roundw
          case rel => exact ⟨k + 1, _, by omega, by go_num, hmu, (hS.sub (by repeat (first | exact List.Sublist.refl _ | apply List.Sublist.cons_cons | apply List.Sublist.cons | exact List.nil_sublist _)))⟩
          case measure => simp [intOf]; omega
        · obtain rfl : k = N.length := by omega
          go_wp2
          go_ret
          exact ⟨a, c, bw, bl, bs, ow, ol, rfl, hmw, hml, hS.sub (by simp [stH])⟩
end Go.Proofs.Ytdibpfbibgicaaa
