/- S2: literals; the law's own and the example that every law asks for. -/
import Derived.Test.YtdibpfbibgicaaaS1
import Derived.Test.YtdibpfbibgicaaaC7
import Derived.Test.YtdibpfbibgicaaaV6
set_option linter.unusedVariables false
set_option linter.unusedSimpArgs false
namespace Go.Hp
open Go Go.RowKit
theorem size_alloc (w : World) (o : Obj) : (w.alloc o).heap.size = w.heap.size + 1 := Array.size_push _
theorem SlC.ofBlk {w0 w : World} {H : List Chunk} {b k n : Nat} {cs : List Value} {T : TypeId} (hS : Heap w0 w H) (hm : Chunk.blk b (.cells cs.toArray T (0, 0)) ∈ H) (hl : cs.length = n * k) (hn : n ≤ 1000000) : SlC w (Old w) k (.slice (some ⟨b, 0, none⟩) n n) n cs := by
  have hb := hS.blk hm
  refine ⟨hl, some ⟨b, 0, none⟩, n, rfl, Nat.le_refl _, by unfold maxLen; omega, (fun e => by cases e), fun ad e => ?_⟩
  cases e
  refine ⟨fun _ => rfl, fun _ => (Array.getElem?_eq_some_iff.1 hb).1, fun j u hu => ?_⟩
  rw [Nat.zero_add, cell_of_row w b j cs.toArray T (0, 0) hb]
  simpa using hu
end Go.Hp
namespace Go.Proofs.Ytdibpfbibgicaaa
open Go.RowKit Go.Hp

theorem ints_ofBlk {w0 w : World} {H : List Chunk} {b n : Nat} {xs : List Int} {T : TypeId} (hS : Heap w0 w H) (hm : Chunk.blk b (.cells (iv xs).toArray T (0, 0)) ∈ H) (hl : xs.length = n) (hn : n ≤ 1000000) (hi : ∀ x ∈ xs, InI x) : Ints w (Old w) (.slice (some ⟨b, 0, none⟩) n n) xs := by
  subst hl
  exact ⟨SlC.ofBlk (cs := iv xs) hS hm (by rw [iv_length]; omega) hn, hi⟩
theorem tris_ofBlk {w0 w : World} {H : List Chunk} {b n : Nat} {xs : List Tri} {T : TypeId} (hS : Heap w0 w H) (hm : Chunk.blk b (.cells (tv xs).toArray T (0, 0)) ∈ H) (hl : xs.length = n) (hn : n ≤ 1000000) (hi : ∀ x ∈ xs, InT x) : Tris w (Old w) (.slice (some ⟨b, 0, none⟩) n n) xs := by
  subst hl
  exact ⟨SlC.ofBlk hS hm (by rw [tv_length]) hn, hi⟩
def toIS (s : Str) : IS := ⟨s.face, s.a, s.b, s.into⟩
theorem sv_isv (l : List Str) : sv l = isv (l.map toIS) := by
  induction l with
  | nil => rfl
  | cons s l ih => simp only [sv, isv, List.flatMap_cons, List.map_cons] at ih ⊢; rw [ih]; rfl

set_option maxRecDepth 100000 in
theorem own_any (gv : Value) (W : List Int) (N : List Tri) (w : World) (hg : GraphAt w (Old w) gv W N) :
    Calls Try.prog 13 #[gv] w fun e w' => e = .returned gv ∧ Below w.heap.size w w' := by
  obtain ⟨aw, cw, an, cn, rfl, hw, hnn⟩ := hg
  have hS := Heap.start w
  go_enter Try.func13, Try.ntmps13
  go_wp2_with (first | ((with_reducible refine g_box (T := 25) ?_); refine seq_box (T := 25) (v := .agg _) hS rfl (fun b1 wb1 hS => ?_); simp only [Act.put, List.setIfInBounds_toArray, List.set_cons_succ, List.set_cons_zero, Int.toNat_natCast, Int.toNat_zero, Int.toNat_one, nth_zero, nth_one]; simp only [List.cons_append, List.nil_append, List.set_cons_succ, List.set_cons_zero, Value.cells, iv_snoc, tv_snoc] at hS) | ((with_reducible refine g_alloc (T := 34) ?_); refine seq_alloc (T := 34) hS Try.zeroValue34 (fun b2 wb2 hS => ?_); simp only [Act.put, List.setIfInBounds_toArray, List.set_cons_succ, List.set_cons_zero, Int.toNat_natCast, Int.toNat_zero, Int.toNat_one, nth_zero, nth_one]; simp only [List.cons_append, List.nil_append, List.set_cons_succ, List.set_cons_zero, Value.cells, iv_snoc, tv_snoc] at hS) | ((with_reducible refine g_load (T := 22) ?_); refine seq_of hS rfl (stp_load_blk (T := 22) 1 Try.isAgg22 rfl rfl rfl ?_); simp only [Act.put, List.setIfInBounds_toArray, List.set_cons_succ, List.set_cons_zero, Int.toNat_natCast, Int.toNat_zero, Int.toNat_one, nth_zero, nth_one]) | ((with_reducible refine g_load (T := 23) ?_); refine seq_of hS rfl (stp_load_blk (T := 23) 1 Try.isAgg23 rfl rfl rfl ?_); simp only [Act.put, List.setIfInBounds_toArray, List.set_cons_succ, List.set_cons_zero, Int.toNat_natCast, Int.toNat_zero, Int.toNat_one, nth_zero, nth_one]) | ((with_reducible refine g_store (T := 34) ?_); refine seq_store (T := 34) (u := .agg #[.slice _ _ _, .slice _ _ _]) 2 hS rfl rfl rfl Try.sizeOf34 (by simp [Value.cells, Value.oneCell']) (by simp [Value.cells]) (fun _ hS => ?_); simp only [Act.put, List.setIfInBounds_toArray, List.set_cons_succ, List.set_cons_zero, Int.toNat_natCast, Int.toNat_zero, Int.toNat_one, nth_zero, nth_one]; simp only [List.cons_append, List.nil_append, List.set_cons_succ, List.set_cons_zero, Value.cells, iv_snoc, tv_snoc] at hS; simp only [List.take_zero, List.nil_append, List.append_nil, List.drop_succ_cons, List.drop_zero, List.drop_nil, List.take_succ_cons, List.cons_append, List.size_toArray, List.length_cons, List.length_nil, Nat.reduceAdd] at hS))
  exact ret_cell1 2 hS rfl rfl rfl Try.isAgg34 Try.sizeOf34 rfl rfl ⟨rfl, hS.toBelow (by simp)⟩

def exW : List Int := [0, 9, 1, 9]
def exN : List Tri := [(1, 2, 5), (2, 3, 6)]
theorem ex_valid : validN exW exN = 0 := by decide
theorem ex_finds : finds exW exN (List.range exW.length) 4 = [2] := by decide
theorem ex_col {l : List Str} (h : Col exW exN 4 l) : l = [⟨2, 1, 3, 3⟩] := by
  refine h.unique ⟨⟨?_, trivial⟩, ?_⟩
  · decide
  · decide
theorem ex_run : runOf (List.range exW.length) [⟨2, 1, 3, 3⟩] = [0, 1, 2, 2] := by decide
theorem ex_over : qOver exW exN [0, 1, 2, 2] = false := by decide
theorem ex_qW : qW exW [0, 1, 2, 2] = [0, 9, 10] := by decide
theorem ex_idx : idx [0, 1, 2, 2] = [0, 1, 2, 2] := by decide
theorem ex_runI : runI (List.range exW.length) [⟨2, 1, 3, 3⟩] = some [0, 1, 2, 2] := by decide
theorem ex_acr : acr exN (List.range exW.length) [⟨2, 1, 3, 3⟩] = [(1, 3)] := by decide

theorem ex_find (gv : Value) (w : World) (hg : GraphAt w (Old w) gv exW exN) : Calls Try.prog 12 #[gv, .int .i64 4] w fun e w' => ∃ a c, e = .returned (.tuple #[.slice a 1 c, .int .i64 0]) ∧ Below w.heap.size w w' ∧ Nats w' (New w w') (.slice a 1 c) [2] := by
  have h := sfind_ok gv 4 exW exN w hg (VG.of_valid ex_valid) ⟨by decide, by decide⟩
  rw [ex_finds] at h
  exact h
theorem ex_collapse (gv : Value) (w : World) (hg : GraphAt w (Old w) gv exW exN) : Calls Try.prog 14 #[gv, .int .i64 4] w fun e w' => Below w.heap.size w w' ∧ ∃ ao co ai ci aw cw an n cn, e = .returned (.tuple #[.slice ao 1 co, .agg #[.slice aw 3 cw, .slice an n cn], .slice ai 4 ci, .int .i64 0]) ∧ Strs w' (New w w') (.slice ao 1 co) [⟨2, 1, 3, 3⟩] ∧
    Ints w' (New w w') (.slice aw 3 cw) [0, 9, 10] ∧ Nats w' (New w w') (.slice ai 4 ci) [0, 1, 2, 2] := by
  refine (collapse_ok gv 4 exW exN w hg (VG.of_valid ex_valid) ⟨by decide, by decide⟩).mono ?_
  rintro e w' ⟨hB, l, hc, hor⟩
  obtain rfl := ex_col hc
  rw [ex_run, ex_over, ex_qW, ex_idx] at hor
  rcases hor with ⟨h, _⟩ | ⟨_, ao, co, gv', ai, ci, rfl, hs, ⟨aw, cw, an, cn, rfl, hw, _⟩, hn⟩
  · cases h
  · exact ⟨hB, ao, co, ai, ci, aw, cw, an, _, cn, rfl, hs, hw, hn⟩
theorem ex_across (gv : Value) (al : Option Addr) (cl : Nat) (w : World) (hg : GraphAt w (Old w) gv exW exN) (hl : Strs w (Old w) (.slice al 1 cl) [⟨2, 1, 3, 3⟩]) : Calls Try.prog 28 #[gv, .slice al 1 cl] w fun e w' => Below w.heap.size w w' ∧ ∃ ao co, e = .returned (.tuple #[.slice ao 1 co, .int .i64 0]) ∧ Prs w' (New w w') (.slice ao 1 co) [(1, 3)] := by
  refine (across_ok gv al cl [⟨2, 1, 3, 3⟩] exW exN w hg (VG.of_valid ex_valid) hl (fun s hs => ?_) (by decide)).mono ?_
  · simp only [List.mem_singleton] at hs
    subst hs
    exact ⟨⟨by decide, by decide⟩, ⟨by decide, by decide⟩, ⟨by decide, by decide⟩, ⟨by decide, by decide⟩⟩
  · rintro e w' ⟨hB, ⟨h, _⟩ | ⟨cur, ao, co, h, rfl, hp⟩⟩
    · rw [ex_runI] at h; cases h
    · rw [ex_acr] at hp ⊢
      exact ⟨hB, ao, co, rfl, hp⟩

theorem ex_graph {w0 w : World} {H : List Chunk} {b0 b1 : Nat} (hS : Heap w0 w H) (h1 : H[1]? = some (.blk b0 (.cells (iv exW).toArray 3 (0, 0)))) (h2 : H[2]? = some (.blk b1 (.cells (tv exN).toArray 55 (0, 0)))) : GraphAt w (Old w) (.agg #[.slice (some ⟨b0, 0, none⟩) 4 4, .slice (some ⟨b1, 0, none⟩) 2 2]) exW exN :=
  ⟨_, _, _, _, rfl, ints_ofBlk hS (List.mem_of_getElem? h1) rfl (by decide) (fun x hx => by simp [exW] at hx; unfold InI; omega), tris_ofBlk hS (List.mem_of_getElem? h2) rfl (by decide) (fun e he => by simp [exN] at he; rcases he with rfl | rfl <;> (unfold InT InI; decide))⟩

set_option maxHeartbeats 4000000 in
set_option maxRecDepth 100000 in
theorem lives_any (w : World) : Calls Try.prog 23 #[] w fun e w' => e = .returned (.bool true) ∧ Below w.heap.size w w' := by
  have hS := Heap.start w
  have hS := ((hS.alloc (.cells #[.int .i64 0, .int .i64 9, .int .i64 1, .int .i64 9] 3 (0, 0))).alloc (.cells #[.int .i64 1, .int .i64 2, .int .i64 5, .int .i64 2, .int .i64 3, .int .i64 6] 55 (0, 0))).alloc (.cells #[.slice (some ⟨w.heap.size, 0, none⟩) 4 4, .slice (some ⟨w.heap.size + 1, 0, none⟩) 2 2] 34 (0, 0))
  simp only [size_alloc] at hS
  obtain ⟨w3, hw3⟩ : ∃ w3, ((w.alloc (.cells #[.int .i64 0, .int .i64 9, .int .i64 1, .int .i64 9] 3 (0, 0))).alloc (.cells #[.int .i64 1, .int .i64 2, .int .i64 5, .int .i64 2, .int .i64 3, .int .i64 6] 55 (0, 0))).alloc (.cells #[.slice (some ⟨w.heap.size, 0, none⟩) 4 4, .slice (some ⟨w.heap.size + 1, 0, none⟩) 2 2] 34 (0, 0)) = w3 := ⟨_, rfl⟩
  have HW3 := Lib.hid hw3
  rw [hw3] at hS
  clear hw3
  go_enter Try.func23, Try.ntmps23
  go_wp2_with (fail)
  rw [HW3.out]
  generalize w.heap.size = b0 at *
  simp only [List.cons_append, List.nil_append] at hS
  refine (ex_find _ _ (ex_graph hS rfl rfl)).mono ?_
  rintro e w1 ⟨a1, c1, rfl, hB, hN1⟩
  have hS := hS.call hB
  clear HW3
  simp only [List.cons_append, List.nil_append] at hS
  simp only []
  go_step
  go_wp2_with (first | ((with_reducible refine g_load (T := 34) ?_); refine seq_of hS rfl (stp_load_all (T := 34) 3 Try.isAgg34 Try.sizeOf34 rfl rfl rfl ?_); simp only [Act.put, List.setIfInBounds_toArray, List.set_cons_succ, List.set_cons_zero, Int.toNat_natCast, Int.toNat_zero, Int.toNat_one, nth_zero, nth_one]))
  refine (ex_collapse _ _ (ex_graph hS rfl rfl)).mono ?_
  rintro e w2 ⟨hB2, ao, co, ai, ci, gw, gcw, gn, gnn, gcn, rfl, hs, hgw, hN2⟩
  have hS := hS.call hB2
  simp only [List.cons_append, List.nil_append] at hS
  simp only []
  go_step
  go_wp2_with (first | ((with_reducible refine g_load (T := 34) ?_); refine seq_of hS rfl (stp_load_all (T := 34) 3 Try.isAgg34 Try.sizeOf34 rfl rfl rfl ?_); simp only [Act.put, List.setIfInBounds_toArray, List.set_cons_succ, List.set_cons_zero, Int.toNat_natCast, Int.toNat_zero, Int.toNat_one, nth_zero, nth_one]) | ((with_reducible refine g_alloc (T := 34) ?_); refine seq_alloc (T := 34) hS Try.zeroValue34 (fun b5 wb5 hS => ?_); simp only [Act.put, List.setIfInBounds_toArray, List.set_cons_succ, List.set_cons_zero, Int.toNat_natCast, Int.toNat_zero, Int.toNat_one, nth_zero, nth_one]; simp only [List.cons_append, List.nil_append, List.set_cons_succ, List.set_cons_zero, Value.cells, iv_snoc, tv_snoc] at hS) | ((with_reducible refine g_store (T := 34) ?_); refine seq_store (T := 34) (u := .agg #[.slice _ _ _, .slice _ _ _]) 6 hS rfl rfl rfl Try.sizeOf34 (by simp [Value.cells, Value.oneCell']) (by simp [Value.cells]) (fun _ hS => ?_); simp only [Act.put, List.setIfInBounds_toArray, List.set_cons_succ, List.set_cons_zero, Int.toNat_natCast, Int.toNat_zero, Int.toNat_one, nth_zero, nth_one]; simp only [List.cons_append, List.nil_append, List.set_cons_succ, List.set_cons_zero, Value.cells, iv_snoc, tv_snoc] at hS; simp only [List.take_zero, List.nil_append, List.append_nil, List.drop_succ_cons, List.drop_zero, List.drop_nil, List.take_succ_cons, List.cons_append, List.size_toArray, List.length_cons, List.length_nil, Nat.reduceAdd] at hS))
  refine (ex_across _ _ _ _ (ex_graph hS rfl rfl) (SlC.arg hs hS (List.mem_of_getElem? (i := 5) rfl))).mono ?_
  rintro e w4 ⟨hB4, ap, cp, rfl, hp⟩
  have hS := hS.call hB4
  simp only [List.cons_append, List.nil_append] at hS
  simp only []
  go_step
  go_wp2_with (first | ((with_reducible refine g_bs (T := 22) ?_); refine seq_bs1 (T := 22) (v := .int .i64 2) hS Try.underlying22 Try.sizeOf3 Try.zeroValue3 rfl rfl rfl (by decide) (by decide) rfl (fun _ _ hS => ?_); simp only [Act.put, List.setIfInBounds_toArray, List.set_cons_succ, List.set_cons_zero, Int.toNat_natCast, Int.toNat_zero, Int.toNat_one, nth_zero, nth_one]; simp only [Value.cells] at hS))
  simp only [List.cons_append, List.nil_append] at hS
  refine (sameInts_any _ _ _ _ _ _ (zs [2]) [2] _ (hN1.arg hS (List.mem_of_getElem? (i := 4) rfl)) (ints_ofBlk hS (List.mem_of_getElem? (i := 8) rfl) rfl (by decide) (fun x hx => by simp at hx; unfold InI; omega))).mono ?_
  rintro e w5 ⟨rfl, hB⟩
  have hS := hS.below hB
  rw [show decide (zs [2] = [2]) = true by decide]
  simp only []
  go_step
  have hs' : SlC w2 (New w1 w2) 4 (.slice ao 1 co) 1 (isv [⟨2, 1, 3, 3⟩]) := hs
  have HS : Hid (nth is0 [(⟨2, 1, 3, 3⟩ : IS)] (0 : Int).toNat = ⟨2, 1, 3, 3⟩) := rfl
  go_wp2_with (first | ((with_reducible refine g_idx (T := 36) ?_); refine seq_any rfl (any_index_is (T := 36) HS Try.underlying36 Try.sizeOf74 rfl rfl (by with_reducible assumption) (by omega) (by omega) (fun _ _ _ => ?_)); simp only [Act.put, List.setIfInBounds_toArray, List.set_cons_succ, List.set_cons_zero, Int.toNat_natCast, Int.toNat_zero, Int.toNat_one, nth_zero, nth_one]) | ((with_reducible refine g_load (T := 74) ?_); refine seq_of hS rfl (stp_loadk (T := 74) Try.isAgg74 Try.sizeOf74 rfl (by with_reducible assumption) (by simp) rfl ?_); simp only [Act.put, List.setIfInBounds_toArray, List.set_cons_succ, List.set_cons_zero, Int.toNat_natCast, Int.toNat_zero, Int.toNat_one, nth_zero, nth_one]))
  have hS := hS.alloc (.cells #[.int .i64 0, .int .i64 1, .int .i64 2, .int .i64 2] 3 (0, 0))
  simp only [List.cons_append, List.nil_append] at hS
  refine (sameInts_any _ _ _ _ _ _ (zs [0, 1, 2, 2]) [0, 1, 2, 2] _ (hN2.arg hS (List.mem_of_getElem? (i := 5) rfl)) (ints_ofBlk hS (List.mem_of_getElem? (i := 9) rfl) rfl (by decide) (fun x hx => by simp at hx; unfold InI; omega))).mono ?_
  rintro e w6 ⟨rfl, hB⟩
  have hS := hS.below hB
  rw [show decide (zs [0, 1, 2, 2] = [0, 1, 2, 2]) = true by decide]
  simp only []
  go_step
  go_wp2_with (first | ((with_reducible refine g_load (T := 22) ?_); refine seq_of hS rfl (stp_load_blk (T := 22) 6 Try.isAgg22 rfl rfl rfl ?_); simp only [Act.put, List.setIfInBounds_toArray, List.set_cons_succ, List.set_cons_zero, Int.toNat_natCast, Int.toNat_zero, Int.toNat_one, nth_zero, nth_one]))
  have hS := hS.alloc (.cells #[.int .i64 0, .int .i64 9, .int .i64 10] 3 (0, 0))
  simp only [List.cons_append, List.nil_append] at hS
  refine (sameInts_any _ _ _ _ _ _ [0, 9, 10] [0, 9, 10] _ (hgw.arg hS (List.mem_of_getElem? (i := 5) rfl)) (ints_ofBlk hS (List.mem_of_getElem? (i := 10) rfl) rfl (by decide) (fun x hx => by simp at hx; unfold InI; omega))).mono ?_
  rintro e w7 ⟨rfl, hB⟩
  have hS := hS.below hB
  rw [show decide (([0, 9, 10] : List Int) = [0, 9, 10]) = true by decide]
  simp only []
  go_step
  have hp' : SlC w4 _ 2 (.slice ap 1 cp) 1 (pv [(1, 3)]) := hp
  repeat ((fail_if_success ((with_reducible refine g_idx ?_))); go_step)
  refine seq_any rfl (any_index (T := 61) Try.underlying61 Try.sizeOf57 rfl rfl hp' (by omega) (by omega) (by omega) (fun bq oq hcellq => ?_))
  replace hcellq : CellsAt w4 _ ⟨bq, oq, none⟩ [.int .i64 1, .int .i64 3] := hcellq
  simp only [Act.put, List.setIfInBounds_toArray, List.set_cons_succ, List.set_cons_zero, Int.toNat_natCast, Int.toNat_zero, Int.toNat_one, nth_zero, nth_one]
  have HE : ∀ w, (Op.equalIn 10000 57 (.agg #[.int .i64 1, .int .i64 3]) (.agg #[.int .i64 1, .int .i64 3])).run Try.prog w = .ok true w := fun w => equal2 1 3 1 3 w
  go_wp2_with (first | ((with_reducible refine g_load (T := 57) ?_); refine seq_of hS rfl (stp_loadk (T := 57) Try.isAgg57 Try.sizeOf57 rfl (by with_reducible assumption) (by simp) rfl ?_); simp only [Act.put, List.setIfInBounds_toArray, List.set_cons_succ, List.set_cons_zero, Int.toNat_natCast, Int.toNat_zero, Int.toNat_one, nth_zero, nth_one]))
  go_ret
  exact ⟨rfl, hS.toBelow (by simp)⟩
end Go.Proofs.Ytdibpfbibgicaaa
