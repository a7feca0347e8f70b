/- C6: strip.Open. -/
import Derived.Test.YtdibpfbibgicaaaC5
set_option linter.unusedVariables false
set_option linter.unusedSimpArgs false
namespace Go.Proofs.Ytdibpfbibgicaaa
open Go.RowKit Go.Hp

/-- What Open notes. -/
def opnNX (n0 : Nat) (n : Int) (bs b9 b5 b10 b11 : Nat) (p : List IS) (X : List Chunk) : Prop :=
  ∃ (ov : Value) (rest : List Chunk), X = [.blk b9 (.cells #[.int .i64 p.length] 3 (0, 0)), .blk b5 (.cells #[.int .i64 n] 3 (0, 0)), .blk b10 (.cells #[.pointer (some ⟨bs, 0, none⟩)] 77 (0, 0)), .blk b11 (.cells #[ov] 22 (0, 0))] ++ rest ∧
    ((¬ (0 ≤ n ∧ n < p.length) ∧ rest = [] ∧ ov = .slice none 0 0) ∨
     (∃ (cur : List Nat) (S : Nat → Prop) (w' : World) (a : Option Addr) (c : Nat), 0 ≤ n ∧ n < p.length ∧ runI (List.range n0) (p.take n.toNat) = some cur ∧ rest = [.frz S w'] ∧ ov = .slice a n0 c ∧ Nats w' S (.slice a n0 c) (idx cur)))

set_option maxHeartbeats 2000000 in
set_option maxRecDepth 100000 in
theorem opnNote (a : Option Addr) (c bw bs b9 b5 b10 b11 : Nat) (n : Int) (W : List Int) (N : List Tri) (LL0 : Nat) (hL : LL0 ≤ 1000000) (hv : VG W N) (p : List IS) (s : IS) (X : List Chunk) (cur : List Nat) (bl : Nat) (ow ol : Obj) (lw : List (Int × Int)) (ll : LL) (S : Nat → Prop) (w : World)
    (hX : opnNX W.length n bs b9 b5 b10 b11 p X) (hlen : (p ++ [s]).length ≤ LL0) (hgr : Gr W.length cur) (hrun : runI (List.range W.length) p = some cur)
    (hS : Heap w w (.frz S w :: (X ++ stH a W.length c bw bl bs cur ow ol))) :
    Calls Try.prog 54 (#[.agg #[.int .i64 s.face, .int .i64 s.a, .int .i64 s.b, .int .i64 s.into]] ++ #[.pointer (some ⟨b9, 0, none⟩), .pointer (some ⟨b5, 0, none⟩), .pointer (some ⟨b10, 0, none⟩), .pointer (some ⟨b11, 0, none⟩)]) w fun e w' => e = .returned (.tuple #[]) ∧ ∃ X', opnNX W.length n bs b9 b5 b10 b11 (p ++ [s]) X' ∧ Heap w w' (.frz S w :: (X' ++ stH a W.length c bw bl bs cur ow ol)) := by
  obtain ⟨sf, sa, sb, si⟩ := s
  have hle := hv.wlen
  have hri := rank_idx hgr
  have hcl := hgr.len
  have hcle : cur.length ≤ 4096 := by omega
  have hcb : ∀ x ∈ cur, x ≤ 9223372036854775807 := fun x hx => by
    obtain ⟨i, hi, rfl⟩ := List.mem_iff_getElem.1 hx
    have := hgr.le i (by omega)
    rw [nth_eq 0 _ _ hi] at this
    omega
  have HRI := Lib.hid hri
  have HCL := Lib.hid hcl
  clear hri hcl
  obtain ⟨ov, rest, rfl, hor⟩ := hX
  have hpl : p.length + 1 ≤ LL0 := by rw [List.length_append] at hlen; exact hlen
  have hc : (((p ++ [(⟨sf, sa, sb, si⟩ : IS)]).length : Nat) : Int) = (p.length : Int) + 1 := by simp
  rcases hor with ⟨hn, rfl, rfl⟩ | ⟨cu, S', w', ao, co, hn0, hn1, hr, rfl, rfl, hNx⟩
  · by_cases he : n = p.length
    · have hN : Hid (n = p.length) := he
      subst he
      have f1 : (((p.length : Nat) : Int) == (p.length : Int)) = true := by simp
      simp only [stH, List.cons_append, List.nil_append, List.append_nil] at hS
      go_enter Try.func54, Try.ntmps54
      go_wp2_with (first | ((with_reducible refine g_box (T := 74) ?_); refine seq_box (T := 74) (v := .agg _) hS rfl (fun b3 wb3 hS => ?_); simp only [Act.put, List.setIfInBounds_toArray, List.set_cons_succ, List.set_cons_zero, Int.toNat_natCast, Int.toNat_zero, Int.toNat_one, nth_zero, nth_one]; simp only [List.cons_append, List.nil_append, List.set_cons_succ, List.set_cons_zero, Value.cells, iv_snoc, tv_snoc] at hS) | ((with_reducible refine g_load (T := 3) ?_); refine seq_of hS rfl (stp_load_blk (T := 3) 1 Try.isAgg3 rfl rfl rfl ?_); simp only [Act.put, List.setIfInBounds_toArray, List.set_cons_succ, List.set_cons_zero, Int.toNat_natCast, Int.toNat_zero, Int.toNat_one, nth_zero, nth_one]) | ((with_reducible refine g_load (T := 3) ?_); refine seq_of hS rfl (stp_load_blk (T := 3) 2 Try.isAgg3 rfl rfl rfl ?_); simp only [Act.put, List.setIfInBounds_toArray, List.set_cons_succ, List.set_cons_zero, Int.toNat_natCast, Int.toNat_zero, Int.toNat_one, nth_zero, nth_one]) | ((with_reducible refine g_load (T := 77) ?_); refine seq_of hS rfl (stp_load_blk (T := 77) 3 Try.isAgg77 rfl rfl rfl ?_); simp only [Act.put, List.setIfInBounds_toArray, List.set_cons_succ, List.set_cons_zero, Int.toNat_natCast, Int.toNat_zero, Int.toNat_one, nth_zero, nth_one]) | (go_at_call 40; refine (sindices_any _ _ _ _ _ _ _ _ (hS.fz 8 rfl) (Heap.rowB hS 5 rfl) (hS.rowNats 5 rfl hcb) hcle).mono ?_; rintro e w' ⟨ai, ci, rfl, hB, hNx⟩; have hS := hS.call hB; rw [HRI.out] at hNx; rw [HCL.out] at hNx ⊢; simp only [List.cons_append, List.nil_append, List.set_cons_succ, List.set_cons_zero, Value.cells, iv_snoc, tv_snoc] at hS) | ((with_reducible refine g_store (T := 22) ?_); refine seq_store (T := 22) (u := .slice _ _ _) 4 hS rfl rfl rfl Try.sizeOf22 (by simp [Value.cells, Value.oneCell']) (by simp [Value.cells]) (fun _ hS => ?_); simp only [Act.put, List.setIfInBounds_toArray, List.set_cons_succ, List.set_cons_zero, Int.toNat_natCast, Int.toNat_zero, Int.toNat_one, nth_zero, nth_one]; simp only [List.cons_append, List.nil_append, List.set_cons_succ, List.set_cons_zero, Value.cells, iv_snoc, tv_snoc] at hS; simp only [List.take_zero, List.nil_append, List.append_nil, List.drop_succ_cons, List.drop_zero, List.drop_nil, List.take_succ_cons, List.cons_append, List.size_toArray, List.length_cons, List.length_nil, Nat.reduceAdd] at hS) | ((with_reducible refine g_store (T := 3) ?_); refine seq_store (T := 3) (u := .int .i64 _) 1 hS rfl rfl rfl Try.sizeOf3 (by simp [Value.cells, Value.oneCell']) (by simp [Value.cells]) (fun _ hS => ?_); simp only [Act.put, List.setIfInBounds_toArray, List.set_cons_succ, List.set_cons_zero, Int.toNat_natCast, Int.toNat_zero, Int.toNat_one, nth_zero, nth_one]; simp only [List.cons_append, List.nil_append, List.set_cons_succ, List.set_cons_zero, Value.cells, iv_snoc, tv_snoc] at hS; simp only [List.take_zero, List.nil_append, List.append_nil, List.drop_succ_cons, List.drop_zero, List.drop_nil, List.take_succ_cons, List.cons_append, List.size_toArray, List.length_cons, List.length_nil, Nat.reduceAdd] at hS))
      have h2 : Heap w _ ([_, _, _, _, _, _, _, _, _, _] ++ [_]) := hS.order [0, 1, 2, 3, 4, 10, 5, 6, 7, 8, 9] rfl
      have h3 := h2.sub (List.sublist_append_left _ _)
      refine bodyPost_end (results_none rfl _ _ _) rfl ⟨rfl, [.blk b9 (.cells #[.int .i64 ((p.length : Int) + 1)] 3 (0, 0)), .blk b5 (.cells #[.int .i64 p.length] 3 (0, 0)), .blk b10 (.cells #[.pointer (some ⟨bs, 0, none⟩)] 77 (0, 0)), .blk b11 (.cells #[.slice ai W.length ci] 22 (0, 0))] ++ [.frz (New wb3 w') w'], ⟨.slice ai W.length ci, [.frz (New wb3 w') w'], by rw [hc], .inr ⟨cur, _, _, ai, ci, by omega, by rw [hc]; omega, ?_, rfl, rfl, hNx⟩⟩, h3⟩
      rw [Int.toNat_natCast, List.take_left']
      · exact hrun
      · rfl
    · have f1 : (((p.length : Nat) : Int) == n) = false := by simp; omega
      simp only [stH, List.cons_append, List.nil_append, List.append_nil] at hS
      clear HRI HCL hcb
      go_enter Try.func54, Try.ntmps54
      go_wp2_with (first | ((with_reducible refine g_box (T := 74) ?_); refine seq_box (T := 74) (v := .agg _) hS rfl (fun b3 wb3 hS => ?_); simp only [Act.put, List.setIfInBounds_toArray, List.set_cons_succ, List.set_cons_zero, Int.toNat_natCast, Int.toNat_zero, Int.toNat_one, nth_zero, nth_one]; simp only [List.cons_append, List.nil_append, List.set_cons_succ, List.set_cons_zero, Value.cells, iv_snoc, tv_snoc] at hS) | ((with_reducible refine g_load (T := 3) ?_); refine seq_of hS rfl (stp_load_blk (T := 3) 1 Try.isAgg3 rfl rfl rfl ?_); simp only [Act.put, List.setIfInBounds_toArray, List.set_cons_succ, List.set_cons_zero, Int.toNat_natCast, Int.toNat_zero, Int.toNat_one, nth_zero, nth_one]) | ((with_reducible refine g_load (T := 3) ?_); refine seq_of hS rfl (stp_load_blk (T := 3) 2 Try.isAgg3 rfl rfl rfl ?_); simp only [Act.put, List.setIfInBounds_toArray, List.set_cons_succ, List.set_cons_zero, Int.toNat_natCast, Int.toNat_zero, Int.toNat_one, nth_zero, nth_one]) | ((with_reducible refine g_store (T := 3) ?_); refine seq_store (T := 3) (u := .int .i64 _) 1 hS rfl rfl rfl Try.sizeOf3 (by simp [Value.cells, Value.oneCell']) (by simp [Value.cells]) (fun _ hS => ?_); simp only [Act.put, List.setIfInBounds_toArray, List.set_cons_succ, List.set_cons_zero, Int.toNat_natCast, Int.toNat_zero, Int.toNat_one, nth_zero, nth_one]; simp only [List.cons_append, List.nil_append, List.set_cons_succ, List.set_cons_zero, Value.cells, iv_snoc, tv_snoc] at hS; simp only [List.take_zero, List.nil_append, List.append_nil, List.drop_succ_cons, List.drop_zero, List.drop_nil, List.take_succ_cons, List.cons_append, List.size_toArray, List.length_cons, List.length_nil, Nat.reduceAdd] at hS))
      have h2 : Heap w _ ([_, _, _, _, _, _, _, _, _] ++ [_]) := hS.order [0, 1, 2, 3, 4, 5, 6, 7, 8, 9] rfl
      have h3 := h2.sub (List.sublist_append_left _ _)
      exact bodyPost_end (results_none rfl _ _ _) rfl ⟨rfl, [.blk b9 (.cells #[.int .i64 ((p.length : Int) + 1)] 3 (0, 0)), .blk b5 (.cells #[.int .i64 n] 3 (0, 0)), .blk b10 (.cells #[.pointer (some ⟨bs, 0, none⟩)] 77 (0, 0)), .blk b11 (.cells #[.slice none 0 0] 22 (0, 0))] ++ [], ⟨.slice none 0 0, [], by rw [hc], .inl ⟨by rw [hc]; omega, rfl, rfl⟩⟩, h3⟩
  · have f1 : (((p.length : Nat) : Int) == n) = false := by simp; omega
    simp only [stH, List.cons_append, List.nil_append, List.append_nil] at hS
    have HR := Lib.hid hr
    clear HRI HCL hcb hr
    go_enter Try.func54, Try.ntmps54
    go_wp2_with (first | ((with_reducible refine g_box (T := 74) ?_); refine seq_box (T := 74) (v := .agg _) hS rfl (fun b3 wb3 hS => ?_); simp only [Act.put, List.setIfInBounds_toArray, List.set_cons_succ, List.set_cons_zero, Int.toNat_natCast, Int.toNat_zero, Int.toNat_one, nth_zero, nth_one]; simp only [List.cons_append, List.nil_append, List.set_cons_succ, List.set_cons_zero, Value.cells, iv_snoc, tv_snoc] at hS) | ((with_reducible refine g_load (T := 3) ?_); refine seq_of hS rfl (stp_load_blk (T := 3) 1 Try.isAgg3 rfl rfl rfl ?_); simp only [Act.put, List.setIfInBounds_toArray, List.set_cons_succ, List.set_cons_zero, Int.toNat_natCast, Int.toNat_zero, Int.toNat_one, nth_zero, nth_one]) | ((with_reducible refine g_load (T := 3) ?_); refine seq_of hS rfl (stp_load_blk (T := 3) 2 Try.isAgg3 rfl rfl rfl ?_); simp only [Act.put, List.setIfInBounds_toArray, List.set_cons_succ, List.set_cons_zero, Int.toNat_natCast, Int.toNat_zero, Int.toNat_one, nth_zero, nth_one]) | ((with_reducible refine g_store (T := 3) ?_); refine seq_store (T := 3) (u := .int .i64 _) 1 hS rfl rfl rfl Try.sizeOf3 (by simp [Value.cells, Value.oneCell']) (by simp [Value.cells]) (fun _ hS => ?_); simp only [Act.put, List.setIfInBounds_toArray, List.set_cons_succ, List.set_cons_zero, Int.toNat_natCast, Int.toNat_zero, Int.toNat_one, nth_zero, nth_one]; simp only [List.cons_append, List.nil_append, List.set_cons_succ, List.set_cons_zero, Value.cells, iv_snoc, tv_snoc] at hS; simp only [List.take_zero, List.nil_append, List.append_nil, List.drop_succ_cons, List.drop_zero, List.drop_nil, List.take_succ_cons, List.cons_append, List.size_toArray, List.length_cons, List.length_nil, Nat.reduceAdd] at hS))
    have h2 : Heap w _ ([_, _, _, _, _, _, _, _, _, _] ++ [_]) := hS.order [0, 1, 2, 3, 4, 5, 6, 7, 8, 9, 10] rfl
    have h3 := h2.sub (List.sublist_append_left _ _)
    refine bodyPost_end (results_none rfl _ _ _) rfl ⟨rfl, [.blk b9 (.cells #[.int .i64 ((p.length : Int) + 1)] 3 (0, 0)), .blk b5 (.cells #[.int .i64 n] 3 (0, 0)), .blk b10 (.cells #[.pointer (some ⟨bs, 0, none⟩)] 77 (0, 0)), .blk b11 (.cells #[.slice ao W.length co] 22 (0, 0))] ++ [.frz S' w'], ⟨.slice ao W.length co, [.frz S' w'], by rw [hc], .inr ⟨cu, _, _, ao, co, by omega, by rw [hc]; omega, ?_, rfl, rfl, hNx⟩⟩, h3⟩
    rw [List.take_append_of_le_length (by omega)]
    exact HR.out
end Go.Proofs.Ytdibpfbibgicaaa
