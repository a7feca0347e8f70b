/- B6: strip.Find and strip.Collapse at every graph, said in one form. -/
import Derived.Test.YtdibpfbibgicaaaB1
import Derived.Test.YtdibpfbibgicaaaB2
import Derived.Test.YtdibpfbibgicaaaB3
import Derived.Test.YtdibpfbibgicaaaB4
import Derived.Test.YtdibpfbibgicaaaB5
import Derived.Test.YtdibpfbibgicaaaS4
import Derived.Test.YtdibpfbibgicaaaP5
set_option linter.unusedVariables false
set_option linter.unusedSimpArgs false
namespace Go.Proofs.Ytdibpfbibgicaaa
open Go.RowKit Go.Hp

theorem ints_nil (w : World) (S : Nat → Prop) : Ints w S (.slice none 0 0) [] := ⟨SlC.nil w S 1, by simp⟩
theorem tris_nil (w : World) (S : Nat → Prop) : Tris w S (.slice none 0 0) [] := ⟨SlC.nil w S 3, by simp⟩
theorem strs_nil (w : World) (S : Nat → Prop) : Strs w S (.slice none 0 0) [] := SlC.nil w S 4

theorem model_any (gv : Value) (W : List Int) (N : List Tri) (w : World) (hg : GraphAt w (Old w) gv W N) :
    Calls Try.prog 22 #[gv] w fun e w' => e = .returned gv ∧ Below w.heap.size w w' := by
  obtain ⟨aw, cw, an, cn, rfl, hw, hnn⟩ := hg
  have hS := Heap.start w
  go_enter Try.func22, Try.ntmps22
  go_wp2_with (first | ((with_reducible refine g_box (T := 34) ?_); refine seq_box (T := 34) (v := .agg _) hS rfl (fun b1 wb1 hS => ?_); simp only [Act.put, List.setIfInBounds_toArray, List.set_cons_succ, List.set_cons_zero, Int.toNat_natCast, Int.toNat_zero, Int.toNat_one, nth_zero, nth_one]; simp only [List.cons_append, List.nil_append, List.set_cons_succ, List.set_cons_zero, Value.cells, iv_snoc, tv_snoc] at hS) | ((with_reducible refine g_alloc (T := 25) ?_); refine seq_alloc (T := 25) hS Try.zeroValue25 (fun b2 wb2 hS => ?_); simp only [Act.put, List.setIfInBounds_toArray, List.set_cons_succ, List.set_cons_zero, Int.toNat_natCast, Int.toNat_zero, Int.toNat_one, nth_zero, nth_one]; simp only [List.cons_append, List.nil_append, List.set_cons_succ, List.set_cons_zero, Value.cells, iv_snoc, tv_snoc] at hS) | ((with_reducible refine g_load (T := 22) ?_); refine seq_of hS rfl (stp_load_blk (T := 22) 1 Try.isAgg22 rfl rfl rfl ?_); simp only [Act.put, List.setIfInBounds_toArray, List.set_cons_succ, List.set_cons_zero, Int.toNat_natCast, Int.toNat_zero, Int.toNat_one, nth_zero, nth_one]) | ((with_reducible refine g_load (T := 23) ?_); refine seq_of hS rfl (stp_load_blk (T := 23) 1 Try.isAgg23 rfl rfl rfl ?_); simp only [Act.put, List.setIfInBounds_toArray, List.set_cons_succ, List.set_cons_zero, Int.toNat_natCast, Int.toNat_zero, Int.toNat_one, nth_zero, nth_one]) | ((with_reducible refine g_store (T := 25) ?_); refine seq_store (T := 25) (u := .agg #[.slice _ _ _, .slice _ _ _]) 2 hS rfl rfl rfl Try.sizeOf25 (by simp [Value.cells, Value.oneCell']) (by simp [Value.cells]) (fun _ hS => ?_); simp only [Act.put, List.setIfInBounds_toArray, List.set_cons_succ, List.set_cons_zero, Int.toNat_natCast, Int.toNat_zero, Int.toNat_one, nth_zero, nth_one]; simp only [List.cons_append, List.nil_append, List.set_cons_succ, List.set_cons_zero, Value.cells, iv_snoc, tv_snoc] at hS; simp only [List.take_zero, List.nil_append, List.append_nil, List.drop_succ_cons, List.drop_zero, List.drop_nil, List.take_succ_cons, List.cons_append, List.size_toArray, List.length_cons, List.length_nil, Nat.reduceAdd] at hS))
  exact ret_cell1 2 hS rfl rfl rfl Try.isAgg25 Try.sizeOf25 rfl rfl ⟨rfl, hS.toBelow (by simp)⟩

/-- What Find answers. -/
def FindRes (W : List Int) (N : List Tri) (most : Int) (c : Nat) (F : List Nat) : Prop :=
  (validN W N ≠ 0 ∧ c = validN W N ∧ F = []) ∨ (VG W N ∧ c = 0 ∧ F = finds W N (List.range W.length) most)
theorem find_all (gv : Value) (most : Int) (W : List Int) (N : List Tri) (w : World) (hg : GraphAt w (Old w) gv W N) (hm : InI most) :
    Calls Try.prog 12 #[gv, .int .i64 most] w fun e w' => Below w.heap.size w w' ∧ ∃ a k c F, e = .returned (.tuple #[.slice a F.length k, .int .i64 (c : Nat)]) ∧ Nats w' (New w w') (.slice a F.length k) F ∧ FindRes W N most c F := by
  rcases validN_cases W N with ⟨h0, hv⟩ | ⟨h0, h4⟩
  · refine (sfind_ok gv most W N w hg hv hm).mono ?_
    rintro e w' ⟨a, k, rfl, hB, hN⟩
    exact ⟨hB, a, k, 0, _, rfl, hN, .inr ⟨hv, rfl, rfl⟩⟩
  · refine (sfind_bad gv most W N w hg (by omega)).mono ?_
    rintro e w' ⟨rfl, hB⟩
    exact ⟨hB, none, 0, validN W N, [], rfl, ints_nil _ _, .inl ⟨by omega, rfl, rfl⟩⟩

/-- What Collapse answers. -/
def ColRes (W : List Int) (N : List Tri) (most : Int) (c : Nat) (l : List Str) (Wq : List Int) (Nq : List Tri) (G : List Nat) : Prop :=
  (validN W N ≠ 0 ∧ c = validN W N ∧ l = [] ∧ Wq = [] ∧ Nq = [] ∧ G = []) ∨
  (VG W N ∧ ∃ l0, Col W N most l0 ∧ ((qOver W N (runOf (List.range W.length) l0) = true ∧ c = 4 ∧ l = [] ∧ Wq = [] ∧ Nq = [] ∧ G = []) ∨
    (qOver W N (runOf (List.range W.length) l0) = false ∧ c = 0 ∧ l = l0 ∧ Wq = qW W (runOf (List.range W.length) l0) ∧ Nq = qN N (runOf (List.range W.length) l0) ∧ G = idx (runOf (List.range W.length) l0))))
theorem collapse_all (gv : Value) (most : Int) (W : List Int) (N : List Tri) (w : World) (hg : GraphAt w (Old w) gv W N) (hm : InI most) :
    Calls Try.prog 14 #[gv, .int .i64 most] w fun e w' => Below w.heap.size w w' ∧ ∃ (ao : Option Addr) (co : Nat) (gw : Option Addr) (gcw : Nat) (gn : Option Addr) (gcn : Nat) (ai : Option Addr) (ci c : Nat) (l : List Str) (Wq : List Int) (Nq : List Tri) (G : List Nat),
      e = .returned (.tuple #[.slice ao l.length co, .agg #[.slice gw Wq.length gcw, .slice gn Nq.length gcn], .slice ai G.length ci, .int .i64 (c : Nat)]) ∧
      Strs w' (New w w') (.slice ao l.length co) l ∧ Ints w' (New w w') (.slice gw Wq.length gcw) Wq ∧ Tris w' (New w w') (.slice gn Nq.length gcn) Nq ∧ Nats w' (New w w') (.slice ai G.length ci) G ∧ ColRes W N most c l Wq Nq G := by
  rcases validN_cases W N with ⟨h0, hv⟩ | ⟨h0, h4⟩
  · refine (collapse_ok gv most W N w hg hv hm).mono ?_
    rintro e w' ⟨hB, l, hcol, ⟨ho, rfl⟩ | ⟨ho, ao, co, gv', ai, ci, rfl, hs, ⟨gw, gcw, gn, gcn, rfl, hgw, hgn⟩, hgi⟩⟩
    · exact ⟨hB, none, 0, none, 0, none, 0, none, 0, 4, [], [], [], [], rfl, strs_nil _ _, ints_nil _ _, tris_nil _ _, ints_nil _ _, .inr ⟨hv, l, hcol, .inl ⟨ho, rfl, rfl, rfl, rfl, rfl⟩⟩⟩
    · have hil : (idx (runOf (List.range W.length) l)).length = W.length := by rw [idx_len]; exact hcol.1.gr0.1.len
      have hgi' : Nats w' (New w w') (.slice ai (idx (runOf (List.range W.length) l)).length ci) (idx (runOf (List.range W.length) l)) := by rw [hil]; exact hgi
      exact ⟨hB, ao, co, gw, gcw, gn, gcn, ai, ci, 0, l, _, _, _, by rw [hil]; rfl, hs, hgw, hgn, hgi', .inr ⟨hv, l, hcol, .inr ⟨ho, rfl, rfl, rfl, rfl, rfl⟩⟩⟩
  · refine (collapse_bad gv most W N w hg (by omega)).mono ?_
    rintro e w' ⟨rfl, hB⟩
    exact ⟨hB, none, 0, none, 0, none, 0, none, 0, validN W N, [], [], [], [], rfl, strs_nil _ _, ints_nil _ _, tris_nil _ _, ints_nil _ _, .inl ⟨by omega, rfl, rfl, rfl, rfl, rfl⟩⟩

/-- A region drawn as a tree: the graph found lies beside the rest in the same way on each way. -/
theorem wp_region_col2 {P : Program} {K : Act → World → Prop} {Q' : Exit → Act → World → Prop} {id : Nat} {a : Act} {w : World} {l : List Oper} (t : Tr) (M : List Nat) (C : World → Prop) (hm : P.follows .mixedOrders = true)
    (hok : (Region.noSelect l.toArray && (t.len == l.length) && trOk .any l.toArray M t (Array.replicate l.length false)) = true) (hC : C w.drew)
    (F : Nat → Option Addr → Nat → Option Addr → Nat → Option Addr → Nat → Option Addr → Nat → Nat → List Str → List Int → List Tri → List Nat → World → Prop) (R : Nat → Option Addr → Nat → Option Addr → Nat → Option Addr → Nat → Option Addr → Nat → Nat → List Str → List Int → List Tri → List Nat → Act)
    (h : (∀ b7 ao co gw gcw gn gcn ai ci c l Wq Nq G w', F b7 ao co gw gcw gn gcn ai ci c l Wq Nq G w' → K (R b7 ao co gw gcw gn gcn ai ci c l Wq Nq G) w') → ∀ w', C w' → wpTr P l.toArray (Exit.then K Q') C t a w')
    (hrest : ∀ b7 ao co gw gcw gn gcn ai ci c l Wq Nq G w', F b7 ao co gw gcw gn gcn ai ci c l Wq Nq G w' → K (R b7 ao co gw gcw gn gcn ai ci c l Wq Nq G) w') : (Code.region id l.toArray true).wp P (Exit.then K Q') a w :=
  wp_region_tr t M C hm hok hC (h hrest)
theorem fill3g (a b c d : Value) : Instr.fill (fun i => some (i * 2, 2)) ((Array.range (3 * 2)).map ((Value.agg #[.slice none 0 0, .slice none 0 0]).cells[· % (Value.agg #[.slice none 0 0, .slice none 0 0]).cells.size]!)) [(0, .agg #[a, b]), (1, .agg #[c, d]), (2, .agg #[.slice none 0 0, .slice none 0 0])] = some #[a, b, c, d, .slice none 0 0, .slice none 0 0] := by
  have h : ((Array.range (3 * 2)).map ((Value.agg #[.slice none 0 0, .slice none 0 0]).cells[· % (Value.agg #[.slice none 0 0, .slice none 0 0]).cells.size]!)) = #[.slice none 0 0, .slice none 0 0, .slice none 0 0, .slice none 0 0, .slice none 0 0, .slice none 0 0] := by
    apply Array.ext'; simp [Array.range, List.ofFn_succ, Value.cells]
  rw [h]
  simp [Instr.fill, Value.cells]
end Go.Proofs.Ytdibpfbibgicaaa
