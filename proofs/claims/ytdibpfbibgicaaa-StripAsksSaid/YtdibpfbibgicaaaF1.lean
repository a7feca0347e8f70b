import Derived.Test.YtdibpfbibgicaaaRows
import Derived.Test.YtdibpfbibgicaaaBase1
namespace Go.Proofs.Ytdibpfbibgicaaa
open Go.RowKit Go.Hp
set_option linter.unusedVariables false
set_option linter.unusedSimpArgs false
theorem Try.info3 : (Try.prog.info? 3).map (fun i => (i.zero, i.size, i.bytes)) = some (some (.int .i64 0), 1, 8) := by kernel_rfl

theorem ret_int {k : IntKind} {a b : Int} (h : a = b) : Ending.returned (.int k a) = .returned (.int k b) := by rw [h]
theorem ret_bool {a b : Bool} (h : a = b) : Ending.returned (.bool a) = .returned (.bool b) := by rw [h]
/-- Around. -/
def aro (n most : Int) : Int := if n < 0 then (-(n + 1)) % most else n % most
theorem aro_lt (n : Int) {most : Int} (h : 1 ≤ most) : 0 ≤ aro n most ∧ aro n most < most := by
  unfold aro
  split
  · exact ⟨Int.emod_nonneg _ (by omega), Int.emod_lt_of_pos _ (by omega)⟩
  · exact ⟨Int.emod_nonneg _ (by omega), Int.emod_lt_of_pos _ (by omega)⟩
set_option maxHeartbeats 400000 in
theorem around_any (n most : Int) (w : World) (h1 : 1 ≤ most) (h2 : most ≤ 9223372036854775807) (hn : InI n) :
    Calls Try.prog 10 #[.int .i64 n, .int .i64 most] w fun e w' => e = .returned (.int .i64 (aro n most)) ∧ w = w' := by
  obtain ⟨h3, h4⟩ := hn
  by_cases h : n < 0
  · go_enter Try.func10, Try.ntmps10
    go_wp2
    go_ret
    exact ⟨ret_int (by unfold aro; rw [if_pos h, ← Int.neg_tmod, Int.tmod_eq_emod_of_nonneg (by omega)]), rfl⟩
  · go_enter Try.func10, Try.ntmps10
    go_wp2
    go_ret
    exact ⟨ret_int (by unfold aro; rw [if_neg (by omega)]), rfl⟩

/-- Pick. -/
def pck (xs : List Int) (i most : Int) : Int := if 0 ≤ i ∧ i < xs.length then aro (nth 0 xs i.toNat) most else 0
theorem pck_lt (xs : List Int) (i : Int) {most : Int} (h : 1 ≤ most) : 0 ≤ pck xs i most ∧ pck xs i most < most := by
  unfold pck
  split
  · exact aro_lt _ h
  · omega
set_option maxHeartbeats 400000 in
theorem pick_any (a : Option Addr) (n c : Nat) (xs : List Int) (i most : Int) (w : World) (hx : Ints w (Old w) (.slice a n c) xs) (h1 : 1 ≤ most) (h2 : most ≤ 9223372036854775807) :
    Calls Try.prog 35 #[.slice a n c, .int .i64 i, .int .i64 most] w fun e w' => e = .returned (.int .i64 (pck xs i most)) ∧ Below w.heap.size w w' := by
  have hn := hx.len
  subst hn
  have hle := hx.le
  have hS := Heap.start w
  by_cases h : 0 ≤ i ∧ i < xs.length
  · obtain ⟨h3, h4⟩ := h
    have hg := hx.getD i.toNat
    go_enter Try.func35, Try.ntmps35
    go_wp2_with (first | ((with_reducible refine g_idx (T := 22) ?_); refine seq_any rfl (any_index_int (T := 22) Try.underlying22 Try.sizeOf3 rfl rfl (by with_reducible assumption) (by omega) (by omega) (fun _ _ _ => ?_)); simp only [Act.put, List.setIfInBounds_toArray, List.set_cons_succ, List.set_cons_zero, Int.toNat_natCast, Int.toNat_zero, Int.toNat_one, nth_zero, nth_one]) | ((with_reducible refine g_load (T := 3) ?_); refine seq_of hS rfl (stp_load (T := 3) Try.isAgg3 rfl (by with_reducible assumption) (by simp) rfl ?_); simp only [Act.put, List.setIfInBounds_toArray, List.set_cons_succ, List.set_cons_zero, Int.toNat_natCast, Int.toNat_zero, Int.toNat_one, nth_zero, nth_one]) | (go_at_call 10; refine (around_any _ _ _ h1 h2 hg).mono ?_; rintro e w' ⟨rfl, rfl⟩))
    go_ret
    exact ⟨ret_int (by unfold pck; rw [if_pos ⟨h3, h4⟩]), Below.refl _ _⟩
  · by_cases h3 : i < 0
    · go_enter Try.func35, Try.ntmps35
      go_wp2
      go_ret
      exact ⟨ret_int (by unfold pck; rw [if_neg (by omega)]), Below.refl _ _⟩
    · have h5 : (xs.length : Int) ≤ i := by omega
      go_enter Try.func35, Try.ntmps35
      go_wp2
      go_ret
      exact ⟨ret_int (by unfold pck; rw [if_neg (by omega)]), Below.refl _ _⟩

set_option maxHeartbeats 400000 in
theorem alone_any (n : Nat) (w : World) (hn : n ≤ 4096) :
    Calls Try.prog 25 #[.int .i64 n] w fun e w' => ∃ a c, e = .returned (.slice a n c) ∧ Below w.heap.size w w' ∧ Nats w' (New w w') (.slice a n c) (List.range n) := by
  have hS := (Heap.start w).addNil 3 1
  go_enter Try.func25, Try.ntmps25
  go_wp2
  go_loopw [3, 4] (fun out i wr => ∃ (k : Nat) (a : Option Addr) (c : Nat), k ≤ n ∧ i = .int .i64 k ∧ out = .slice a k c ∧ Heap w wr [.frz (Old w) w, .row (.slice a k c) 3 1 k (iv (zs (List.range k)))]) (fun _ i _ => n - (intOf i).toNat)
  case atStart => exact ⟨0, none, 0, by omega, rfl, rfl, hS⟩
  case round =>
    clear hS
    obtain ⟨k, a, c, hk, rfl, rfl, hS⟩ := hrel
    by_cases hlt : k < n
    · go_wp2_with (first | ((with_reducible refine g_bs (T := 22) ?_); refine seq_bs1 (T := 22) (v := .int .i64 _) hS Try.underlying22 Try.sizeOf3 Try.zeroValue3 rfl rfl rfl (by decide) (by decide) rfl (fun _ _ hS => ?_); simp only [Act.put, List.setIfInBounds_toArray, List.set_cons_succ, List.set_cons_zero, Int.toNat_natCast, Int.toNat_zero, Int.toNat_one, nth_zero, nth_one]; simp only [Value.cells] at hS) | ((with_reducible refine g_app ?_); refine seq_append_lit (t := 22) 1 hS Try.underlying22 Try.info3 rfl (by decide) rfl rfl rfl rfl (by simp [Value.oneCell']) (by omega) (by unfold maxLen; omega) (fun _ _ _ hS => ?_); simp only [Act.put, List.setIfInBounds_toArray, List.set_cons_succ, List.set_cons_zero, Int.toNat_natCast, Int.toNat_zero, Int.toNat_one, nth_zero, nth_one]; simp only [List.cons_append, List.nil_append, List.set_cons_succ, List.set_cons_zero, Value.cells, iv_snoc, tv_snoc] at hS))
      go_roundw
      case rel => exact ⟨k + 1, _, _, by omega, by go_num, rfl, by simpa [iv_snoc, zs_snoc, List.range_succ] using hS⟩
      case measure => simp [intOf]; omega
    · obtain rfl : k = n := by omega
      go_wp2
      go_ret
      exact ⟨a, c, rfl, hS.toBelow (by simp), hS.resultNats 0 rfl (fun x hx => by have := List.mem_range.1 hx; omega)⟩
end Go.Proofs.Ytdibpfbibgicaaa
