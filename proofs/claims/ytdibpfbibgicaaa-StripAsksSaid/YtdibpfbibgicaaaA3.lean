/- A3: what is too great: slices.ContainsFunc at triples, slices.Max. -/
import Derived.Test.YtdibpfbibgicaaaV1
set_option linter.unusedVariables false
set_option linter.unusedSimpArgs false
namespace Go.Proofs.Ytdibpfbibgicaaa
open Go.RowKit Go.Hp

def over1 (x : Int) : Bool := decide (1099511627776 < x)
def over3 (e : Tri) : Bool := decide (1099511627776 < e.2.2)

set_option maxRecDepth 100000 in
theorem overf_any (e : Tri) (w : World) : Calls Try.prog 58 #[.agg #[.int .i64 e.1, .int .i64 e.2.1, .int .i64 e.2.2]] w fun e' w' => e' = .returned (.bool (over3 e)) ∧ Below w.heap.size w w' := by
  have hS := Heap.start w
  obtain ⟨b, hb⟩ : ∃ b, over3 e = b := ⟨_, rfl⟩
  rw [hb]
  unfold over3 at hb
  go_enter Try.func58, Try.ntmps58
  go_wp2_with (first | ((with_reducible refine g_box (T := 55) ?_); refine seq_box (T := 55) (v := .agg _) hS rfl (fun b1 wb1 hS => ?_); simp only [Act.put, List.setIfInBounds_toArray, List.set_cons_succ, List.set_cons_zero, Int.toNat_natCast, Int.toNat_zero, Int.toNat_one, nth_zero, nth_one]; simp only [List.cons_append, List.nil_append, List.set_cons_succ, List.set_cons_zero, Value.cells, iv_snoc, tv_snoc] at hS) | ((with_reducible refine g_load (T := 3) ?_); refine seq_of hS rfl (stp_load_blk (T := 3) 1 Try.isAgg3 rfl rfl rfl ?_); simp only [Act.put, List.setIfInBounds_toArray, List.set_cons_succ, List.set_cons_zero, Int.toNat_natCast, Int.toNat_zero, Int.toNat_one, nth_zero, nth_one]))
  go_ret
  exact ⟨rfl, hS.toBelow (by simp)⟩

set_option maxRecDepth 100000 in
theorem indexo_any (a : Option Addr) (n c : Nat) (N : List Tri) (w : World) (hx : Tris w (Old w) (.slice a n c) N) :
    Calls Try.prog 73 #[.slice a n c, .func (.func 58) #[] #[]] w fun e w' => (∃ r : Int, e = .returned (.int .i64 r) ∧ decide (0 ≤ r) = N.any over3) ∧ Below w.heap.size w w' := by
  have hn := hx.len
  subst hn
  have hS := Heap.start w
  have hle := hx.le
  go_enter Try.func73, Try.ntmps73
  go_wp2
  go_loopw [8] (fun i wr => ∃ k : Nat, k ≤ N.length ∧ i = .int .i64 k ∧ (N.take k).any over3 = false ∧ Heap w wr [.frz (Old w) w]) (fun i _ => N.length - (intOf i).toNat)
  case atStart => exact ⟨0, by omega, rfl, by simp, hS⟩
  case round =>
    clear hS
    obtain ⟨k, hk, rfl, hA, hS⟩ := hrel
    by_cases hlt : k < N.length
    · have htk := take_snoc tz N k hlt
      have HA := Lib.hid hA
      have HT := Lib.hid htk
      clear hA htk
      cases hb : over3 (nth tz N k) with
      | true =>
        have HB := Lib.hid hb
        clear hb
        go_wp2_with (first | ((with_reducible refine g_idx (T := 23) ?_); refine seq_any rfl (any_index_tri (T := 23) Try.underlying23 Try.sizeOf55 rfl rfl (by with_reducible assumption) (by omega) (by omega) (fun _ _ _ => ?_)); simp only [Act.put, List.setIfInBounds_toArray, List.set_cons_succ, List.set_cons_zero, Int.toNat_natCast, Int.toNat_zero, Int.toNat_one, nth_zero, nth_one]) | ((with_reducible refine g_load (T := 55) ?_); refine seq_of hS rfl (stp_loadk (T := 55) Try.isAgg55 Try.sizeOf55 rfl (by with_reducible assumption) (by simp) rfl ?_); simp only [Act.put, List.setIfInBounds_toArray, List.set_cons_succ, List.set_cons_zero, Int.toNat_natCast, Int.toNat_zero, Int.toNat_one, nth_zero, nth_one]) | (go_at_call 58; refine (overf_any _ _).mono ?_; rintro e w' ⟨rfl, hB⟩; have hS := hS.below hB; rw [HB.out]))
        go_ret
        refine ⟨⟨_, rfl, ?_⟩, hS.toBelow (by simp)⟩
        have h1 : N.any over3 = true := List.any_eq_true.2 ⟨_, nth_mem tz N k hlt, HB.out⟩
        rw [h1]; simp
      | false =>
        have HB := Lib.hid hb
        clear hb
        go_wp2_with (first | ((with_reducible refine g_idx (T := 23) ?_); refine seq_any rfl (any_index_tri (T := 23) Try.underlying23 Try.sizeOf55 rfl rfl (by with_reducible assumption) (by omega) (by omega) (fun _ _ _ => ?_)); simp only [Act.put, List.setIfInBounds_toArray, List.set_cons_succ, List.set_cons_zero, Int.toNat_natCast, Int.toNat_zero, Int.toNat_one, nth_zero, nth_one]) | ((with_reducible refine g_load (T := 55) ?_); refine seq_of hS rfl (stp_loadk (T := 55) Try.isAgg55 Try.sizeOf55 rfl (by with_reducible assumption) (by simp) rfl ?_); simp only [Act.put, List.setIfInBounds_toArray, List.set_cons_succ, List.set_cons_zero, Int.toNat_natCast, Int.toNat_zero, Int.toNat_one, nth_zero, nth_one]) | (go_at_call 58; refine (overf_any _ _).mono ?_; rintro e w' ⟨rfl, hB⟩; have hS := hS.below hB; rw [HB.out]))
        go_roundw
        case rel => exact ⟨k + 1, by omega, by go_num, by rw [HT.out, List.any_append, HA.out]; simp [HB.out], hS⟩
        case measure => simp [intOf]; omega
    · obtain rfl : k = N.length := by omega
      rw [List.take_length] at hA
      go_wp2
      go_ret
      exact ⟨⟨_, rfl, by rw [hA]; rfl⟩, hS.toBelow (by simp)⟩

theorem containso_any (a : Option Addr) (n c : Nat) (N : List Tri) (w : World) (hx : Tris w (Old w) (.slice a n c) N) :
    Calls Try.prog 59 #[.slice a n c, .func (.func 58) #[] #[]] w fun e w' => e = .returned (.bool (N.any over3)) ∧ Below w.heap.size w w' := by
  go_enter Try.func59, Try.ntmps59
  go_wp2_with (first | (go_at_call 73; refine (indexo_any _ _ _ _ _ hx).mono ?_; rintro e w' ⟨⟨r, rfl, hr⟩, hB⟩; have HR := Lib.hid hr; clear hr))
  go_ret
  exact ⟨by rw [← HR.out]; rfl, hB⟩

theorem over_max (x y : Int) : over1 (max x y) = (over1 x || over1 y) := by
  unfold over1
  by_cases h1 : 1099511627776 < x <;> by_cases h2 : 1099511627776 < y <;> simp [h1, h2] <;> omega
set_option maxRecDepth 100000 in
theorem max_any (a : Option Addr) (n c : Nat) (W : List Int) (w : World) (hx : Ints w (Old w) (.slice a n c) W) (hn : 0 < n) :
    Calls Try.prog 60 #[.slice a n c] w fun e w' => (∃ r : Int, e = .returned (.int .i64 r) ∧ over1 r = W.any over1) ∧ Below w.heap.size w w' := by
  have hnn := hx.len
  subst hnn
  have hS := Heap.start w
  have hle := hx.le
  go_enter Try.func60, Try.ntmps60
  go_wp2_with (first | ((with_reducible refine g_idx (T := 22) ?_); refine seq_any rfl (any_index_int (T := 22) Try.underlying22 Try.sizeOf3 rfl rfl (by with_reducible assumption) (by omega) (by omega) (fun _ _ _ => ?_)); simp only [Act.put, List.setIfInBounds_toArray, List.set_cons_succ, List.set_cons_zero, Int.toNat_natCast, Int.toNat_zero, Int.toNat_one, nth_zero, nth_one]) | ((with_reducible refine g_load (T := 3) ?_); refine seq_of hS rfl (stp_load (T := 3) Try.isAgg3 rfl (by with_reducible assumption) (by simp) rfl ?_); simp only [Act.put, List.setIfInBounds_toArray, List.set_cons_succ, List.set_cons_zero, Int.toNat_natCast, Int.toNat_zero, Int.toNat_one, nth_zero, nth_one]))
  go_loopw [3, 4] (fun m i wr => ∃ (k : Nat) (mx : Int), 1 ≤ k ∧ k ≤ W.length ∧ i = .int .i64 k ∧ m = .int .i64 mx ∧ InI mx ∧ Hid (over1 mx = (W.take k).any over1) ∧ Heap w wr [.frz (Old w) w]) (fun _ i _ => W.length - (intOf i).toNat)
  case atStart =>
    refine ⟨1, nth 0 W 0, by omega, by omega, rfl, rfl, hx.getD 0, ?_, hS⟩
    unfold Hid
    rw [take_snoc 0 W 0 hn]
    simp
  case round =>
    clear hS
    obtain ⟨k, mx, h1, hk, rfl, rfl, hi, hO, hS⟩ := hrel
    by_cases hlt : k < W.length
    · have htk := take_snoc 0 W k hlt
      have HT := Lib.hid htk
      clear htk
      have hg := hx.getD k
      go_wp2_with (first | ((with_reducible refine g_idx (T := 22) ?_); refine seq_any rfl (any_index_int (T := 22) Try.underlying22 Try.sizeOf3 rfl rfl (by with_reducible assumption) (by omega) (by omega) (fun _ _ _ => ?_)); simp only [Act.put, List.setIfInBounds_toArray, List.set_cons_succ, List.set_cons_zero, Int.toNat_natCast, Int.toNat_zero, Int.toNat_one, nth_zero, nth_one]) | ((with_reducible refine g_load (T := 3) ?_); refine seq_of hS rfl (stp_load (T := 3) Try.isAgg3 rfl (by with_reducible assumption) (by simp) rfl ?_); simp only [Act.put, List.setIfInBounds_toArray, List.set_cons_succ, List.set_cons_zero, Int.toNat_natCast, Int.toNat_zero, Int.toNat_one, nth_zero, nth_one]))
      go_roundw
      case rel => exact ⟨k + 1, max mx (nth 0 W k), by omega, by omega, by go_num, rfl, by unfold InI at *; omega, by unfold Hid; rw [over_max, HT.out, List.any_append, hO.out]; simp, hS⟩
      case measure => simp [intOf]; omega
    · obtain rfl : k = W.length := by omega
      rw [List.take_length] at hO
      go_wp2
      go_ret
      exact ⟨⟨_, rfl, hO.out⟩, hS.toBelow (by simp)⟩
end Go.Proofs.Ytdibpfbibgicaaa
