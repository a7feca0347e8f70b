/- V1: rank.Valid. -/
import Derived.Test.YtdibpfbibgicaaaIt4
set_option linter.unusedVariables false
set_option linter.unusedSimpArgs false
namespace Go.Proofs.Ytdibpfbibgicaaa
open Go.RowKit Go.Hp

def bad1 (x : Int) : Bool := decide (x < 0) || decide (1099511627776 < x)

theorem validf_any (x : Int) (w : World) : Calls Try.prog 48 #[.int .i64 x] w fun e w' => e = .returned (.bool (bad1 x)) ∧ Below w.heap.size w w' := by
  go_enter Try.func48, Try.ntmps48
  by_cases h1 : x < 0
  · have f1 : decide (x < 0) = true := by simpa using h1
    go_wp2
    go_ret
    exact ⟨by simp [bad1, h1], Below.refl _ _⟩
  · have f1 : decide (x < 0) = false := by simpa using h1
    by_cases h2 : 1099511627776 < x
    · have f2 : decide (1099511627776 < x) = true := by simpa using h2
      go_wp2
      go_ret
      exact ⟨by simp [bad1, h2], Below.refl _ _⟩
    · have f2 : decide (1099511627776 < x) = false := by simpa using h2
      go_wp2
      go_ret
      exact ⟨by simp [bad1, h1, h2], Below.refl _ _⟩

set_option maxRecDepth 100000 in
theorem indexf_any (a : Option Addr) (n c : Nat) (W : List Int) (w : World) (hx : Ints w (Old w) (.slice a n c) W) :
    Calls Try.prog 67 #[.slice a n c, .func (.func 48) #[] #[]] w fun e w' => (∃ r : Int, e = .returned (.int .i64 r) ∧ decide (0 ≤ r) = W.any bad1) ∧ Below w.heap.size w w' := by
  have hn := hx.len
  subst hn
  have hS := Heap.start w
  have hle := hx.le
  go_enter Try.func67, Try.ntmps67
  go_wp2
  go_loopw [8] (fun i wr => ∃ k : Nat, k ≤ W.length ∧ i = .int .i64 k ∧ (W.take k).any bad1 = false ∧ Heap w wr [.frz (Old w) w]) (fun i _ => W.length - (intOf i).toNat)
  case atStart => exact ⟨0, by omega, rfl, by simp, hS⟩
  case round =>
    clear hS
    obtain ⟨k, hk, rfl, hA, hS⟩ := hrel
    by_cases hlt : k < W.length
    · have htk := take_snoc 0 W k hlt
      have HA := Lib.hid hA
      have HT := Lib.hid htk
      clear hA htk
      cases hb : bad1 (nth 0 W k) with
      | true =>
        have HB := Lib.hid hb
        clear hb
        go_wp2_with (first | ((with_reducible refine g_idx (T := 22) ?_); refine seq_any rfl (any_index_int (T := 22) Try.underlying22 Try.sizeOf3 rfl rfl (by with_reducible assumption) (by omega) (by omega) (fun _ _ _ => ?_)); simp only [Act.put, List.setIfInBounds_toArray, List.set_cons_succ, List.set_cons_zero, Int.toNat_natCast, Int.toNat_zero, Int.toNat_one, nth_zero, nth_one]) | ((with_reducible refine g_load (T := 3) ?_); refine seq_of hS rfl (stp_load (T := 3) Try.isAgg3 rfl (by with_reducible assumption) (by simp) rfl ?_); simp only [Act.put, List.setIfInBounds_toArray, List.set_cons_succ, List.set_cons_zero, Int.toNat_natCast, Int.toNat_zero, Int.toNat_one, nth_zero, nth_one]) | (go_at_call 48; refine (validf_any _ _).mono ?_; rintro e w' ⟨rfl, hB⟩; have hS := hS.below hB; rw [HB.out]))
        go_ret
        refine ⟨⟨_, rfl, ?_⟩, hS.toBelow (by simp)⟩
        have h1 : W.any bad1 = true := List.any_eq_true.2 ⟨_, nth_mem 0 W k hlt, HB.out⟩
        rw [h1]; simp
      | false =>
        have HB := Lib.hid hb
        clear hb
        go_wp2_with (first | ((with_reducible refine g_idx (T := 22) ?_); refine seq_any rfl (any_index_int (T := 22) Try.underlying22 Try.sizeOf3 rfl rfl (by with_reducible assumption) (by omega) (by omega) (fun _ _ _ => ?_)); simp only [Act.put, List.setIfInBounds_toArray, List.set_cons_succ, List.set_cons_zero, Int.toNat_natCast, Int.toNat_zero, Int.toNat_one, nth_zero, nth_one]) | ((with_reducible refine g_load (T := 3) ?_); refine seq_of hS rfl (stp_load (T := 3) Try.isAgg3 rfl (by with_reducible assumption) (by simp) rfl ?_); simp only [Act.put, List.setIfInBounds_toArray, List.set_cons_succ, List.set_cons_zero, Int.toNat_natCast, Int.toNat_zero, Int.toNat_one, nth_zero, nth_one]) | (go_at_call 48; refine (validf_any _ _).mono ?_; rintro e w' ⟨rfl, hB⟩; have hS := hS.below hB; rw [HB.out]))
        go_roundw
        case rel => exact ⟨k + 1, by omega, by go_num, by rw [HT.out, List.any_append, HA.out]; simp [HB.out], hS⟩
        case measure => simp [intOf]; omega
    · obtain rfl : k = W.length := by omega
      rw [List.take_length] at hA
      go_wp2
      go_ret
      exact ⟨⟨_, rfl, by rw [hA]; rfl⟩, hS.toBelow (by simp)⟩

theorem containsf_any (a : Option Addr) (n c : Nat) (W : List Int) (w : World) (hx : Ints w (Old w) (.slice a n c) W) :
    Calls Try.prog 47 #[.slice a n c, .func (.func 48) #[] #[]] w fun e w' => e = .returned (.bool (W.any bad1)) ∧ Below w.heap.size w w' := by
  go_enter Try.func47, Try.ntmps47
  go_wp2_with (first | (go_at_call 67; refine (indexf_any _ _ _ _ _ hx).mono ?_; rintro e w' ⟨⟨r, rfl, hr⟩, hB⟩; have HR := Lib.hid hr; clear hr))
  go_ret
  exact ⟨by rw [← HR.out]; rfl, hB⟩

/-- The order of two pairs. -/
def lt2 (x0 x1 y0 y1 : Int) : Bool := decide (x0 < y0) || (decide (x0 = y0) && decide (x1 < y1))

theorem lt2_a {x0 x1 y0 y1 : Int} (h : y0 < x0) : lt2 x0 x1 y0 y1 = false := by
  have h1 : ¬ x0 < y0 := by omega
  have h2 : ¬ x0 = y0 := by omega
  simp [lt2, h1, h2]
theorem lt2_b {x0 x1 y0 y1 : Int} (h0 : x0 = y0) (h : y1 < x1) : lt2 x0 x1 y0 y1 = false := by
  have h1 : ¬ x1 < y1 := by omega
  simp [lt2, h0, h1]
theorem lt2_c {x0 x1 y0 y1 : Int} (h0 : x0 = y0) (h : x1 < y1) : lt2 x0 x1 y0 y1 = true := by simp [lt2, h0, h]
theorem lt2_d {x0 x1 y0 y1 : Int} (h : x0 < y0) : lt2 x0 x1 y0 y1 = true := by simp [lt2, h]
theorem lt2_e {x0 x1 y0 y1 : Int} (h0 : x0 = y0) (h : x1 = y1) : lt2 x0 x1 y0 y1 = false := by simp [lt2, h0, h]
theorem cmp_cases (x y : Int) : (x < y ∧ Lib.compareInt x y = -1) ∨ (x = y ∧ Lib.compareInt x y = 0) ∨ (y < x ∧ Lib.compareInt x y = 1) := by
  unfold Lib.compareInt
  by_cases h1 : x < y
  · left; exact ⟨h1, by simp [h1]⟩
  · by_cases h2 : y < x
    · right; right; exact ⟨h2, by simp [h1, h2]⟩
    · right; left; exact ⟨by omega, by simp [h1, h2]⟩

set_option maxHeartbeats 1000000 in
set_option maxRecDepth 100000 in
theorem compare2_any (b1 o1 c1 b2 o2 c2 : Nat) (x0 x1 y0 y1 : Int) (w : World) (hx0 : w.cell? ⟨b1, o1, none⟩ = some (.int .i64 x0)) (hx1 : w.cell? ⟨b1, o1 + 1, none⟩ = some (.int .i64 x1)) (hy0 : w.cell? ⟨b2, o2, none⟩ = some (.int .i64 y0)) (hy1 : w.cell? ⟨b2, o2 + 1, none⟩ = some (.int .i64 y1)) :
    Calls Try.prog 49 #[.slice (some ⟨b1, o1, none⟩) 2 c1, .slice (some ⟨b2, o2, none⟩) 2 c2] w fun e w' => (∃ r : Int, e = .returned (.int .i64 r) ∧ -1 ≤ r ∧ r ≤ 1 ∧ decide (0 ≤ r) = !lt2 x0 x1 y0 y1) ∧ w' = w := by
  go_enter Try.func49, Try.ntmps49
  go_wp2
  go_loopw [11] (fun i wr => wr = w ∧ (i = .int .i64 0 ∨ (i = .int .i64 1 ∧ x0 = y0) ∨ (i = .int .i64 2 ∧ x0 = y0 ∧ x1 = y1))) (fun i _ => 2 - (intOf i).toNat)
  case atStart => exact ⟨rfl, .inl rfl⟩
  case round =>
    obtain ⟨rfl, rfl | ⟨rfl, h0⟩ | ⟨rfl, h0, h1⟩⟩ := hrel
    · rcases cmp_cases x0 y0 with ⟨h, hc⟩ | ⟨h, hc⟩ | ⟨h, hc⟩
      · have HC := Lib.hid hc
        replace h := Lib.hid h
        clear hc
        go_wp2_with (first | (go_at_call 68; refine (Try.cmp_Compare_int _ _ _).mono ?_; rintro e w' ⟨rfl, rfl⟩; rw [HC.out]))
        go_ret
        exact ⟨⟨_, rfl, by decide, by decide, by rw [lt2_d h.out]; rfl⟩, rfl⟩
      · have HC := Lib.hid hc
        replace h := Lib.hid h
        clear hc
        go_wp2_with (first | (go_at_call 68; refine (Try.cmp_Compare_int _ _ _).mono ?_; rintro e w' ⟨rfl, rfl⟩; rw [HC.out]))
        go_roundw
        case rel => exact ⟨trivial, .inr (.inl ⟨rfl, h.out⟩)⟩
        case measure => simp [intOf]
      · have HC := Lib.hid hc
        replace h := Lib.hid h
        clear hc
        go_wp2_with (first | (go_at_call 68; refine (Try.cmp_Compare_int _ _ _).mono ?_; rintro e w' ⟨rfl, rfl⟩; rw [HC.out]))
        go_ret
        exact ⟨⟨_, rfl, by decide, by decide, by rw [lt2_a h.out]; rfl⟩, rfl⟩
    · replace h0 := Lib.hid h0
      rcases cmp_cases x1 y1 with ⟨h, hc⟩ | ⟨h, hc⟩ | ⟨h, hc⟩
      · have HC := Lib.hid hc
        replace h := Lib.hid h
        clear hc
        go_wp2_with (first | (go_at_call 68; refine (Try.cmp_Compare_int _ _ _).mono ?_; rintro e w' ⟨rfl, rfl⟩; rw [HC.out]))
        go_ret
        exact ⟨⟨_, rfl, by decide, by decide, by rw [lt2_c h0.out h.out]; rfl⟩, rfl⟩
      · have HC := Lib.hid hc
        replace h := Lib.hid h
        clear hc
        go_wp2_with (first | (go_at_call 68; refine (Try.cmp_Compare_int _ _ _).mono ?_; rintro e w' ⟨rfl, rfl⟩; rw [HC.out]))
        go_roundw
        case rel => exact ⟨trivial, .inr (.inr ⟨rfl, h0.out, h.out⟩)⟩
        case measure => simp [intOf]
      · have HC := Lib.hid hc
        replace h := Lib.hid h
        clear hc
        go_wp2_with (first | (go_at_call 68; refine (Try.cmp_Compare_int _ _ _).mono ?_; rintro e w' ⟨rfl, rfl⟩; rw [HC.out]))
        go_ret
        exact ⟨⟨_, rfl, by decide, by decide, by rw [lt2_b h0.out h.out]; rfl⟩, rfl⟩
    · replace h0 := Lib.hid h0
      replace h1 := Lib.hid h1
      go_wp2
      go_ret
      exact ⟨⟨_, rfl, by decide, by decide, by rw [lt2_e h0.out h1.out]; rfl⟩, rfl⟩
end Go.Proofs.Ytdibpfbibgicaaa
