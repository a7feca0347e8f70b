/- A2: slices.Compare at triples; the closure of rank.At; slices.SortFunc at triples. -/
import Derived.Test.YtdibpfbibgicaaaV2
import Derived.Test.YtdibpfbibgicaaaP12
import Derived.Test.YtdibpfbibgicaaaSort1
import Derived.Shelf.SlSortCmp.NoneTotal
import Derived.Shelf.Lay
set_option linter.unusedVariables false
set_option linter.unusedSimpArgs false
namespace Go.Proofs.Ytdibpfbibgicaaa
open Go.RowKit Go.Hp

/-- The order of two triples, as slices.Compare tells it. -/
def c3 (x y : Tri) : Int := if x.1 < y.1 then -1 else if y.1 < x.1 then 1 else if x.2.1 < y.2.1 then -1 else if y.2.1 < x.2.1 then 1 else if x.2.2 < y.2.2 then -1 else if y.2.2 < x.2.2 then 1 else 0
theorem c3_lt (x y : Tri) : c3 x y < 0 ↔ lt3 x y := by
  unfold c3 lt3
  by_cases h1 : x.1 < y.1
  · rw [if_pos h1]; omega
  · rw [if_neg h1]
    by_cases h2 : y.1 < x.1
    · rw [if_pos h2]; omega
    · rw [if_neg h2]
      by_cases h3 : x.2.1 < y.2.1
      · rw [if_pos h3]; omega
      · rw [if_neg h3]
        by_cases h4 : y.2.1 < x.2.1
        · rw [if_pos h4]; omega
        · rw [if_neg h4]
          by_cases h5 : x.2.2 < y.2.2
          · rw [if_pos h5]; omega
          · rw [if_neg h5]
            by_cases h6 : y.2.2 < x.2.2
            · rw [if_pos h6]; omega
            · rw [if_neg h6]; omega

set_option maxHeartbeats 2000000 in
set_option maxRecDepth 100000 in
theorem compare3_any (b1 c1 b2 c2 : Nat) (x y : Tri) (w : World) (hx0 : w.cell? ⟨b1, 0, none⟩ = some (.int .i64 x.1)) (hx1 : w.cell? ⟨b1, 1, none⟩ = some (.int .i64 x.2.1)) (hx2 : w.cell? ⟨b1, 2, none⟩ = some (.int .i64 x.2.2)) (hy0 : w.cell? ⟨b2, 0, none⟩ = some (.int .i64 y.1)) (hy1 : w.cell? ⟨b2, 1, none⟩ = some (.int .i64 y.2.1)) (hy2 : w.cell? ⟨b2, 2, none⟩ = some (.int .i64 y.2.2)) :
    Calls Try.prog 49 #[.slice (some ⟨b1, 0, none⟩) 3 c1, .slice (some ⟨b2, 0, none⟩) 3 c2] w fun e w' => e = .returned (.int .i64 (c3 x y)) ∧ w' = w := by
  obtain ⟨x0, x1, x2⟩ := x
  obtain ⟨y0, y1, y2⟩ := y
  simp only at hx0 hx1 hx2 hy0 hy1 hy2
  have hr : ∀ r : Int, (Hid (c3 (x0, x1, x2) (y0, y1, y2) = r)) → Ending.returned (.int .i64 r) = Ending.returned (.int .i64 (c3 (x0, x1, x2) (y0, y1, y2))) := fun r h => by rw [h.out]
  go_enter Try.func49, Try.ntmps49
  go_wp2
  go_loopw [11] (fun i wr => wr = w ∧ (i = .int .i64 0 ∨ (i = .int .i64 1 ∧ x0 = y0) ∨ (i = .int .i64 2 ∧ x0 = y0 ∧ x1 = y1) ∨ (i = .int .i64 3 ∧ x0 = y0 ∧ x1 = y1 ∧ x2 = y2))) (fun i _ => 3 - (intOf i).toNat)
  case atStart => exact ⟨rfl, .inl rfl⟩
  case round =>
    obtain ⟨rfl, rfl | ⟨rfl, h0⟩ | ⟨rfl, h0, h1⟩ | ⟨rfl, h0, h1, h2⟩⟩ := hrel
    · rcases cmp_cases x0 y0 with ⟨h, hc⟩ | ⟨h, hc⟩ | ⟨h, hc⟩
      · have HC := Lib.hid hc
        replace h := Lib.hid h
        clear hc
        go_wp2_with (first | (go_at_call 68; refine (Try.cmp_Compare_int _ _ _).mono ?_; rintro e w' ⟨rfl, rfl⟩; rw [HC.out]))
        go_ret
        exact ⟨hr _ (by have := h.out; unfold Hid c3; simp only; repeat (first | rw [if_pos (by omega)] | rw [if_neg (by omega)])), rfl⟩
      · have HC := Lib.hid hc
        replace h := Lib.hid h
        clear hc
        go_wp2_with (first | (go_at_call 68; refine (Try.cmp_Compare_int _ _ _).mono ?_; rintro e w' ⟨rfl, rfl⟩; rw [HC.out]))
        go_roundw
        case rel => exact ⟨trivial, .inr (.inl ⟨rfl, h.out⟩)⟩
        case measure => simp [intOf]
      · have HC := Lib.hid hc
        replace h := Lib.hid h
        clear hc
        go_wp2_with (first | (go_at_call 68; refine (Try.cmp_Compare_int _ _ _).mono ?_; rintro e w' ⟨rfl, rfl⟩; rw [HC.out]))
        go_ret
        exact ⟨hr _ (by have := h.out; unfold Hid c3; simp only; repeat (first | rw [if_pos (by omega)] | rw [if_neg (by omega)])), rfl⟩
    · replace h0 := Lib.hid h0
      rcases cmp_cases x1 y1 with ⟨h, hc⟩ | ⟨h, hc⟩ | ⟨h, hc⟩
      · have HC := Lib.hid hc
        replace h := Lib.hid h
        clear hc
        go_wp2_with (first | (go_at_call 68; refine (Try.cmp_Compare_int _ _ _).mono ?_; rintro e w' ⟨rfl, rfl⟩; rw [HC.out]))
        go_ret
        exact ⟨hr _ (by have := h0.out; have := h.out; unfold Hid c3; simp only; repeat (first | rw [if_pos (by omega)] | rw [if_neg (by omega)])), rfl⟩
      · have HC := Lib.hid hc
        replace h := Lib.hid h
        clear hc
        go_wp2_with (first | (go_at_call 68; refine (Try.cmp_Compare_int _ _ _).mono ?_; rintro e w' ⟨rfl, rfl⟩; rw [HC.out]))
        go_roundw
        case rel => exact ⟨trivial, .inr (.inr (.inl ⟨rfl, h0.out, h.out⟩))⟩
        case measure => simp [intOf]
      · have HC := Lib.hid hc
        replace h := Lib.hid h
        clear hc
        go_wp2_with (first | (go_at_call 68; refine (Try.cmp_Compare_int _ _ _).mono ?_; rintro e w' ⟨rfl, rfl⟩; rw [HC.out]))
        go_ret
        exact ⟨hr _ (by have := h0.out; have := h.out; unfold Hid c3; simp only; repeat (first | rw [if_pos (by omega)] | rw [if_neg (by omega)])), rfl⟩
    · replace h0 := Lib.hid h0
      replace h1 := Lib.hid h1
      rcases cmp_cases x2 y2 with ⟨h, hc⟩ | ⟨h, hc⟩ | ⟨h, hc⟩
      · have HC := Lib.hid hc
        replace h := Lib.hid h
        clear hc
        go_wp2_with (first | (go_at_call 68; refine (Try.cmp_Compare_int _ _ _).mono ?_; rintro e w' ⟨rfl, rfl⟩; rw [HC.out]))
        go_ret
        exact ⟨hr _ (by have := h0.out; have := h1.out; have := h.out; unfold Hid c3; simp only; repeat (first | rw [if_pos (by omega)] | rw [if_neg (by omega)])), rfl⟩
      · have HC := Lib.hid hc
        replace h := Lib.hid h
        clear hc
        go_wp2_with (first | (go_at_call 68; refine (Try.cmp_Compare_int _ _ _).mono ?_; rintro e w' ⟨rfl, rfl⟩; rw [HC.out]))
        go_roundw
        case rel => exact ⟨trivial, .inr (.inr (.inr (⟨rfl, h0.out, h1.out, h.out⟩)))⟩
        case measure => simp [intOf]
      · have HC := Lib.hid hc
        replace h := Lib.hid h
        clear hc
        go_wp2_with (first | (go_at_call 68; refine (Try.cmp_Compare_int _ _ _).mono ?_; rintro e w' ⟨rfl, rfl⟩; rw [HC.out]))
        go_ret
        exact ⟨hr _ (by have := h0.out; have := h1.out; have := h.out; unfold Hid c3; simp only; repeat (first | rw [if_pos (by omega)] | rw [if_neg (by omega)])), rfl⟩
    · replace h0 := Lib.hid h0
      replace h1 := Lib.hid h1
      replace h2 := Lib.hid h2
      go_wp2
      go_ret
      exact ⟨hr _ (by have := h0.out; have := h1.out; have := h2.out; unfold Hid c3; simp only; repeat (first | rw [if_pos (by omega)] | rw [if_neg (by omega)])), rfl⟩
end Go.Proofs.Ytdibpfbibgicaaa
