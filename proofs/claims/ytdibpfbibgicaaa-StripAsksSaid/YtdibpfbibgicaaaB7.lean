/- B7: meresmanref24.group and Valid. -/
import Derived.Test.YtdibpfbibgicaaaB6
set_option linter.unusedVariables false
set_option linter.unusedSimpArgs false
namespace Go.Proofs.Ytdibpfbibgicaaa
open Go.RowKit Go.Hp

set_option maxHeartbeats 1000000 in
set_option maxRecDepth 100000 in
theorem group_any (a : Option Addr) (n c : Nat) (z : Int) (of : List Nat) (w : World) (hx : Nats w (Old w) (.slice a n c) of) :
    Calls Try.prog 70 #[.slice a n c, .int .i64 z] w fun e w' => e = .returned (.bool (isG of z)) ∧ Below w.heap.size w w' := by
  have hn := hx.len
  subst hn
  have hS := Heap.start w
  by_cases h1 : 0 < z
  · have f1 : decide (0 < z) = true := by simpa using h1
    by_cases h2 : z < of.length
    · have f2 : decide (z < of.length) = true := by simpa using h2
      obtain ⟨m, rfl⟩ : ∃ m : Nat, z = m := ⟨z.toNat, by omega⟩
      have HG : Hid (isG of (m : Int) = (((nth 0 of m : Nat) : Int) == (m : Int))) := by unfold Hid isG; rw [f1, f2]; simp
      have hm : m < of.length := by omega
      have f3 : decide (m < of.length) = true := by simpa using hm
      have f4 : decide (0 < m) = true := by simp; omega
      clear h1
      go_enter Try.func70, Try.ntmps70
      go_wp2_with (first | ((with_reducible refine g_idx (T := 22) ?_); refine seq_any rfl (any_index_nat (T := 22) Try.underlying22 Try.sizeOf3 rfl rfl (by with_reducible assumption) (by omega) (by omega) (fun _ _ _ => ?_)); simp only [Act.put, List.setIfInBounds_toArray, List.set_cons_succ, List.set_cons_zero, Int.toNat_natCast, Int.toNat_zero, Int.toNat_one, nth_zero, nth_one]) | ((with_reducible refine g_load (T := 3) ?_); refine seq_of hS rfl (stp_load (T := 3) Try.isAgg3 rfl (by with_reducible assumption) (by simp) rfl ?_); simp only [Act.put, List.setIfInBounds_toArray, List.set_cons_succ, List.set_cons_zero, Int.toNat_natCast, Int.toNat_zero, Int.toNat_one, nth_zero, nth_one]))
      go_ret
      exact ⟨by rw [HG.out]; rfl, hS.toBelow (by simp)⟩
    · have f2 : decide (z < of.length) = false := by simpa using h2
      have HG : Hid (isG of z = false) := by unfold Hid isG; rw [f1, f2]; simp
      go_enter Try.func70, Try.ntmps70
      go_wp2_with (fail)
      go_ret
      exact ⟨by rw [HG.out]; rfl, hS.toBelow (by simp)⟩
  · have f1 : decide (0 < z) = false := by simpa using h1
    have HG : Hid (isG of z = false) := by unfold Hid isG; rw [f1]; simp
    go_enter Try.func70, Try.ntmps70
    go_wp2_with (fail)
    go_ret
    exact ⟨by rw [HG.out]; rfl, hS.toBelow (by simp)⟩

theorem okS_eq (of : List Nat) (s : IS) : okS of s = (isG of s.face && (isG of s.a && (isG of s.b && (decide (s.a < s.b) && ((s.face != s.a) && ((s.face != s.b) && ((s.into == s.a) || (s.into == s.b)))))))) := by
  unfold okS
  have h1 : (!decide (s.b ≤ s.a)) = decide (s.a < s.b) := by
    rw [Bool.eq_iff_iff]; simp
  rw [h1, Bool.not_and]
  simp only [bne, Bool.not_not]

set_option maxHeartbeats 4000000 in
set_option maxRecDepth 100000 in
theorem refvalidS_any (a : Option Addr) (n c : Nat) (f x y i : Int) (of : List Nat) (w : World) (hx : Nats w (Old w) (.slice a n c) of) :
    Calls Try.prog 53 #[.slice a n c, .agg #[.int .i64 f, .int .i64 x, .int .i64 y, .int .i64 i]] w fun e w' => e = .returned (.bool (okS of ⟨f, x, y, i⟩)) ∧ Below w.heap.size w w' := by
  have hS := Heap.start w
  have hok := okS_eq of ⟨f, x, y, i⟩
  simp only at hok
  obtain ⟨g1, hg1⟩ : ∃ g, isG of f = g := ⟨_, rfl⟩
  obtain ⟨g2, hg2⟩ : ∃ g, isG of x = g := ⟨_, rfl⟩
  obtain ⟨g3, hg3⟩ : ∃ g, isG of y = g := ⟨_, rfl⟩
  obtain ⟨v1, e1⟩ : ∃ v, decide (x < y) = v := ⟨_, rfl⟩
  obtain ⟨v2, e2⟩ : ∃ v, (f != x) = v := ⟨_, rfl⟩
  obtain ⟨v3, e3⟩ : ∃ v, (f != y) = v := ⟨_, rfl⟩
  obtain ⟨v4, e4⟩ : ∃ v, (i == x) = v := ⟨_, rfl⟩
  obtain ⟨v5, e5⟩ : ∃ v, (i == y) = v := ⟨_, rfl⟩
  rw [hg1, hg2, hg3, e1, e2, e3, e4, e5] at hok
  have HOK := Lib.hid hok
  have HG1 := Lib.hid hg1
  have HG2 := Lib.hid hg2
  have HG3 := Lib.hid hg3
  clear hok hg1 hg2 hg3
  rcases (show g1 = false ∨ (g1 = true ∧ g2 = false) ∨ (g1 = true ∧ g2 = true ∧ g3 = false) ∨ (g1 = true ∧ g2 = true ∧ g3 = true) by cases g1 <;> cases g2 <;> cases g3 <;> simp) with rfl | ⟨rfl, rfl⟩ | ⟨rfl, rfl, rfl⟩ | ⟨rfl, rfl, rfl⟩
  iterate 3
    · simp only [Bool.true_and, Bool.false_and] at HOK
      go_enter Try.func53, Try.ntmps53
      go_wp2_with (first | ((with_reducible refine g_box (T := 87) ?_); refine seq_box (T := 87) (v := .agg _) hS rfl (fun b wb hS => ?_); simp only [Act.put, List.setIfInBounds_toArray, List.set_cons_succ, List.set_cons_zero, Int.toNat_natCast, Int.toNat_zero, Int.toNat_one, nth_zero, nth_one]; simp only [List.cons_append, List.nil_append, List.set_cons_succ, List.set_cons_zero, Value.cells, iv_snoc, tv_snoc] at hS) | ((with_reducible refine g_load (T := 3) ?_); refine seq_of hS rfl (stp_load_blk (T := 3) 1 Try.isAgg3 rfl rfl rfl ?_); simp only [Act.put, List.setIfInBounds_toArray, List.set_cons_succ, List.set_cons_zero, Int.toNat_natCast, Int.toNat_zero, Int.toNat_one, nth_zero, nth_one]) | (go_at_call 70; refine (group_any _ _ _ _ of _ (hx.arg hS (by simp))).mono ?_; rintro e w' ⟨rfl, hB⟩; have hS := hS.below hB; first | rw [HG1.out] | rw [HG2.out] | rw [HG3.out]))
      go_ret
      exact ⟨by rw [HOK.out]; rfl, hS.toBelow (by simp)⟩
  · simp only [Bool.true_and] at HOK
    rcases (show v1 = false ∨ (v1 = true ∧ v2 = false) ∨ (v1 = true ∧ v2 = true ∧ v3 = false) ∨ (v1 = true ∧ v2 = true ∧ v3 = true ∧ v4 = true) ∨ (v1 = true ∧ v2 = true ∧ v3 = true ∧ v4 = false) by cases v1 <;> cases v2 <;> cases v3 <;> cases v4 <;> simp) with rfl | ⟨rfl, rfl⟩ | ⟨rfl, rfl, rfl⟩ | ⟨rfl, rfl, rfl, rfl⟩ | ⟨rfl, rfl, rfl, rfl⟩
    iterate 5
      · simp only [Bool.true_and, Bool.false_and, Bool.true_or, Bool.false_or] at HOK
        go_enter Try.func53, Try.ntmps53
        go_wp2_with (first | ((with_reducible refine g_box (T := 87) ?_); refine seq_box (T := 87) (v := .agg _) hS rfl (fun b wb hS => ?_); simp only [Act.put, List.setIfInBounds_toArray, List.set_cons_succ, List.set_cons_zero, Int.toNat_natCast, Int.toNat_zero, Int.toNat_one, nth_zero, nth_one]; simp only [List.cons_append, List.nil_append, List.set_cons_succ, List.set_cons_zero, Value.cells, iv_snoc, tv_snoc] at hS) | ((with_reducible refine g_load (T := 3) ?_); refine seq_of hS rfl (stp_load_blk (T := 3) 1 Try.isAgg3 rfl rfl rfl ?_); simp only [Act.put, List.setIfInBounds_toArray, List.set_cons_succ, List.set_cons_zero, Int.toNat_natCast, Int.toNat_zero, Int.toNat_one, nth_zero, nth_one]) | (go_at_call 70; refine (group_any _ _ _ _ of _ (hx.arg hS (by simp))).mono ?_; rintro e w' ⟨rfl, hB⟩; have hS := hS.below hB; first | rw [HG1.out] | rw [HG2.out] | rw [HG3.out]))
        go_ret
        exact ⟨by rw [HOK.out]; rfl, hS.toBelow (by simp)⟩
end Go.Proofs.Ytdibpfbibgicaaa
