/- A4: keys that are pairs of integers in an array. -/
import Derived.Test.YtdibpfbibgicaaaG1
import Derived.DeepKeys
set_option linter.unusedVariables false
set_option linter.unusedSimpArgs false
namespace Go.Proofs.Ytdibpfbibgicaaa
open Go.RowKit Go.Hp

theorem keyArr : KeyOk Try.prog 57 pk := by
  refine keyOk_agg Try.underlying57 (fun k => ⟨_, rfl⟩) (fun e k w => ?_) (fun k x w => ?_) (fun k => ?_)
  · have a3 := Try.isAgg3
    have z3 := Try.sizeOf3
    have hin : ∀ (n : Nat) (a : Int) (w : World), (Instr.checkKey e (n + 1) 3 (.int .i64 a)).run Try.prog w = .ok () w := fun n a w => MapKept.run_checkKey (k := .int .i64 a) Try.underlying3 (show IntKind.i64 = IntKind.i64 from rfl) e n
    rw [show (10000 : Nat) = 9998 + 1 + 1 from rfl, Instr.checkKey]
    simp only [pk]
    generalize 9998 = n
    simp [run_underlying Try.underlying57, part, a3, z3, hin]
    simp [List.range', a3, z3, hin]
  · have u3 := Try.underlying3
    have a3 := Try.isAgg3
    have z3 := Try.sizeOf3
    obtain ⟨i, hi, _⟩ := info_parts Try.info3
    have hc : Try.prog.cellsOf 3 = 1 := by kernel_rfl
    unfold Op.equal
    simp only [pk]
    rw [show Op.maxDepth = 9998 + 1 + 1 from rfl, run_equalIn_array w (9998 + 1) _ _ Try.underlying57 hi, hc]
    have hcell : ∀ (a b : Int), (Op.equalIn (9998 + 1) 3 (.int .i64 a) (.int .i64 b)).run Try.prog w = .ok (decide (a = b)) w := fun a b => by
      have := run_equalIn_int (P := Try.prog) w 9998 3 .i64 .i64 a b Try.underlying3
      rw [this]
      by_cases h : a = b <;> simp [h]
    generalize 9998 = n at hcell
    rw [show List.range 2 = [0, 1] from rfl]
    simp only [Op.eqItems]
    simp [part, a3, z3, hcell, hc]
    by_cases h1 : k.fst = x.fst <;> by_cases h2 : k.snd = x.snd <;> simp [h1, h2, Prod.ext_iff]
    all_goals first | omega | (intro _; omega)
  · rw [show (10000 : Nat) = 9999 + 1 from rfl]
    simp [pk, Instr.sameBits]

theorem equal_int (n : Nat) (a b : Int) (w : World) : (Op.equalIn (n + 1) 3 (.int .i64 a) (.int .i64 b)).run Try.prog w = .ok (decide (a = b)) w := by
  rw [run_equalIn_int (P := Try.prog) w n 3 .i64 .i64 a b Try.underlying3]
  by_cases h : a = b <;> simp [h]
theorem equal2 (a b c d : Int) (w : World) : (Op.equalIn 10000 57 (.agg #[.int .i64 a, .int .i64 b]) (.agg #[.int .i64 c, .int .i64 d])).run Try.prog w = .ok (decide (a = c) && decide (b = d)) w := by
  have a3 := Try.isAgg3
  have z3 := Try.sizeOf3
  obtain ⟨i, hi, _⟩ := info_parts Try.info3
  have hc : Try.prog.cellsOf 3 = 1 := by kernel_rfl
  rw [show 10000 = 9998 + 1 + 1 from rfl, run_equalIn_array w (9998 + 1) _ _ Try.underlying57 hi, hc]
  have hcell := fun a b => equal_int 9998 a b w
  generalize 9998 = n at hcell
  rw [show List.range 2 = [0, 1] from rfl]
  simp only [Op.eqItems]
  simp [part, a3, z3, hcell, hc]
  by_cases h1 : a = c <;> by_cases h2 : b = d <;> simp [h1, h2]
theorem equal3 (a b c x y z : Int) (w : World) : (Op.equalIn 10000 55 (.agg #[.int .i64 a, .int .i64 b, .int .i64 c]) (.agg #[.int .i64 x, .int .i64 y, .int .i64 z])).run Try.prog w = .ok (decide (a = x) && (decide (b = y) && decide (c = z))) w := by
  have a3 := Try.isAgg3
  have z3 := Try.sizeOf3
  obtain ⟨i, hi, _⟩ := info_parts Try.info3
  have hc : Try.prog.cellsOf 3 = 1 := by kernel_rfl
  rw [show 10000 = 9998 + 1 + 1 from rfl, run_equalIn_array w (9998 + 1) _ _ Try.underlying55 hi, hc]
  have hcell := fun a b => equal_int 9998 a b w
  generalize 9998 = n at hcell
  rw [show List.range 3 = [0, 1, 2] from rfl]
  simp only [Op.eqItems]
  simp [part, a3, z3, hcell, hc]
  by_cases h1 : a = x <;> by_cases h2 : b = y <;> by_cases h3 : c = z <;> simp [h1, h2, h3]
end Go.Proofs.Ytdibpfbibgicaaa
