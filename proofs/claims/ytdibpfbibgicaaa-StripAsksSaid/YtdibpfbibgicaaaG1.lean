import Derived.Test.YtdibpfbibgicaaaF2
import Derived.Test.YtdibpfbibgicaaaSort1
namespace Go.Proofs.Ytdibpfbibgicaaa
open Go.RowKit Go.Hp
set_option linter.unusedVariables false
set_option linter.unusedSimpArgs false

/-- A pair of groups as a key. -/
def pk (p : Nat × Nat) : Value := .agg #[.int .i64 p.1, .int .i64 p.2]
theorem pk_inj (x y : Nat × Nat) (h : pk x = pk y) : x = y := by
  simp only [pk, Value.agg.injEq] at h
  have h1 := congrArg (fun a => a[0]?) h
  have h2 := congrArg (fun a => a[1]?) h
  simp at h1 h2
  exact Prod.ext (by omega) (by omega)
theorem keyPair : KeyOk Try.prog 107 pk := by
  refine keyOk_agg Try.underlying107 (fun k => ⟨_, rfl⟩) (fun e k w => ?_) (fun k x w => ?_) (fun k => ?_)
  · have a3 := Try.isAgg3
    have hin : ∀ (n : Nat) (a : Int) (w : World), (Instr.checkKey e (n + 1) 3 (.int .i64 a)).run Try.prog w = .ok () w := fun n a w => MapKept.run_checkKey (k := .int .i64 a) Try.underlying3 (show IntKind.i64 = IntKind.i64 from rfl) e n
    rw [show (10000 : Nat) = 9998 + 1 + 1 from rfl, Instr.checkKey]
    simp only [pk]
    generalize 9998 = n
    simp [run_underlying Try.underlying107, part, a3, hin]
  · have u3 := Try.underlying3
    have a3 := Try.isAgg3
    have z3 := Try.sizeOf3
    have hS : Try.prog.underlying 107 = some (.struct (Try.prog.fieldsOf 107)) := by kernel_rfl
    have hp : Try.prog.stoodInHeld 107 = false := by kernel_rfl
    unfold Op.equal
    simp only [pk]
    rw [show Op.maxDepth = 9999 + 1 from rfl, run_equalIn_agg w 9999 107 _ _ hS hp]
    simp only [Program.fieldsOf, Try.underlying107]
    go_simp
    by_cases h1 : k.fst = x.fst <;> by_cases h2 : k.snd = x.snd <;> simp [h1, h2, Prod.ext_iff]
    all_goals omega
  · rw [show (10000 : Nat) = 9999 + 1 from rfl]
    simp [pk, Instr.sameBits]
theorem keyInt : KeyOk Try.prog 3 ik := keyOk_int Try.underlying3
end Go.Proofs.Ytdibpfbibgicaaa
