/-
  No cell of these rows narrows 'for every input' (looked for: loops, veiled, ifaces, maps, wideKeys, modest, calm, conditions, laid).
  DERIVED. THE GIVEN ROWS OF THIS SEAT. 7 by the template 'for every input the law returns true; each argument reads behind the call as it read before'; 0 by the template 'total and deterministic' (their statements: YtjeofihncbegfaaGreatTotals.lean).
  GIVEN WITH THE SEED: the statements are not yours to turn. If you find one false, say at which input.
  Laid BY PROGRAM, IN A SANDBOX (cutbox-rows.mjs): the forced cells as the released guide's own fill.sh prints them over the translation cae421f2c0ceb85a… (all of the seat's roots in one cut). By AI agents, Wed Nov 11 2026. No macro, syntax, notation, axiom, sorry.
-/
import Derived.Test.YtjeofihncbegfaaGreatChecked
import GoSem.Claim
import GoSem.ClaimJoined
import GoSem.ClaimMapViews
import Derived.JoinedTies
import Derived.KernelRfl
namespace Go.Proofs.YtjeofihncbegfaaGreat
/- THE CELL 'sum', in the pinned program and in every row, IS THE sha256 OF THE DUMP (.gsa) THAT YtjeofihncbegfaaGreatProg.lean LOADS. Nothing in Lean hashes anything: it is a label: what it is worth is what the hold of that sum in a sandbox is worth. -/
noncomputable def Tryz.pinned : Pinned := { name := "ytjeofihncbegfaagreat", sum := "cae421f2c0ceb85af68bdcf7d8c6744043268e3623dcc2e160af94fb74f1d598", checked := Tryz.checked }
namespace Rows
def none {H : Type} : Left H := { results := [], args := [] }

/-- 'meresmanlaw09.FacesRuns': WHATEVER THE INPUT: true; the input reads as it did. -/
def facesRunsSpec : ChangeSpec := { name := "facesRuns", fn := fun _ => fun
  | [d1, d2, d3] => { results := [.lit (.bool true)], args := [d1, d2, d3] }
  | _ => none }
def facesRunsRow : OpenClaim := { program := "ytjeofihncbegfaagreat", sum := "cae421f2c0ceb85af68bdcf7d8c6744043268e3623dcc2e160af94fb74f1d598", func := "meresman/meresmanlaw09.FacesRuns", spec := "facesRuns", inPlace := ["slices.overlaps[meresman/point.P]"], unfollowed := true, recurses := true, plainKeys := false, apart := false }
def FacesRunsSaid : Prop := facesRunsRow.holds Tryz.pinned (OpenSpec.ofChange facesRunsSpec)

/-- ITS FALSE NEIGHBOUR: 'it returns false'. Refute it at one input. -/
def facesRunsWrong : ChangeSpec := { name := "facesRuns", fn := fun _ => fun
  | [d1, d2, d3] => { results := [.lit (.bool false)], args := [d1, d2, d3] }
  | _ => none }
def FacesRunsWrongFalsely : Prop := facesRunsRow.holds Tryz.pinned (OpenSpec.ofChange facesRunsWrong)

/-- 'meresmanlaw09.FacesEuler': WHATEVER THE INPUT: true; the input reads as it did. -/
def facesEulerSpec : ChangeSpec := { name := "facesEuler", fn := fun _ => fun
  | [d1, d2, d3] => { results := [.lit (.bool true)], args := [d1, d2, d3] }
  | _ => none }
def facesEulerRow : OpenClaim := { program := "ytjeofihncbegfaagreat", sum := "cae421f2c0ceb85af68bdcf7d8c6744043268e3623dcc2e160af94fb74f1d598", func := "meresman/meresmanlaw09.FacesEuler", spec := "facesEuler", inPlace := ["slices.overlaps[meresman/point.P]"], unfollowed := true, recurses := true, plainKeys := false, apart := false }
def FacesEulerSaid : Prop := facesEulerRow.holds Tryz.pinned (OpenSpec.ofChange facesEulerSpec)

/-- ITS FALSE NEIGHBOUR: 'it returns false'. Refute it at one input. -/
def facesEulerWrong : ChangeSpec := { name := "facesEuler", fn := fun _ => fun
  | [d1, d2, d3] => { results := [.lit (.bool false)], args := [d1, d2, d3] }
  | _ => none }
def FacesEulerWrongFalsely : Prop := facesEulerRow.holds Tryz.pinned (OpenSpec.ofChange facesEulerWrong)

/-- 'meresmanlaw09.FacesMutual': WHATEVER THE INPUT: true; the input reads as it did. -/
def facesMutualSpec : ChangeSpec := { name := "facesMutual", fn := fun _ => fun
  | [d1, d2, d3] => { results := [.lit (.bool true)], args := [d1, d2, d3] }
  | _ => none }
def facesMutualRow : OpenClaim := { program := "ytjeofihncbegfaagreat", sum := "cae421f2c0ceb85af68bdcf7d8c6744043268e3623dcc2e160af94fb74f1d598", func := "meresman/meresmanlaw09.FacesMutual", spec := "facesMutual", inPlace := ["slices.overlaps[meresman/point.P]"], unfollowed := true, recurses := true, plainKeys := false, apart := false }
def FacesMutualSaid : Prop := facesMutualRow.holds Tryz.pinned (OpenSpec.ofChange facesMutualSpec)

/-- ITS FALSE NEIGHBOUR: 'it returns false'. Refute it at one input. -/
def facesMutualWrong : ChangeSpec := { name := "facesMutual", fn := fun _ => fun
  | [d1, d2, d3] => { results := [.lit (.bool false)], args := [d1, d2, d3] }
  | _ => none }
def FacesMutualWrongFalsely : Prop := facesMutualRow.holds Tryz.pinned (OpenSpec.ofChange facesMutualWrong)

/-- 'meresmanlaw09.FacesCycles': WHATEVER THE INPUT: true; the input reads as it did. -/
def facesCyclesSpec : ChangeSpec := { name := "facesCycles", fn := fun _ => fun
  | [d1, d2, d3] => { results := [.lit (.bool true)], args := [d1, d2, d3] }
  | _ => none }
def facesCyclesRow : OpenClaim := { program := "ytjeofihncbegfaagreat", sum := "cae421f2c0ceb85af68bdcf7d8c6744043268e3623dcc2e160af94fb74f1d598", func := "meresman/meresmanlaw09.FacesCycles", spec := "facesCycles", inPlace := ["slices.overlaps[meresman/point.P]"], unfollowed := true, recurses := true, plainKeys := false, apart := false }
def FacesCyclesSaid : Prop := facesCyclesRow.holds Tryz.pinned (OpenSpec.ofChange facesCyclesSpec)

/-- ITS FALSE NEIGHBOUR: 'it returns false'. Refute it at one input. -/
def facesCyclesWrong : ChangeSpec := { name := "facesCycles", fn := fun _ => fun
  | [d1, d2, d3] => { results := [.lit (.bool false)], args := [d1, d2, d3] }
  | _ => none }
def FacesCyclesWrongFalsely : Prop := facesCyclesRow.holds Tryz.pinned (OpenSpec.ofChange facesCyclesWrong)

/-- 'meresmanlaw09.FacesAreas': WHATEVER THE INPUT: true; the input reads as it did. -/
def facesAreasSpec : ChangeSpec := { name := "facesAreas", fn := fun _ => fun
  | [d1, d2, d3] => { results := [.lit (.bool true)], args := [d1, d2, d3] }
  | _ => none }
def facesAreasRow : OpenClaim := { program := "ytjeofihncbegfaagreat", sum := "cae421f2c0ceb85af68bdcf7d8c6744043268e3623dcc2e160af94fb74f1d598", func := "meresman/meresmanlaw09.FacesAreas", spec := "facesAreas", inPlace := ["slices.overlaps[meresman/point.P]"], unfollowed := true, recurses := true, plainKeys := false, apart := false }
def FacesAreasSaid : Prop := facesAreasRow.holds Tryz.pinned (OpenSpec.ofChange facesAreasSpec)

/-- ITS FALSE NEIGHBOUR: 'it returns false'. Refute it at one input. -/
def facesAreasWrong : ChangeSpec := { name := "facesAreas", fn := fun _ => fun
  | [d1, d2, d3] => { results := [.lit (.bool false)], args := [d1, d2, d3] }
  | _ => none }
def FacesAreasWrongFalsely : Prop := facesAreasRow.holds Tryz.pinned (OpenSpec.ofChange facesAreasWrong)

/-- 'meresmanlaw09.FacesScaled': WHATEVER THE INPUT: true; the input reads as it did. -/
def facesScaledSpec : ChangeSpec := { name := "facesScaled", fn := fun _ => fun
  | [d1, d2, d3, d4, d5, d6] => { results := [.lit (.bool true)], args := [d1, d2, d3, d4, d5, d6] }
  | _ => none }
def facesScaledRow : OpenClaim := { program := "ytjeofihncbegfaagreat", sum := "cae421f2c0ceb85af68bdcf7d8c6744043268e3623dcc2e160af94fb74f1d598", func := "meresman/meresmanlaw09.FacesScaled", spec := "facesScaled", inPlace := ["slices.overlaps[meresman/point.P]"], unfollowed := true, recurses := true, plainKeys := false, apart := false }
def FacesScaledSaid : Prop := facesScaledRow.holds Tryz.pinned (OpenSpec.ofChange facesScaledSpec)

/-- ITS FALSE NEIGHBOUR: 'it returns false'. Refute it at one input. -/
def facesScaledWrong : ChangeSpec := { name := "facesScaled", fn := fun _ => fun
  | [d1, d2, d3, d4, d5, d6] => { results := [.lit (.bool false)], args := [d1, d2, d3, d4, d5, d6] }
  | _ => none }
def FacesScaledWrongFalsely : Prop := facesScaledRow.holds Tryz.pinned (OpenSpec.ofChange facesScaledWrong)

/-- 'meresmanlaw09.FacesAsks': WHATEVER THE INPUT: true; the input reads as it did. -/
def facesAsksSpec : ChangeSpec := { name := "facesAsks", fn := fun _ => fun
  | [d1, d2, d3, d4, d5] => { results := [.lit (.bool true)], args := [d1, d2, d3, d4, d5] }
  | _ => none }
def facesAsksRow : OpenClaim := { program := "ytjeofihncbegfaagreat", sum := "cae421f2c0ceb85af68bdcf7d8c6744043268e3623dcc2e160af94fb74f1d598", func := "meresman/meresmanlaw09.FacesAsks", spec := "facesAsks", inPlace := ["slices.overlaps[meresman/point.P]"], unfollowed := true, recurses := true, plainKeys := false, apart := false }
def FacesAsksSaid : Prop := facesAsksRow.holds Tryz.pinned (OpenSpec.ofChange facesAsksSpec)

/-- ITS FALSE NEIGHBOUR: 'it returns false'. Refute it at one input. -/
def facesAsksWrong : ChangeSpec := { name := "facesAsks", fn := fun _ => fun
  | [d1, d2, d3, d4, d5] => { results := [.lit (.bool false)], args := [d1, d2, d3, d4, d5] }
  | _ => none }
def FacesAsksWrongFalsely : Prop := facesAsksRow.holds Tryz.pinned (OpenSpec.ofChange facesAsksWrong)

/- THE SECOND FORM. 'bulk': how many values and letters a reading holds, each counted each time it is reached (what is shared counts as often as it is met; a slice's spare places count too). A statement '..UptoSaid' is the law's where the arguments, and the package variables that the reading takes, are together of bulk at most 1048576: NARROWER than '..Said'. Prove '..Said' where nothing that the law and all that it calls make is longer than what came in: it says more and counts as full. Else prove '..UptoSaid'. A law counts once. -/
mutual
def uptoBulk {H : Type} : DataW H → Nat
  | .lit (.string bytes) => bytes.length + 1
  | .lit _ => 1
  | .nil => 1
  | .ptr d => uptoBulk d + 1
  | .slice elems spare => uptoBulkAll elems + uptoBulkAll spare + 1
  | .agg parts => uptoBulkAll parts + 1
  | .iface _ d => uptoBulk d + 1
  | .map entries => uptoBulkEntries entries + 1
  | .held _ => 1
def uptoBulkAll {H : Type} : List (DataW H) → Nat
  | [] => 0
  | d :: r => uptoBulk d + uptoBulkAll r
def uptoBulkEntries {H : Type} : List (Lit × DataW H) → Nat
  | [] => 0
  | x :: r => uptoBulkEntry x + uptoBulkEntries r
def uptoBulkEntry {H : Type} : Lit × DataW H → Nat
  | (.string bytes, d) => bytes.length + uptoBulk d + 1
  | (_, d) => uptoBulk d + 1
 end
def uptoSmall : (H : Type) → List (DataW H) → Bool := fun _ ds => decide (uptoBulkAll ds ≤ 1048576)
def OpenSpec.upto (s : _root_.Go.ChangeSpec) : _root_.Go.OpenSpec := { _root_.Go.OpenSpec.ofChange s with cond := some uptoSmall }

/-- 'meresmanlaw09.FacesRuns', WHERE WHAT IT READS IS OF BULK AT MOST 1048576: true; the input reads as it did. -/
def facesRunsUptoRow : OpenClaim := { program := "ytjeofihncbegfaagreat", sum := "cae421f2c0ceb85af68bdcf7d8c6744043268e3623dcc2e160af94fb74f1d598", func := "meresman/meresmanlaw09.FacesRuns", spec := "facesRuns", inPlace := ["slices.overlaps[meresman/point.P]"], unfollowed := true, recurses := true, plainKeys := false, apart := false, narrowed := true }
def FacesRunsUptoSaid : Prop := facesRunsUptoRow.holds Tryz.pinned (OpenSpec.upto facesRunsSpec)

/-- 'meresmanlaw09.FacesEuler', WHERE WHAT IT READS IS OF BULK AT MOST 1048576: true; the input reads as it did. -/
def facesEulerUptoRow : OpenClaim := { program := "ytjeofihncbegfaagreat", sum := "cae421f2c0ceb85af68bdcf7d8c6744043268e3623dcc2e160af94fb74f1d598", func := "meresman/meresmanlaw09.FacesEuler", spec := "facesEuler", inPlace := ["slices.overlaps[meresman/point.P]"], unfollowed := true, recurses := true, plainKeys := false, apart := false, narrowed := true }
def FacesEulerUptoSaid : Prop := facesEulerUptoRow.holds Tryz.pinned (OpenSpec.upto facesEulerSpec)

/-- 'meresmanlaw09.FacesMutual', WHERE WHAT IT READS IS OF BULK AT MOST 1048576: true; the input reads as it did. -/
def facesMutualUptoRow : OpenClaim := { program := "ytjeofihncbegfaagreat", sum := "cae421f2c0ceb85af68bdcf7d8c6744043268e3623dcc2e160af94fb74f1d598", func := "meresman/meresmanlaw09.FacesMutual", spec := "facesMutual", inPlace := ["slices.overlaps[meresman/point.P]"], unfollowed := true, recurses := true, plainKeys := false, apart := false, narrowed := true }
def FacesMutualUptoSaid : Prop := facesMutualUptoRow.holds Tryz.pinned (OpenSpec.upto facesMutualSpec)

/-- 'meresmanlaw09.FacesCycles', WHERE WHAT IT READS IS OF BULK AT MOST 1048576: true; the input reads as it did. -/
def facesCyclesUptoRow : OpenClaim := { program := "ytjeofihncbegfaagreat", sum := "cae421f2c0ceb85af68bdcf7d8c6744043268e3623dcc2e160af94fb74f1d598", func := "meresman/meresmanlaw09.FacesCycles", spec := "facesCycles", inPlace := ["slices.overlaps[meresman/point.P]"], unfollowed := true, recurses := true, plainKeys := false, apart := false, narrowed := true }
def FacesCyclesUptoSaid : Prop := facesCyclesUptoRow.holds Tryz.pinned (OpenSpec.upto facesCyclesSpec)

/-- 'meresmanlaw09.FacesAreas', WHERE WHAT IT READS IS OF BULK AT MOST 1048576: true; the input reads as it did. -/
def facesAreasUptoRow : OpenClaim := { program := "ytjeofihncbegfaagreat", sum := "cae421f2c0ceb85af68bdcf7d8c6744043268e3623dcc2e160af94fb74f1d598", func := "meresman/meresmanlaw09.FacesAreas", spec := "facesAreas", inPlace := ["slices.overlaps[meresman/point.P]"], unfollowed := true, recurses := true, plainKeys := false, apart := false, narrowed := true }
def FacesAreasUptoSaid : Prop := facesAreasUptoRow.holds Tryz.pinned (OpenSpec.upto facesAreasSpec)

/-- 'meresmanlaw09.FacesScaled', WHERE WHAT IT READS IS OF BULK AT MOST 1048576: true; the input reads as it did. -/
def facesScaledUptoRow : OpenClaim := { program := "ytjeofihncbegfaagreat", sum := "cae421f2c0ceb85af68bdcf7d8c6744043268e3623dcc2e160af94fb74f1d598", func := "meresman/meresmanlaw09.FacesScaled", spec := "facesScaled", inPlace := ["slices.overlaps[meresman/point.P]"], unfollowed := true, recurses := true, plainKeys := false, apart := false, narrowed := true }
def FacesScaledUptoSaid : Prop := facesScaledUptoRow.holds Tryz.pinned (OpenSpec.upto facesScaledSpec)

/-- 'meresmanlaw09.FacesAsks', WHERE WHAT IT READS IS OF BULK AT MOST 1048576: true; the input reads as it did. -/
def facesAsksUptoRow : OpenClaim := { program := "ytjeofihncbegfaagreat", sum := "cae421f2c0ceb85af68bdcf7d8c6744043268e3623dcc2e160af94fb74f1d598", func := "meresman/meresmanlaw09.FacesAsks", spec := "facesAsks", inPlace := ["slices.overlaps[meresman/point.P]"], unfollowed := true, recurses := true, plainKeys := false, apart := false, narrowed := true }
def FacesAsksUptoSaid : Prop := facesAsksUptoRow.holds Tryz.pinned (OpenSpec.upto facesAsksSpec)

end Rows
end Go.Proofs.YtjeofihncbegfaaGreat
