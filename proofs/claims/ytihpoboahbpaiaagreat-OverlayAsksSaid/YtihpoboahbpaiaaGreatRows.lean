/-
  No cell of these rows narrows 'for every input' (looked for: loops, veiled, ifaces, maps, wideKeys, modest, calm, conditions, laid).
  DERIVED. THE GIVEN ROWS OF THIS SEAT. 4 by the template 'for every input the law returns true; each argument reads behind the call as it read before'; 0 by the template 'total and deterministic' (their statements: YtihpoboahbpaiaaGreatTotals.lean).
  GIVEN WITH THE SEED: the statements are not yours to turn. If you find one false, say at which input.
  Laid BY PROGRAM, IN A SANDBOX (cutbox-rows.mjs): the forced cells as the released guide's own fill.sh prints them over the translation ca2f93e8a7259668… (all of the seat's roots in one cut). By AI agents, Wed Nov 11 2026. No macro, syntax, notation, axiom, sorry.
-/
import Derived.Test.YtihpoboahbpaiaaGreatChecked
import GoSem.Claim
import GoSem.ClaimJoined
import GoSem.ClaimMapViews
import Derived.JoinedTies
import Derived.KernelRfl
namespace Go.Proofs.YtihpoboahbpaiaaGreat
/- THE CELL 'sum', in the pinned program and in every row, IS THE sha256 OF THE DUMP (.gsa) THAT YtihpoboahbpaiaaGreatProg.lean LOADS. Nothing in Lean hashes anything: it is a label: what it is worth is what the hold of that sum in a sandbox is worth. -/
noncomputable def Tryz.pinned : Pinned := { name := "ytihpoboahbpaiaagreat", sum := "ca2f93e8a725966849c0d3531f3d989a36949191693a5bf820dea084136bbdc6", checked := Tryz.checked }
namespace Rows
def none {H : Type} : Left H := { results := [], args := [] }

/-- 'meresmanlaw10.LocateScaled': WHATEVER THE INPUT: true; the input reads as it did. -/
def locateScaledSpec : ChangeSpec := { name := "locateScaled", fn := fun _ => fun
  | [d1, d2, d3, d4, d5, d6, d7] => { results := [.lit (.bool true)], args := [d1, d2, d3, d4, d5, d6, d7] }
  | _ => none }
def locateScaledRow : OpenClaim := { program := "ytihpoboahbpaiaagreat", sum := "ca2f93e8a725966849c0d3531f3d989a36949191693a5bf820dea084136bbdc6", func := "meresman/meresmanlaw10.LocateScaled", spec := "locateScaled", inPlace := ["slices.overlaps[meresman/point.P]"], unfollowed := true, recurses := true, plainKeys := false, apart := false }
def LocateScaledSaid : Prop := locateScaledRow.holds Tryz.pinned (OpenSpec.ofChange locateScaledSpec)

/-- ITS FALSE NEIGHBOUR: 'it returns false'. Refute it at one input. -/
def locateScaledWrong : ChangeSpec := { name := "locateScaled", fn := fun _ => fun
  | [d1, d2, d3, d4, d5, d6, d7] => { results := [.lit (.bool false)], args := [d1, d2, d3, d4, d5, d6, d7] }
  | _ => none }
def LocateScaledWrongFalsely : Prop := locateScaledRow.holds Tryz.pinned (OpenSpec.ofChange locateScaledWrong)

/-- 'meresmanlaw11.OverlayScaled': WHATEVER THE INPUT: true; the input reads as it did. -/
def overlayScaledSpec : ChangeSpec := { name := "overlayScaled", fn := fun _ => fun
  | [d1, d2, d3, d4, d5] => { results := [.lit (.bool true)], args := [d1, d2, d3, d4, d5] }
  | _ => none }
def overlayScaledRow : OpenClaim := { program := "ytihpoboahbpaiaagreat", sum := "ca2f93e8a725966849c0d3531f3d989a36949191693a5bf820dea084136bbdc6", func := "meresman/meresmanlaw11.OverlayScaled", spec := "overlayScaled", inPlace := ["slices.overlaps[meresman/point.P]"], unfollowed := true, recurses := true, plainKeys := false, apart := false }
def OverlayScaledSaid : Prop := overlayScaledRow.holds Tryz.pinned (OpenSpec.ofChange overlayScaledSpec)

/-- ITS FALSE NEIGHBOUR: 'it returns false'. Refute it at one input. -/
def overlayScaledWrong : ChangeSpec := { name := "overlayScaled", fn := fun _ => fun
  | [d1, d2, d3, d4, d5] => { results := [.lit (.bool false)], args := [d1, d2, d3, d4, d5] }
  | _ => none }
def OverlayScaledWrongFalsely : Prop := overlayScaledRow.holds Tryz.pinned (OpenSpec.ofChange overlayScaledWrong)

/-- 'meresmanlaw11.OverlayFiner': WHATEVER THE INPUT: true; the input reads as it did. -/
def overlayFinerSpec : ChangeSpec := { name := "overlayFiner", fn := fun _ => fun
  | [d1, d2] => { results := [.lit (.bool true)], args := [d1, d2] }
  | _ => none }
def overlayFinerRow : OpenClaim := { program := "ytihpoboahbpaiaagreat", sum := "ca2f93e8a725966849c0d3531f3d989a36949191693a5bf820dea084136bbdc6", func := "meresman/meresmanlaw11.OverlayFiner", spec := "overlayFiner", inPlace := ["slices.overlaps[meresman/point.P]"], unfollowed := true, recurses := true, plainKeys := false, apart := false }
def OverlayFinerSaid : Prop := overlayFinerRow.holds Tryz.pinned (OpenSpec.ofChange overlayFinerSpec)

/-- ITS FALSE NEIGHBOUR: 'it returns false'. Refute it at one input. -/
def overlayFinerWrong : ChangeSpec := { name := "overlayFiner", fn := fun _ => fun
  | [d1, d2] => { results := [.lit (.bool false)], args := [d1, d2] }
  | _ => none }
def OverlayFinerWrongFalsely : Prop := overlayFinerRow.holds Tryz.pinned (OpenSpec.ofChange overlayFinerWrong)

/-- 'meresmanlaw11.OverlayAsks': WHATEVER THE INPUT: true; the input reads as it did. -/
def overlayAsksSpec : ChangeSpec := { name := "overlayAsks", fn := fun _ => fun
  | [d1, d2, d3, d4] => { results := [.lit (.bool true)], args := [d1, d2, d3, d4] }
  | _ => none }
def overlayAsksRow : OpenClaim := { program := "ytihpoboahbpaiaagreat", sum := "ca2f93e8a725966849c0d3531f3d989a36949191693a5bf820dea084136bbdc6", func := "meresman/meresmanlaw11.OverlayAsks", spec := "overlayAsks", inPlace := ["slices.overlaps[meresman/point.P]"], unfollowed := true, recurses := true, plainKeys := false, apart := false }
def OverlayAsksSaid : Prop := overlayAsksRow.holds Tryz.pinned (OpenSpec.ofChange overlayAsksSpec)

/-- ITS FALSE NEIGHBOUR: 'it returns false'. Refute it at one input. -/
def overlayAsksWrong : ChangeSpec := { name := "overlayAsks", fn := fun _ => fun
  | [d1, d2, d3, d4] => { results := [.lit (.bool false)], args := [d1, d2, d3, d4] }
  | _ => none }
def OverlayAsksWrongFalsely : Prop := overlayAsksRow.holds Tryz.pinned (OpenSpec.ofChange overlayAsksWrong)

/- THE SECOND FORM. 'bulk': how many values and letters a reading holds, each counted each time it is reached (what is shared counts as often as it is met; a slice's spare places count too). A statement '..UptoSaid' is the law's where the arguments, and the package variables that the reading takes, are together of bulk at most 1048576: NARROWER than '..Said'. Prove '..Said' where nothing that the law and all that it calls make is longer than what came in: it says more and counts as full. Else prove '..UptoSaid'. A law counts once. -/
mutual
def uptoBulk {H : Type} : DataW H → Nat
  | .lit (.string bytes) => bytes.length + 1
  | .lit _ => 1
  | .nil => 1
  | .ptr d => uptoBulk d + 1
  | .slice elems spare => uptoBulkAll elems + uptoBulkAll spare + 1
  | .agg parts => uptoBulkAll parts + 1
  | .iface _ d => uptoBulk d + 1
  | .map entries => uptoBulkEntries entries + 1
  | .held _ => 1
def uptoBulkAll {H : Type} : List (DataW H) → Nat
  | [] => 0
  | d :: r => uptoBulk d + uptoBulkAll r
def uptoBulkEntries {H : Type} : List (Lit × DataW H) → Nat
  | [] => 0
  | x :: r => uptoBulkEntry x + uptoBulkEntries r
def uptoBulkEntry {H : Type} : Lit × DataW H → Nat
  | (.string bytes, d) => bytes.length + uptoBulk d + 1
  | (_, d) => uptoBulk d + 1
 end
def uptoSmall : (H : Type) → List (DataW H) → Bool := fun _ ds => decide (uptoBulkAll ds ≤ 1048576)
def OpenSpec.upto (s : _root_.Go.ChangeSpec) : _root_.Go.OpenSpec := { _root_.Go.OpenSpec.ofChange s with cond := some uptoSmall }

/-- 'meresmanlaw10.LocateScaled', WHERE WHAT IT READS IS OF BULK AT MOST 1048576: true; the input reads as it did. -/
def locateScaledUptoRow : OpenClaim := { program := "ytihpoboahbpaiaagreat", sum := "ca2f93e8a725966849c0d3531f3d989a36949191693a5bf820dea084136bbdc6", func := "meresman/meresmanlaw10.LocateScaled", spec := "locateScaled", inPlace := ["slices.overlaps[meresman/point.P]"], unfollowed := true, recurses := true, plainKeys := false, apart := false, narrowed := true }
def LocateScaledUptoSaid : Prop := locateScaledUptoRow.holds Tryz.pinned (OpenSpec.upto locateScaledSpec)

/-- 'meresmanlaw11.OverlayScaled', WHERE WHAT IT READS IS OF BULK AT MOST 1048576: true; the input reads as it did. -/
def overlayScaledUptoRow : OpenClaim := { program := "ytihpoboahbpaiaagreat", sum := "ca2f93e8a725966849c0d3531f3d989a36949191693a5bf820dea084136bbdc6", func := "meresman/meresmanlaw11.OverlayScaled", spec := "overlayScaled", inPlace := ["slices.overlaps[meresman/point.P]"], unfollowed := true, recurses := true, plainKeys := false, apart := false, narrowed := true }
def OverlayScaledUptoSaid : Prop := overlayScaledUptoRow.holds Tryz.pinned (OpenSpec.upto overlayScaledSpec)

/-- 'meresmanlaw11.OverlayFiner', WHERE WHAT IT READS IS OF BULK AT MOST 1048576: true; the input reads as it did. -/
def overlayFinerUptoRow : OpenClaim := { program := "ytihpoboahbpaiaagreat", sum := "ca2f93e8a725966849c0d3531f3d989a36949191693a5bf820dea084136bbdc6", func := "meresman/meresmanlaw11.OverlayFiner", spec := "overlayFiner", inPlace := ["slices.overlaps[meresman/point.P]"], unfollowed := true, recurses := true, plainKeys := false, apart := false, narrowed := true }
def OverlayFinerUptoSaid : Prop := overlayFinerUptoRow.holds Tryz.pinned (OpenSpec.upto overlayFinerSpec)

/-- 'meresmanlaw11.OverlayAsks', WHERE WHAT IT READS IS OF BULK AT MOST 1048576: true; the input reads as it did. -/
def overlayAsksUptoRow : OpenClaim := { program := "ytihpoboahbpaiaagreat", sum := "ca2f93e8a725966849c0d3531f3d989a36949191693a5bf820dea084136bbdc6", func := "meresman/meresmanlaw11.OverlayAsks", spec := "overlayAsks", inPlace := ["slices.overlaps[meresman/point.P]"], unfollowed := true, recurses := true, plainKeys := false, apart := false, narrowed := true }
def OverlayAsksUptoSaid : Prop := overlayAsksUptoRow.holds Tryz.pinned (OpenSpec.upto overlayAsksSpec)

end Rows
end Go.Proofs.YtihpoboahbpaiaaGreat
