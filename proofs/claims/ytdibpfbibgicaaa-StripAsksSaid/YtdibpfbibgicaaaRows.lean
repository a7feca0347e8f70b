/-
  No cell of these rows narrows 'for every input' (looked for: loops, veiled, ifaces, maps, wideKeys, modest, calm, conditions, laid).
  DERIVED. THE GIVEN ROWS OF THIS SEAT. 5 by the template 'for every input the law returns true; each argument reads behind the call as it read before'; 0 by the template 'total and deterministic' (their statements: YtdibpfbibgicaaaTotals.lean).
  GIVEN WITH THE SEED: the statements are not yours to turn. If you find one false, say at which input.
  Laid BY PROGRAM, IN A SANDBOX (cutbox-rows.mjs): the forced cells as the released guide's own fill.sh prints them over the translation 452fc8fb7d7d111c… (all of the seat's roots in one cut). By AI agents, Wed Nov 11 2026. No macro, syntax, notation, axiom, sorry.
-/
import Derived.Test.YtdibpfbibgicaaaChecked
import GoSem.Claim
import GoSem.ClaimJoined
import GoSem.ClaimMapViews
import Derived.JoinedTies
import Derived.KernelRfl
namespace Go.Proofs.Ytdibpfbibgicaaa
/- THE CELL 'sum', in the pinned program and in every row, IS THE sha256 OF THE DUMP (.gsa) THAT YtdibpfbibgicaaaProg.lean LOADS. Nothing in Lean hashes anything: it is a label: what it is worth is what the hold of that sum in a sandbox is worth. -/
noncomputable def Try.pinned : Pinned := { name := "ytdibpfbibgicaaa", sum := "452fc8fb7d7d111c3f09c4fb6f8fba7a798b032ff07a47441613963b11380344", checked := Try.checked }
namespace Rows
def none {H : Type} : Left H := { results := [], args := [] }

/-- 'meresmanlaw24.StripFinds': WHATEVER THE INPUT: true; the input reads as it did. -/
def stripFindsSpec : ChangeSpec := { name := "stripFinds", fn := fun _ => fun
  | [d1, d2, d3, d4, d5] => { results := [.lit (.bool true)], args := [d1, d2, d3, d4, d5] }
  | _ => none }
def stripFindsRow : OpenClaim := { program := "ytdibpfbibgicaaa", sum := "452fc8fb7d7d111c3f09c4fb6f8fba7a798b032ff07a47441613963b11380344", func := "meresman/meresmanlaw24.StripFinds", spec := "stripFinds", unfollowed := true, recurses := true, plainKeys := false, apart := false }
def StripFindsSaid : Prop := stripFindsRow.holds Try.pinned (OpenSpec.ofChange stripFindsSpec)

/-- ITS FALSE NEIGHBOUR: 'it returns false'. Refute it at one input. -/
def stripFindsWrong : ChangeSpec := { name := "stripFinds", fn := fun _ => fun
  | [d1, d2, d3, d4, d5] => { results := [.lit (.bool false)], args := [d1, d2, d3, d4, d5] }
  | _ => none }
def StripFindsWrongFalsely : Prop := stripFindsRow.holds Try.pinned (OpenSpec.ofChange stripFindsWrong)

/-- 'meresmanlaw24.StripPartition': WHATEVER THE INPUT: true; the input reads as it did. -/
def stripPartitionSpec : ChangeSpec := { name := "stripPartition", fn := fun _ => fun
  | [d1, d2] => { results := [.lit (.bool true)], args := [d1, d2] }
  | _ => none }
def stripPartitionRow : OpenClaim := { program := "ytdibpfbibgicaaa", sum := "452fc8fb7d7d111c3f09c4fb6f8fba7a798b032ff07a47441613963b11380344", func := "meresman/meresmanlaw24.StripPartition", spec := "stripPartition", unfollowed := true, recurses := true, plainKeys := false, apart := false }
def StripPartitionSaid : Prop := stripPartitionRow.holds Try.pinned (OpenSpec.ofChange stripPartitionSpec)

/-- ITS FALSE NEIGHBOUR: 'it returns false'. Refute it at one input. -/
def stripPartitionWrong : ChangeSpec := { name := "stripPartition", fn := fun _ => fun
  | [d1, d2] => { results := [.lit (.bool false)], args := [d1, d2] }
  | _ => none }
def StripPartitionWrongFalsely : Prop := stripPartitionRow.holds Try.pinned (OpenSpec.ofChange stripPartitionWrong)

/-- 'meresmanlaw24.StripAsks': WHATEVER THE INPUT: true; the input reads as it did. -/
def stripAsksSpec : ChangeSpec := { name := "stripAsks", fn := fun _ => fun
  | [d1, d2, d3, d4, d5] => { results := [.lit (.bool true)], args := [d1, d2, d3, d4, d5] }
  | _ => none }
def stripAsksRow : OpenClaim := { program := "ytdibpfbibgicaaa", sum := "452fc8fb7d7d111c3f09c4fb6f8fba7a798b032ff07a47441613963b11380344", func := "meresman/meresmanlaw24.StripAsks", spec := "stripAsks", unfollowed := true, recurses := true, plainKeys := false, apart := false }
def StripAsksSaid : Prop := stripAsksRow.holds Try.pinned (OpenSpec.ofChange stripAsksSpec)

/-- ITS FALSE NEIGHBOUR: 'it returns false'. Refute it at one input. -/
def stripAsksWrong : ChangeSpec := { name := "stripAsks", fn := fun _ => fun
  | [d1, d2, d3, d4, d5] => { results := [.lit (.bool false)], args := [d1, d2, d3, d4, d5] }
  | _ => none }
def StripAsksWrongFalsely : Prop := stripAsksRow.holds Try.pinned (OpenSpec.ofChange stripAsksWrong)

/-- 'meresmanlaw24.StripAlone': WHATEVER THE INPUT: true; the input reads as it did. -/
def stripAloneSpec : ChangeSpec := { name := "stripAlone", fn := fun _ => fun
  | [d1, d2] => { results := [.lit (.bool true)], args := [d1, d2] }
  | _ => none }
def stripAloneRow : OpenClaim := { program := "ytdibpfbibgicaaa", sum := "452fc8fb7d7d111c3f09c4fb6f8fba7a798b032ff07a47441613963b11380344", func := "meresman/meresmanlaw24.StripAlone", spec := "stripAlone", unfollowed := true, recurses := true, plainKeys := false, apart := false }
def StripAloneSaid : Prop := stripAloneRow.holds Try.pinned (OpenSpec.ofChange stripAloneSpec)

/-- ITS FALSE NEIGHBOUR: 'it returns false'. Refute it at one input. -/
def stripAloneWrong : ChangeSpec := { name := "stripAlone", fn := fun _ => fun
  | [d1, d2] => { results := [.lit (.bool false)], args := [d1, d2] }
  | _ => none }
def StripAloneWrongFalsely : Prop := stripAloneRow.holds Try.pinned (OpenSpec.ofChange stripAloneWrong)

/-- 'meresmanlaw24.StripOpens': WHATEVER THE INPUT: true; the input reads as it did. -/
def stripOpensSpec : ChangeSpec := { name := "stripOpens", fn := fun _ => fun
  | [d1, d2] => { results := [.lit (.bool true)], args := [d1, d2] }
  | _ => none }
def stripOpensRow : OpenClaim := { program := "ytdibpfbibgicaaa", sum := "452fc8fb7d7d111c3f09c4fb6f8fba7a798b032ff07a47441613963b11380344", func := "meresman/meresmanlaw24.StripOpens", spec := "stripOpens", unfollowed := true, recurses := true, plainKeys := false, apart := false }
def StripOpensSaid : Prop := stripOpensRow.holds Try.pinned (OpenSpec.ofChange stripOpensSpec)

/-- ITS FALSE NEIGHBOUR: 'it returns false'. Refute it at one input. -/
def stripOpensWrong : ChangeSpec := { name := "stripOpens", fn := fun _ => fun
  | [d1, d2] => { results := [.lit (.bool false)], args := [d1, d2] }
  | _ => none }
def StripOpensWrongFalsely : Prop := stripOpensRow.holds Try.pinned (OpenSpec.ofChange stripOpensWrong)

/- THE SECOND FORM. 'bulk': how many values and letters a reading holds, each counted each time it is reached (what is shared counts as often as it is met; a slice's spare places count too). A statement '..UptoSaid' is the law's where the arguments, and the package variables that the reading takes, are together of bulk at most 1048576: NARROWER than '..Said'. Prove '..Said' where nothing that the law and all that it calls make is longer than what came in: it says more and counts as full. Else prove '..UptoSaid'. A law counts once. -/
mutual
def uptoBulk {H : Type} : DataW H → Nat
  | .lit (.string bytes) => bytes.length + 1
  | .lit _ => 1
  | .nil => 1
  | .ptr d => uptoBulk d + 1
  | .slice elems spare => uptoBulkAll elems + uptoBulkAll spare + 1
  | .agg parts => uptoBulkAll parts + 1
  | .iface _ d => uptoBulk d + 1
  | .map entries => uptoBulkEntries entries + 1
  | .held _ => 1
def uptoBulkAll {H : Type} : List (DataW H) → Nat
  | [] => 0
  | d :: r => uptoBulk d + uptoBulkAll r
def uptoBulkEntries {H : Type} : List (Lit × DataW H) → Nat
  | [] => 0
  | x :: r => uptoBulkEntry x + uptoBulkEntries r
def uptoBulkEntry {H : Type} : Lit × DataW H → Nat
  | (.string bytes, d) => bytes.length + uptoBulk d + 1
  | (_, d) => uptoBulk d + 1
 end
def uptoSmall : (H : Type) → List (DataW H) → Bool := fun _ ds => decide (uptoBulkAll ds ≤ 1048576)
def OpenSpec.upto (s : _root_.Go.ChangeSpec) : _root_.Go.OpenSpec := { _root_.Go.OpenSpec.ofChange s with cond := some uptoSmall }

/-- 'meresmanlaw24.StripFinds', WHERE WHAT IT READS IS OF BULK AT MOST 1048576: true; the input reads as it did. -/
def stripFindsUptoRow : OpenClaim := { program := "ytdibpfbibgicaaa", sum := "452fc8fb7d7d111c3f09c4fb6f8fba7a798b032ff07a47441613963b11380344", func := "meresman/meresmanlaw24.StripFinds", spec := "stripFinds", unfollowed := true, recurses := true, plainKeys := false, apart := false, narrowed := true }
def StripFindsUptoSaid : Prop := stripFindsUptoRow.holds Try.pinned (OpenSpec.upto stripFindsSpec)

/-- 'meresmanlaw24.StripPartition', WHERE WHAT IT READS IS OF BULK AT MOST 1048576: true; the input reads as it did. -/
def stripPartitionUptoRow : OpenClaim := { program := "ytdibpfbibgicaaa", sum := "452fc8fb7d7d111c3f09c4fb6f8fba7a798b032ff07a47441613963b11380344", func := "meresman/meresmanlaw24.StripPartition", spec := "stripPartition", unfollowed := true, recurses := true, plainKeys := false, apart := false, narrowed := true }
def StripPartitionUptoSaid : Prop := stripPartitionUptoRow.holds Try.pinned (OpenSpec.upto stripPartitionSpec)

/-- 'meresmanlaw24.StripAsks', WHERE WHAT IT READS IS OF BULK AT MOST 1048576: true; the input reads as it did. -/
def stripAsksUptoRow : OpenClaim := { program := "ytdibpfbibgicaaa", sum := "452fc8fb7d7d111c3f09c4fb6f8fba7a798b032ff07a47441613963b11380344", func := "meresman/meresmanlaw24.StripAsks", spec := "stripAsks", unfollowed := true, recurses := true, plainKeys := false, apart := false, narrowed := true }
def StripAsksUptoSaid : Prop := stripAsksUptoRow.holds Try.pinned (OpenSpec.upto stripAsksSpec)

/-- 'meresmanlaw24.StripAlone', WHERE WHAT IT READS IS OF BULK AT MOST 1048576: true; the input reads as it did. -/
def stripAloneUptoRow : OpenClaim := { program := "ytdibpfbibgicaaa", sum := "452fc8fb7d7d111c3f09c4fb6f8fba7a798b032ff07a47441613963b11380344", func := "meresman/meresmanlaw24.StripAlone", spec := "stripAlone", unfollowed := true, recurses := true, plainKeys := false, apart := false, narrowed := true }
def StripAloneUptoSaid : Prop := stripAloneUptoRow.holds Try.pinned (OpenSpec.upto stripAloneSpec)

/-- 'meresmanlaw24.StripOpens', WHERE WHAT IT READS IS OF BULK AT MOST 1048576: true; the input reads as it did. -/
def stripOpensUptoRow : OpenClaim := { program := "ytdibpfbibgicaaa", sum := "452fc8fb7d7d111c3f09c4fb6f8fba7a798b032ff07a47441613963b11380344", func := "meresman/meresmanlaw24.StripOpens", spec := "stripOpens", unfollowed := true, recurses := true, plainKeys := false, apart := false, narrowed := true }
def StripOpensUptoSaid : Prop := stripOpensUptoRow.holds Try.pinned (OpenSpec.upto stripOpensSpec)

end Rows
end Go.Proofs.Ytdibpfbibgicaaa
