/-
  No cell of these rows narrows 'for every input' (looked for: loops, veiled, ifaces, maps, wideKeys, modest, calm, conditions, laid).
  DERIVED. THE GIVEN ROWS OF THIS SEAT. 5 by the template 'for every input the law returns true; each argument reads behind the call as it read before'; 0 by the template 'total and deterministic' (their statements: YtolaaplnoahnkaaTotals.lean).
  GIVEN WITH THE SEED: the statements are not yours to turn. If you find one false, say at which input.
  Laid BY PROGRAM, IN A SANDBOX (cutbox-rows.mjs): the forced cells as the released guide's own fill.sh prints them over the translation 7f48d33192b4f265… (all of the seat's roots in one cut). By AI agents, Wed Nov 11 2026. No macro, syntax, notation, axiom, sorry.
-/
import Derived.Test.YtolaaplnoahnkaaChecked
import GoSem.Claim
import GoSem.ClaimJoined
import GoSem.ClaimMapViews
import Derived.JoinedTies
import Derived.KernelRfl
namespace Go.Proofs.Ytolaaplnoahnkaa
/- THE CELL 'sum', in the pinned program and in every row, IS THE sha256 OF THE DUMP (.gsa) THAT YtolaaplnoahnkaaProg.lean LOADS. Nothing in Lean hashes anything: it is a label: what it is worth is what the hold of that sum in a sandbox is worth. -/
noncomputable def Try.pinned : Pinned := { name := "ytolaaplnoahnkaa", sum := "7f48d33192b4f265cb981dad233e8fab64626913f2942875c5fa8f53e984113a", checked := Try.checked }
namespace Rows
def none {H : Type} : Left H := { results := [], args := [] }

/-- 'mainsheetlaw15.WheelNext': WHATEVER THE INPUT: true; the input reads as it did. -/
def wheelNextSpec : ChangeSpec := { name := "wheelNext", fn := fun _ => fun
  | [d] => { results := [.lit (.bool true)], args := [d] }
  | _ => none }
def wheelNextRow : OpenClaim := { program := "ytolaaplnoahnkaa", sum := "7f48d33192b4f265cb981dad233e8fab64626913f2942875c5fa8f53e984113a", func := "mainsheet/mainsheetlaw15.WheelNext", spec := "wheelNext", inPlace := ["slices.overlaps[mainsheet/api.Timer]"], unfollowed := true, recurses := true, apart := false }
def WheelNextSaid : Prop := wheelNextRow.holds Try.pinned (OpenSpec.ofChange wheelNextSpec)

/-- ITS FALSE NEIGHBOUR: 'it returns false'. Refute it at one input. -/
def wheelNextWrong : ChangeSpec := { name := "wheelNext", fn := fun _ => fun
  | [d] => { results := [.lit (.bool false)], args := [d] }
  | _ => none }
def WheelNextWrongFalsely : Prop := wheelNextRow.holds Try.pinned (OpenSpec.ofChange wheelNextWrong)

/-- 'mainsheetlaw15.WheelSets': WHATEVER THE INPUT: true; the input reads as it did. -/
def wheelSetsSpec : ChangeSpec := { name := "wheelSets", fn := fun _ => fun
  | [d1, d2, d3] => { results := [.lit (.bool true)], args := [d1, d2, d3] }
  | _ => none }
def wheelSetsRow : OpenClaim := { program := "ytolaaplnoahnkaa", sum := "7f48d33192b4f265cb981dad233e8fab64626913f2942875c5fa8f53e984113a", func := "mainsheet/mainsheetlaw15.WheelSets", spec := "wheelSets", inPlace := ["slices.overlaps[mainsheet/api.Timer]"], unfollowed := true, recurses := true, apart := false }
def WheelSetsSaid : Prop := wheelSetsRow.holds Try.pinned (OpenSpec.ofChange wheelSetsSpec)

/-- ITS FALSE NEIGHBOUR: 'it returns false'. Refute it at one input. -/
def wheelSetsWrong : ChangeSpec := { name := "wheelSets", fn := fun _ => fun
  | [d1, d2, d3] => { results := [.lit (.bool false)], args := [d1, d2, d3] }
  | _ => none }
def WheelSetsWrongFalsely : Prop := wheelSetsRow.holds Try.pinned (OpenSpec.ofChange wheelSetsWrong)

/-- 'mainsheetlaw15.WheelTells': WHATEVER THE INPUT: true; the input reads as it did. -/
def wheelTellsSpec : ChangeSpec := { name := "wheelTells", fn := fun _ => fun
  | [d1, d2, d3] => { results := [.lit (.bool true)], args := [d1, d2, d3] }
  | _ => none }
def wheelTellsRow : OpenClaim := { program := "ytolaaplnoahnkaa", sum := "7f48d33192b4f265cb981dad233e8fab64626913f2942875c5fa8f53e984113a", func := "mainsheet/mainsheetlaw15.WheelTells", spec := "wheelTells", inPlace := ["slices.overlaps[mainsheet/api.Timer]"], unfollowed := true, recurses := true, apart := false }
def WheelTellsSaid : Prop := wheelTellsRow.holds Try.pinned (OpenSpec.ofChange wheelTellsSpec)

/-- ITS FALSE NEIGHBOUR: 'it returns false'. Refute it at one input. -/
def wheelTellsWrong : ChangeSpec := { name := "wheelTells", fn := fun _ => fun
  | [d1, d2, d3] => { results := [.lit (.bool false)], args := [d1, d2, d3] }
  | _ => none }
def WheelTellsWrongFalsely : Prop := wheelTellsRow.holds Try.pinned (OpenSpec.ofChange wheelTellsWrong)

/-- 'mainsheetlaw15.WheelPasses': WHATEVER THE INPUT: true; the input reads as it did. -/
def wheelPassesSpec : ChangeSpec := { name := "wheelPasses", fn := fun _ => fun
  | [d1, d2] => { results := [.lit (.bool true)], args := [d1, d2] }
  | _ => none }
def wheelPassesRow : OpenClaim := { program := "ytolaaplnoahnkaa", sum := "7f48d33192b4f265cb981dad233e8fab64626913f2942875c5fa8f53e984113a", func := "mainsheet/mainsheetlaw15.WheelPasses", spec := "wheelPasses", inPlace := ["slices.overlaps[mainsheet/api.Timer]"], unfollowed := true, recurses := true, apart := false }
def WheelPassesSaid : Prop := wheelPassesRow.holds Try.pinned (OpenSpec.ofChange wheelPassesSpec)

/-- ITS FALSE NEIGHBOUR: 'it returns false'. Refute it at one input. -/
def wheelPassesWrong : ChangeSpec := { name := "wheelPasses", fn := fun _ => fun
  | [d1, d2] => { results := [.lit (.bool false)], args := [d1, d2] }
  | _ => none }
def WheelPassesWrongFalsely : Prop := wheelPassesRow.holds Try.pinned (OpenSpec.ofChange wheelPassesWrong)

/-- 'mainsheetlaw15.WheelSlots': WHATEVER THE INPUT: true; the input reads as it did. -/
def wheelSlotsSpec : ChangeSpec := { name := "wheelSlots", fn := fun _ => fun
  | [d] => { results := [.lit (.bool true)], args := [d] }
  | _ => none }
def wheelSlotsRow : OpenClaim := { program := "ytolaaplnoahnkaa", sum := "7f48d33192b4f265cb981dad233e8fab64626913f2942875c5fa8f53e984113a", func := "mainsheet/mainsheetlaw15.WheelSlots", spec := "wheelSlots", inPlace := ["slices.overlaps[mainsheet/api.Timer]"], unfollowed := true, recurses := true, apart := false }
def WheelSlotsSaid : Prop := wheelSlotsRow.holds Try.pinned (OpenSpec.ofChange wheelSlotsSpec)

/-- ITS FALSE NEIGHBOUR: 'it returns false'. Refute it at one input. -/
def wheelSlotsWrong : ChangeSpec := { name := "wheelSlots", fn := fun _ => fun
  | [d] => { results := [.lit (.bool false)], args := [d] }
  | _ => none }
def WheelSlotsWrongFalsely : Prop := wheelSlotsRow.holds Try.pinned (OpenSpec.ofChange wheelSlotsWrong)

/- THE SECOND FORM. 'bulk': how many values and letters a reading holds, each counted each time it is reached (what is shared counts as often as it is met; a slice's spare places count too). A statement '..UptoSaid' is the law's where the arguments, and the package variables that the reading takes, are together of bulk at most 1048576: NARROWER than '..Said'. Prove '..Said' where nothing that the law and all that it calls make is longer than what came in: it says more and counts as full. Else prove '..UptoSaid'. A law counts once. -/
mutual
def uptoBulk {H : Type} : DataW H → Nat
  | .lit (.string bytes) => bytes.length + 1
  | .lit _ => 1
  | .nil => 1
  | .ptr d => uptoBulk d + 1
  | .slice elems spare => uptoBulkAll elems + uptoBulkAll spare + 1
  | .agg parts => uptoBulkAll parts + 1
  | .iface _ d => uptoBulk d + 1
  | .map entries => uptoBulkEntries entries + 1
  | .held _ => 1
def uptoBulkAll {H : Type} : List (DataW H) → Nat
  | [] => 0
  | d :: r => uptoBulk d + uptoBulkAll r
def uptoBulkEntries {H : Type} : List (Lit × DataW H) → Nat
  | [] => 0
  | x :: r => uptoBulkEntry x + uptoBulkEntries r
def uptoBulkEntry {H : Type} : Lit × DataW H → Nat
  | (.string bytes, d) => bytes.length + uptoBulk d + 1
  | (_, d) => uptoBulk d + 1
 end
def uptoSmall : (H : Type) → List (DataW H) → Bool := fun _ ds => decide (uptoBulkAll ds ≤ 1048576)
def OpenSpec.upto (s : _root_.Go.ChangeSpec) : _root_.Go.OpenSpec := { _root_.Go.OpenSpec.ofChange s with cond := some uptoSmall }

/-- 'mainsheetlaw15.WheelNext', WHERE WHAT IT READS IS OF BULK AT MOST 1048576: true; the input reads as it did. -/
def wheelNextUptoRow : OpenClaim := { program := "ytolaaplnoahnkaa", sum := "7f48d33192b4f265cb981dad233e8fab64626913f2942875c5fa8f53e984113a", func := "mainsheet/mainsheetlaw15.WheelNext", spec := "wheelNext", inPlace := ["slices.overlaps[mainsheet/api.Timer]"], unfollowed := true, recurses := true, apart := false, narrowed := true }
def WheelNextUptoSaid : Prop := wheelNextUptoRow.holds Try.pinned (OpenSpec.upto wheelNextSpec)

/-- 'mainsheetlaw15.WheelSets', WHERE WHAT IT READS IS OF BULK AT MOST 1048576: true; the input reads as it did. -/
def wheelSetsUptoRow : OpenClaim := { program := "ytolaaplnoahnkaa", sum := "7f48d33192b4f265cb981dad233e8fab64626913f2942875c5fa8f53e984113a", func := "mainsheet/mainsheetlaw15.WheelSets", spec := "wheelSets", inPlace := ["slices.overlaps[mainsheet/api.Timer]"], unfollowed := true, recurses := true, apart := false, narrowed := true }
def WheelSetsUptoSaid : Prop := wheelSetsUptoRow.holds Try.pinned (OpenSpec.upto wheelSetsSpec)

/-- 'mainsheetlaw15.WheelTells', WHERE WHAT IT READS IS OF BULK AT MOST 1048576: true; the input reads as it did. -/
def wheelTellsUptoRow : OpenClaim := { program := "ytolaaplnoahnkaa", sum := "7f48d33192b4f265cb981dad233e8fab64626913f2942875c5fa8f53e984113a", func := "mainsheet/mainsheetlaw15.WheelTells", spec := "wheelTells", inPlace := ["slices.overlaps[mainsheet/api.Timer]"], unfollowed := true, recurses := true, apart := false, narrowed := true }
def WheelTellsUptoSaid : Prop := wheelTellsUptoRow.holds Try.pinned (OpenSpec.upto wheelTellsSpec)

/-- 'mainsheetlaw15.WheelPasses', WHERE WHAT IT READS IS OF BULK AT MOST 1048576: true; the input reads as it did. -/
def wheelPassesUptoRow : OpenClaim := { program := "ytolaaplnoahnkaa", sum := "7f48d33192b4f265cb981dad233e8fab64626913f2942875c5fa8f53e984113a", func := "mainsheet/mainsheetlaw15.WheelPasses", spec := "wheelPasses", inPlace := ["slices.overlaps[mainsheet/api.Timer]"], unfollowed := true, recurses := true, apart := false, narrowed := true }
def WheelPassesUptoSaid : Prop := wheelPassesUptoRow.holds Try.pinned (OpenSpec.upto wheelPassesSpec)

/-- 'mainsheetlaw15.WheelSlots', WHERE WHAT IT READS IS OF BULK AT MOST 1048576: true; the input reads as it did. -/
def wheelSlotsUptoRow : OpenClaim := { program := "ytolaaplnoahnkaa", sum := "7f48d33192b4f265cb981dad233e8fab64626913f2942875c5fa8f53e984113a", func := "mainsheet/mainsheetlaw15.WheelSlots", spec := "wheelSlots", inPlace := ["slices.overlaps[mainsheet/api.Timer]"], unfollowed := true, recurses := true, apart := false, narrowed := true }
def WheelSlotsUptoSaid : Prop := wheelSlotsUptoRow.holds Try.pinned (OpenSpec.upto wheelSlotsSpec)

end Rows
end Go.Proofs.Ytolaaplnoahnkaa
