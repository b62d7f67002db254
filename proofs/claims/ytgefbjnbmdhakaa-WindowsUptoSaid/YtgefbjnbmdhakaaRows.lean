/-
  No cell of these rows narrows 'for every input' (looked for: loops, veiled, ifaces, maps, wideKeys, modest, calm, conditions, laid).
  DERIVED. THE GIVEN ROWS OF THIS SEAT. 5 by the template 'for every input the law returns true; each argument reads behind the call as it read before'; 0 by the template 'total and deterministic' (their statements: YtgefbjnbmdhakaaTotals.lean).
  GIVEN WITH THE SEED: the statements are not yours to turn. If you find one false, say at which input.
  Laid BY PROGRAM, IN A SANDBOX (cutbox-rows.mjs): the forced cells as the released guide's own fill.sh prints them over the translation f20e1c9520450253… (all of the seat's roots in one cut). By AI agents, Wed Nov 11 2026. No macro, syntax, notation, axiom, sorry.
-/
import Derived.Test.YtgefbjnbmdhakaaChecked
import GoSem.Claim
import GoSem.ClaimJoined
import GoSem.ClaimMapViews
import Derived.JoinedTies
import Derived.KernelRfl
namespace Go.Proofs.Ytgefbjnbmdhakaa
/- THE CELL 'sum', in the pinned program and in every row, IS THE sha256 OF THE DUMP (.gsa) THAT YtgefbjnbmdhakaaProg.lean LOADS. Nothing in Lean hashes anything: it is a label: what it is worth is what the hold of that sum in a sandbox is worth. -/
noncomputable def Try.pinned : Pinned := { name := "ytgefbjnbmdhakaa", sum := "f20e1c9520450253d16352e53defadffb76d3b8158d2847f739be9fcf85cbc73", checked := Try.checked }
namespace Rows
def none {H : Type} : Left H := { results := [], args := [] }

/-- 'curvetlaw17.Windows': WHATEVER THE INPUT: true; the input reads as it did. -/
def windowsSpec : ChangeSpec := { name := "windows", fn := fun _ => fun
  | [d1, d2, d3, d4] => { results := [.lit (.bool true)], args := [d1, d2, d3, d4] }
  | _ => none }
def windowsRow : OpenClaim := { program := "ytgefbjnbmdhakaa", sum := "f20e1c9520450253d16352e53defadffb76d3b8158d2847f739be9fcf85cbc73", func := "curvet/curvetlaw17.Windows", spec := "windows", apart := false }
def WindowsSaid : Prop := windowsRow.holds Try.pinned (OpenSpec.ofChange windowsSpec)

/-- ITS FALSE NEIGHBOUR: 'it returns false'. Refute it at one input. -/
def windowsWrong : ChangeSpec := { name := "windows", fn := fun _ => fun
  | [d1, d2, d3, d4] => { results := [.lit (.bool false)], args := [d1, d2, d3, d4] }
  | _ => none }
def WindowsWrongFalsely : Prop := windowsRow.holds Try.pinned (OpenSpec.ofChange windowsWrong)

/-- 'curvetlaw17.WindowBack': WHATEVER THE INPUT: true; the input reads as it did. -/
def windowBackSpec : ChangeSpec := { name := "windowBack", fn := fun _ => fun
  | [d1, d2, d3] => { results := [.lit (.bool true)], args := [d1, d2, d3] }
  | _ => none }
def windowBackRow : OpenClaim := { program := "ytgefbjnbmdhakaa", sum := "f20e1c9520450253d16352e53defadffb76d3b8158d2847f739be9fcf85cbc73", func := "curvet/curvetlaw17.WindowBack", spec := "windowBack", apart := false }
def WindowBackSaid : Prop := windowBackRow.holds Try.pinned (OpenSpec.ofChange windowBackSpec)

/-- ITS FALSE NEIGHBOUR: 'it returns false'. Refute it at one input. -/
def windowBackWrong : ChangeSpec := { name := "windowBack", fn := fun _ => fun
  | [d1, d2, d3] => { results := [.lit (.bool false)], args := [d1, d2, d3] }
  | _ => none }
def WindowBackWrongFalsely : Prop := windowBackRow.holds Try.pinned (OpenSpec.ofChange windowBackWrong)

/-- 'curvetlaw17.WindowWidths': WHATEVER THE INPUT: true; the input reads as it did. -/
def windowWidthsSpec : ChangeSpec := { name := "windowWidths", fn := fun _ => fun
  | [d1, d2, d3] => { results := [.lit (.bool true)], args := [d1, d2, d3] }
  | _ => none }
def windowWidthsRow : OpenClaim := { program := "ytgefbjnbmdhakaa", sum := "f20e1c9520450253d16352e53defadffb76d3b8158d2847f739be9fcf85cbc73", func := "curvet/curvetlaw17.WindowWidths", spec := "windowWidths", apart := false }
def WindowWidthsSaid : Prop := windowWidthsRow.holds Try.pinned (OpenSpec.ofChange windowWidthsSpec)

/-- ITS FALSE NEIGHBOUR: 'it returns false'. Refute it at one input. -/
def windowWidthsWrong : ChangeSpec := { name := "windowWidths", fn := fun _ => fun
  | [d1, d2, d3] => { results := [.lit (.bool false)], args := [d1, d2, d3] }
  | _ => none }
def WindowWidthsWrongFalsely : Prop := windowWidthsRow.holds Try.pinned (OpenSpec.ofChange windowWidthsWrong)

/-- 'curvetlaw17.WindowOnes': WHATEVER THE INPUT: true; the input reads as it did. -/
def windowOnesSpec : ChangeSpec := { name := "windowOnes", fn := fun _ => fun
  | [d1, d2] => { results := [.lit (.bool true)], args := [d1, d2] }
  | _ => none }
def windowOnesRow : OpenClaim := { program := "ytgefbjnbmdhakaa", sum := "f20e1c9520450253d16352e53defadffb76d3b8158d2847f739be9fcf85cbc73", func := "curvet/curvetlaw17.WindowOnes", spec := "windowOnes", apart := false }
def WindowOnesSaid : Prop := windowOnesRow.holds Try.pinned (OpenSpec.ofChange windowOnesSpec)

/-- ITS FALSE NEIGHBOUR: 'it returns false'. Refute it at one input. -/
def windowOnesWrong : ChangeSpec := { name := "windowOnes", fn := fun _ => fun
  | [d1, d2] => { results := [.lit (.bool false)], args := [d1, d2] }
  | _ => none }
def WindowOnesWrongFalsely : Prop := windowOnesRow.holds Try.pinned (OpenSpec.ofChange windowOnesWrong)

/-- 'curvetlaw17.WindowShifts': WHATEVER THE INPUT: true; the input reads as it did. -/
def windowShiftsSpec : ChangeSpec := { name := "windowShifts", fn := fun _ => fun
  | [d1, d2, d3] => { results := [.lit (.bool true)], args := [d1, d2, d3] }
  | _ => none }
def windowShiftsRow : OpenClaim := { program := "ytgefbjnbmdhakaa", sum := "f20e1c9520450253d16352e53defadffb76d3b8158d2847f739be9fcf85cbc73", func := "curvet/curvetlaw17.WindowShifts", spec := "windowShifts", inPlace := ["math/bits.Add64"], apart := false }
def WindowShiftsSaid : Prop := windowShiftsRow.holds Try.pinned (OpenSpec.ofChange windowShiftsSpec)

/-- ITS FALSE NEIGHBOUR: 'it returns false'. Refute it at one input. -/
def windowShiftsWrong : ChangeSpec := { name := "windowShifts", fn := fun _ => fun
  | [d1, d2, d3] => { results := [.lit (.bool false)], args := [d1, d2, d3] }
  | _ => none }
def WindowShiftsWrongFalsely : Prop := windowShiftsRow.holds Try.pinned (OpenSpec.ofChange windowShiftsWrong)

/- THE SECOND FORM. 'bulk': how many values and letters a reading holds, each counted each time it is reached (what is shared counts as often as it is met; a slice's spare places count too). A statement '..UptoSaid' is the law's where the arguments, and the package variables that the reading takes, are together of bulk at most 1048576: NARROWER than '..Said'. Prove '..Said' where nothing that the law and all that it calls make is longer than what came in: it says more and counts as full. Else prove '..UptoSaid'. A law counts once. -/
mutual
def uptoBulk {H : Type} : DataW H → Nat
  | .lit (.string bytes) => bytes.length + 1
  | .lit _ => 1
  | .nil => 1
  | .ptr d => uptoBulk d + 1
  | .slice elems spare => uptoBulkAll elems + uptoBulkAll spare + 1
  | .agg parts => uptoBulkAll parts + 1
  | .iface _ d => uptoBulk d + 1
  | .map entries => uptoBulkEntries entries + 1
  | .held _ => 1
def uptoBulkAll {H : Type} : List (DataW H) → Nat
  | [] => 0
  | d :: r => uptoBulk d + uptoBulkAll r
def uptoBulkEntries {H : Type} : List (Lit × DataW H) → Nat
  | [] => 0
  | x :: r => uptoBulkEntry x + uptoBulkEntries r
def uptoBulkEntry {H : Type} : Lit × DataW H → Nat
  | (.string bytes, d) => bytes.length + uptoBulk d + 1
  | (_, d) => uptoBulk d + 1
 end
def uptoSmall : (H : Type) → List (DataW H) → Bool := fun _ ds => decide (uptoBulkAll ds ≤ 1048576)
def OpenSpec.upto (s : _root_.Go.ChangeSpec) : _root_.Go.OpenSpec := { _root_.Go.OpenSpec.ofChange s with cond := some uptoSmall }

/-- 'curvetlaw17.Windows', WHERE WHAT IT READS IS OF BULK AT MOST 1048576: true; the input reads as it did. -/
def windowsUptoRow : OpenClaim := { program := "ytgefbjnbmdhakaa", sum := "f20e1c9520450253d16352e53defadffb76d3b8158d2847f739be9fcf85cbc73", func := "curvet/curvetlaw17.Windows", spec := "windows", apart := false, narrowed := true }
def WindowsUptoSaid : Prop := windowsUptoRow.holds Try.pinned (OpenSpec.upto windowsSpec)

/-- 'curvetlaw17.WindowBack', WHERE WHAT IT READS IS OF BULK AT MOST 1048576: true; the input reads as it did. -/
def windowBackUptoRow : OpenClaim := { program := "ytgefbjnbmdhakaa", sum := "f20e1c9520450253d16352e53defadffb76d3b8158d2847f739be9fcf85cbc73", func := "curvet/curvetlaw17.WindowBack", spec := "windowBack", apart := false, narrowed := true }
def WindowBackUptoSaid : Prop := windowBackUptoRow.holds Try.pinned (OpenSpec.upto windowBackSpec)

/-- 'curvetlaw17.WindowWidths', WHERE WHAT IT READS IS OF BULK AT MOST 1048576: true; the input reads as it did. -/
def windowWidthsUptoRow : OpenClaim := { program := "ytgefbjnbmdhakaa", sum := "f20e1c9520450253d16352e53defadffb76d3b8158d2847f739be9fcf85cbc73", func := "curvet/curvetlaw17.WindowWidths", spec := "windowWidths", apart := false, narrowed := true }
def WindowWidthsUptoSaid : Prop := windowWidthsUptoRow.holds Try.pinned (OpenSpec.upto windowWidthsSpec)

/-- 'curvetlaw17.WindowOnes', WHERE WHAT IT READS IS OF BULK AT MOST 1048576: true; the input reads as it did. -/
def windowOnesUptoRow : OpenClaim := { program := "ytgefbjnbmdhakaa", sum := "f20e1c9520450253d16352e53defadffb76d3b8158d2847f739be9fcf85cbc73", func := "curvet/curvetlaw17.WindowOnes", spec := "windowOnes", apart := false, narrowed := true }
def WindowOnesUptoSaid : Prop := windowOnesUptoRow.holds Try.pinned (OpenSpec.upto windowOnesSpec)

/-- 'curvetlaw17.WindowShifts', WHERE WHAT IT READS IS OF BULK AT MOST 1048576: true; the input reads as it did. -/
def windowShiftsUptoRow : OpenClaim := { program := "ytgefbjnbmdhakaa", sum := "f20e1c9520450253d16352e53defadffb76d3b8158d2847f739be9fcf85cbc73", func := "curvet/curvetlaw17.WindowShifts", spec := "windowShifts", inPlace := ["math/bits.Add64"], apart := false, narrowed := true }
def WindowShiftsUptoSaid : Prop := windowShiftsUptoRow.holds Try.pinned (OpenSpec.upto windowShiftsSpec)

end Rows
end Go.Proofs.Ytgefbjnbmdhakaa
