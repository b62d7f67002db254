/-
  No cell of these rows narrows 'for every input' (looked for: loops, veiled, ifaces, maps, wideKeys, modest, calm, conditions, laid).
  DERIVED. THE GIVEN ROWS OF THIS SEAT. 9 by the template 'for every input the law returns true; each argument reads behind the call as it read before'; 0 by the template 'total and deterministic' (their statements: YtbbgobliklljjaaTotals.lean).
  GIVEN WITH THE SEED: the statements are not yours to turn. If you find one false, say at which input.
  Laid BY PROGRAM, IN A SANDBOX (cutbox-rows.mjs): the forced cells as the released guide's own fill.sh prints them over the translation 65f1e8b93515626d… (all of the seat's roots in one cut). By AI agents, Wed Nov 11 2026. No macro, syntax, notation, axiom, sorry.
-/
import Derived.Test.YtbbgobliklljjaaChecked
import GoSem.Claim
import GoSem.ClaimJoined
import GoSem.ClaimMapViews
import Derived.JoinedTies
import Derived.KernelRfl
namespace Go.Proofs.Ytbbgobliklljjaa
/- THE CELL 'sum', in the pinned program and in every row, IS THE sha256 OF THE DUMP (.gsa) THAT YtbbgobliklljjaaProg.lean LOADS. Nothing in Lean hashes anything: it is a label: what it is worth is what the hold of that sum in a sandbox is worth. -/
noncomputable def Try.pinned : Pinned := { name := "ytbbgobliklljjaa", sum := "65f1e8b93515626df6a2d695c781070eb5731d387ec3868d0f8cb8304a04d9b9", checked := Try.checked }
namespace Rows
def none {H : Type} : Left H := { results := [], args := [] }

/-- 'curvetlaw4.DividePowers': WHATEVER THE INPUT: true; the input reads as it did. -/
def dividePowersSpec : ChangeSpec := { name := "dividePowers", fn := fun _ => fun
  | [d1, d2, d3] => { results := [.lit (.bool true)], args := [d1, d2, d3] }
  | _ => none }
def dividePowersRow : OpenClaim := { program := "ytbbgobliklljjaa", sum := "65f1e8b93515626df6a2d695c781070eb5731d387ec3868d0f8cb8304a04d9b9", func := "curvet/curvetlaw4.DividePowers", spec := "dividePowers", inPlace := ["math/bits.Add64", "math/bits.Sub64"], named := ["math/bits.divideError", "math/bits.overflowError"], apart := false }
def DividePowersSaid : Prop := dividePowersRow.holds Try.pinned (OpenSpec.ofChange dividePowersSpec)

/-- ITS FALSE NEIGHBOUR: 'it returns false'. Refute it at one input. -/
def dividePowersWrong : ChangeSpec := { name := "dividePowers", fn := fun _ => fun
  | [d1, d2, d3] => { results := [.lit (.bool false)], args := [d1, d2, d3] }
  | _ => none }
def DividePowersWrongFalsely : Prop := dividePowersRow.holds Try.pinned (OpenSpec.ofChange dividePowersWrong)

/-- 'curvetlaw4.DivideSums': WHATEVER THE INPUT: true; the input reads as it did. -/
def divideSumsSpec : ChangeSpec := { name := "divideSums", fn := fun _ => fun
  | [d1, d2, d3] => { results := [.lit (.bool true)], args := [d1, d2, d3] }
  | _ => none }
def divideSumsRow : OpenClaim := { program := "ytbbgobliklljjaa", sum := "65f1e8b93515626df6a2d695c781070eb5731d387ec3868d0f8cb8304a04d9b9", func := "curvet/curvetlaw4.DivideSums", spec := "divideSums", inPlace := ["math/bits.Add64", "math/bits.Sub64"], named := ["math/bits.divideError", "math/bits.overflowError"], apart := false }
def DivideSumsSaid : Prop := divideSumsRow.holds Try.pinned (OpenSpec.ofChange divideSumsSpec)

/-- ITS FALSE NEIGHBOUR: 'it returns false'. Refute it at one input. -/
def divideSumsWrong : ChangeSpec := { name := "divideSums", fn := fun _ => fun
  | [d1, d2, d3] => { results := [.lit (.bool false)], args := [d1, d2, d3] }
  | _ => none }
def DivideSumsWrongFalsely : Prop := divideSumsRow.holds Try.pinned (OpenSpec.ofChange divideSumsWrong)

/-- 'curvetlaw4.DivideExponents': WHATEVER THE INPUT: true; the input reads as it did. -/
def divideExponentsSpec : ChangeSpec := { name := "divideExponents", fn := fun _ => fun
  | [d1, d2, d3, d4] => { results := [.lit (.bool true)], args := [d1, d2, d3, d4] }
  | _ => none }
def divideExponentsRow : OpenClaim := { program := "ytbbgobliklljjaa", sum := "65f1e8b93515626df6a2d695c781070eb5731d387ec3868d0f8cb8304a04d9b9", func := "curvet/curvetlaw4.DivideExponents", spec := "divideExponents", inPlace := ["math/bits.Add64", "math/bits.Sub64"], named := ["math/bits.divideError", "math/bits.overflowError"], apart := false }
def DivideExponentsSaid : Prop := divideExponentsRow.holds Try.pinned (OpenSpec.ofChange divideExponentsSpec)

/-- ITS FALSE NEIGHBOUR: 'it returns false'. Refute it at one input. -/
def divideExponentsWrong : ChangeSpec := { name := "divideExponents", fn := fun _ => fun
  | [d1, d2, d3, d4] => { results := [.lit (.bool false)], args := [d1, d2, d3, d4] }
  | _ => none }
def DivideExponentsWrongFalsely : Prop := divideExponentsRow.holds Try.pinned (OpenSpec.ofChange divideExponentsWrong)

/-- 'curvetlaw4.DivideTimes': WHATEVER THE INPUT: true; the input reads as it did. -/
def divideTimesSpec : ChangeSpec := { name := "divideTimes", fn := fun _ => fun
  | [d1, d2, d3, d4] => { results := [.lit (.bool true)], args := [d1, d2, d3, d4] }
  | _ => none }
def divideTimesRow : OpenClaim := { program := "ytbbgobliklljjaa", sum := "65f1e8b93515626df6a2d695c781070eb5731d387ec3868d0f8cb8304a04d9b9", func := "curvet/curvetlaw4.DivideTimes", spec := "divideTimes", inPlace := ["math/bits.Add64", "math/bits.Sub64"], named := ["math/bits.divideError", "math/bits.overflowError"], apart := false }
def DivideTimesSaid : Prop := divideTimesRow.holds Try.pinned (OpenSpec.ofChange divideTimesSpec)

/-- ITS FALSE NEIGHBOUR: 'it returns false'. Refute it at one input. -/
def divideTimesWrong : ChangeSpec := { name := "divideTimes", fn := fun _ => fun
  | [d1, d2, d3, d4] => { results := [.lit (.bool false)], args := [d1, d2, d3, d4] }
  | _ => none }
def DivideTimesWrongFalsely : Prop := divideTimesRow.holds Try.pinned (OpenSpec.ofChange divideTimesWrong)

/-- 'curvetlaw4.DivideBack': WHATEVER THE INPUT: true; the input reads as it did. -/
def divideBackSpec : ChangeSpec := { name := "divideBack", fn := fun _ => fun
  | [d1, d2] => { results := [.lit (.bool true)], args := [d1, d2] }
  | _ => none }
def divideBackRow : OpenClaim := { program := "ytbbgobliklljjaa", sum := "65f1e8b93515626df6a2d695c781070eb5731d387ec3868d0f8cb8304a04d9b9", func := "curvet/curvetlaw4.DivideBack", spec := "divideBack", inPlace := ["math/bits.Add64", "math/bits.Sub64"], named := ["math/bits.divideError", "math/bits.overflowError"], apart := false }
def DivideBackSaid : Prop := divideBackRow.holds Try.pinned (OpenSpec.ofChange divideBackSpec)

/-- ITS FALSE NEIGHBOUR: 'it returns false'. Refute it at one input. -/
def divideBackWrong : ChangeSpec := { name := "divideBack", fn := fun _ => fun
  | [d1, d2] => { results := [.lit (.bool false)], args := [d1, d2] }
  | _ => none }
def DivideBackWrongFalsely : Prop := divideBackRow.holds Try.pinned (OpenSpec.ofChange divideBackWrong)

/-- 'curvetlaw4.DivideSmall': WHATEVER THE INPUT: true; the input reads as it did. -/
def divideSmallSpec : ChangeSpec := { name := "divideSmall", fn := fun _ => fun
  | [d1, d2] => { results := [.lit (.bool true)], args := [d1, d2] }
  | _ => none }
def divideSmallRow : OpenClaim := { program := "ytbbgobliklljjaa", sum := "65f1e8b93515626df6a2d695c781070eb5731d387ec3868d0f8cb8304a04d9b9", func := "curvet/curvetlaw4.DivideSmall", spec := "divideSmall", inPlace := ["math/bits.Add64", "math/bits.Sub64"], named := ["math/bits.divideError", "math/bits.overflowError"], apart := false }
def DivideSmallSaid : Prop := divideSmallRow.holds Try.pinned (OpenSpec.ofChange divideSmallSpec)

/-- ITS FALSE NEIGHBOUR: 'it returns false'. Refute it at one input. -/
def divideSmallWrong : ChangeSpec := { name := "divideSmall", fn := fun _ => fun
  | [d1, d2] => { results := [.lit (.bool false)], args := [d1, d2] }
  | _ => none }
def DivideSmallWrongFalsely : Prop := divideSmallRow.holds Try.pinned (OpenSpec.ofChange divideSmallWrong)

/-- 'curvetlaw4.Divides': WHATEVER THE INPUT: true; the input reads as it did. -/
def dividesSpec : ChangeSpec := { name := "divides", fn := fun _ => fun
  | [d1, d2, d3, d4] => { results := [.lit (.bool true)], args := [d1, d2, d3, d4] }
  | _ => none }
def dividesRow : OpenClaim := { program := "ytbbgobliklljjaa", sum := "65f1e8b93515626df6a2d695c781070eb5731d387ec3868d0f8cb8304a04d9b9", func := "curvet/curvetlaw4.Divides", spec := "divides", inPlace := ["math/bits.Add64", "math/bits.Sub64"], named := ["math/bits.divideError", "math/bits.overflowError"], apart := false }
def DividesSaid : Prop := dividesRow.holds Try.pinned (OpenSpec.ofChange dividesSpec)

/-- ITS FALSE NEIGHBOUR: 'it returns false'. Refute it at one input. -/
def dividesWrong : ChangeSpec := { name := "divides", fn := fun _ => fun
  | [d1, d2, d3, d4] => { results := [.lit (.bool false)], args := [d1, d2, d3, d4] }
  | _ => none }
def DividesWrongFalsely : Prop := dividesRow.holds Try.pinned (OpenSpec.ofChange dividesWrong)

/-- 'curvetlaw4.DivideInverse': WHATEVER THE INPUT: true; the input reads as it did. -/
def divideInverseSpec : ChangeSpec := { name := "divideInverse", fn := fun _ => fun
  | [d1, d2, d3] => { results := [.lit (.bool true)], args := [d1, d2, d3] }
  | _ => none }
def divideInverseRow : OpenClaim := { program := "ytbbgobliklljjaa", sum := "65f1e8b93515626df6a2d695c781070eb5731d387ec3868d0f8cb8304a04d9b9", func := "curvet/curvetlaw4.DivideInverse", spec := "divideInverse", inPlace := ["math/bits.Add64", "math/bits.Sub64"], named := ["math/bits.divideError", "math/bits.overflowError"], apart := false }
def DivideInverseSaid : Prop := divideInverseRow.holds Try.pinned (OpenSpec.ofChange divideInverseSpec)

/-- ITS FALSE NEIGHBOUR: 'it returns false'. Refute it at one input. -/
def divideInverseWrong : ChangeSpec := { name := "divideInverse", fn := fun _ => fun
  | [d1, d2, d3] => { results := [.lit (.bool false)], args := [d1, d2, d3] }
  | _ => none }
def DivideInverseWrongFalsely : Prop := divideInverseRow.holds Try.pinned (OpenSpec.ofChange divideInverseWrong)

/-- 'curvetlaw4.DivideWide': WHATEVER THE INPUT: true; the input reads as it did. -/
def divideWideSpec : ChangeSpec := { name := "divideWide", fn := fun _ => fun
  | [d1, d2, d3] => { results := [.lit (.bool true)], args := [d1, d2, d3] }
  | _ => none }
def divideWideRow : OpenClaim := { program := "ytbbgobliklljjaa", sum := "65f1e8b93515626df6a2d695c781070eb5731d387ec3868d0f8cb8304a04d9b9", func := "curvet/curvetlaw4.DivideWide", spec := "divideWide", inPlace := ["math/bits.Add64", "math/bits.Sub64"], named := ["math/bits.divideError", "math/bits.overflowError"], apart := false }
def DivideWideSaid : Prop := divideWideRow.holds Try.pinned (OpenSpec.ofChange divideWideSpec)

/-- ITS FALSE NEIGHBOUR: 'it returns false'. Refute it at one input. -/
def divideWideWrong : ChangeSpec := { name := "divideWide", fn := fun _ => fun
  | [d1, d2, d3] => { results := [.lit (.bool false)], args := [d1, d2, d3] }
  | _ => none }
def DivideWideWrongFalsely : Prop := divideWideRow.holds Try.pinned (OpenSpec.ofChange divideWideWrong)

/- THE SECOND FORM. 'bulk': how many values and letters a reading holds, each counted each time it is reached (what is shared counts as often as it is met; a slice's spare places count too). A statement '..UptoSaid' is the law's where the arguments, and the package variables that the reading takes, are together of bulk at most 1048576: NARROWER than '..Said'. Prove '..Said' where nothing that the law and all that it calls make is longer than what came in: it says more and counts as full. Else prove '..UptoSaid'. A law counts once. -/
mutual
def uptoBulk {H : Type} : DataW H → Nat
  | .lit (.string bytes) => bytes.length + 1
  | .lit _ => 1
  | .nil => 1
  | .ptr d => uptoBulk d + 1
  | .slice elems spare => uptoBulkAll elems + uptoBulkAll spare + 1
  | .agg parts => uptoBulkAll parts + 1
  | .iface _ d => uptoBulk d + 1
  | .map entries => uptoBulkEntries entries + 1
  | .held _ => 1
def uptoBulkAll {H : Type} : List (DataW H) → Nat
  | [] => 0
  | d :: r => uptoBulk d + uptoBulkAll r
def uptoBulkEntries {H : Type} : List (Lit × DataW H) → Nat
  | [] => 0
  | x :: r => uptoBulkEntry x + uptoBulkEntries r
def uptoBulkEntry {H : Type} : Lit × DataW H → Nat
  | (.string bytes, d) => bytes.length + uptoBulk d + 1
  | (_, d) => uptoBulk d + 1
 end
def uptoSmall : (H : Type) → List (DataW H) → Bool := fun _ ds => decide (uptoBulkAll ds ≤ 1048576)
def OpenSpec.upto (s : _root_.Go.ChangeSpec) : _root_.Go.OpenSpec := { _root_.Go.OpenSpec.ofChange s with cond := some uptoSmall }

/-- 'curvetlaw4.DividePowers', WHERE WHAT IT READS IS OF BULK AT MOST 1048576: true; the input reads as it did. -/
def dividePowersUptoRow : OpenClaim := { program := "ytbbgobliklljjaa", sum := "65f1e8b93515626df6a2d695c781070eb5731d387ec3868d0f8cb8304a04d9b9", func := "curvet/curvetlaw4.DividePowers", spec := "dividePowers", inPlace := ["math/bits.Add64", "math/bits.Sub64"], named := ["math/bits.divideError", "math/bits.overflowError"], apart := false, narrowed := true }
def DividePowersUptoSaid : Prop := dividePowersUptoRow.holds Try.pinned (OpenSpec.upto dividePowersSpec)

/-- 'curvetlaw4.DivideSums', WHERE WHAT IT READS IS OF BULK AT MOST 1048576: true; the input reads as it did. -/
def divideSumsUptoRow : OpenClaim := { program := "ytbbgobliklljjaa", sum := "65f1e8b93515626df6a2d695c781070eb5731d387ec3868d0f8cb8304a04d9b9", func := "curvet/curvetlaw4.DivideSums", spec := "divideSums", inPlace := ["math/bits.Add64", "math/bits.Sub64"], named := ["math/bits.divideError", "math/bits.overflowError"], apart := false, narrowed := true }
def DivideSumsUptoSaid : Prop := divideSumsUptoRow.holds Try.pinned (OpenSpec.upto divideSumsSpec)

/-- 'curvetlaw4.DivideExponents', WHERE WHAT IT READS IS OF BULK AT MOST 1048576: true; the input reads as it did. -/
def divideExponentsUptoRow : OpenClaim := { program := "ytbbgobliklljjaa", sum := "65f1e8b93515626df6a2d695c781070eb5731d387ec3868d0f8cb8304a04d9b9", func := "curvet/curvetlaw4.DivideExponents", spec := "divideExponents", inPlace := ["math/bits.Add64", "math/bits.Sub64"], named := ["math/bits.divideError", "math/bits.overflowError"], apart := false, narrowed := true }
def DivideExponentsUptoSaid : Prop := divideExponentsUptoRow.holds Try.pinned (OpenSpec.upto divideExponentsSpec)

/-- 'curvetlaw4.DivideTimes', WHERE WHAT IT READS IS OF BULK AT MOST 1048576: true; the input reads as it did. -/
def divideTimesUptoRow : OpenClaim := { program := "ytbbgobliklljjaa", sum := "65f1e8b93515626df6a2d695c781070eb5731d387ec3868d0f8cb8304a04d9b9", func := "curvet/curvetlaw4.DivideTimes", spec := "divideTimes", inPlace := ["math/bits.Add64", "math/bits.Sub64"], named := ["math/bits.divideError", "math/bits.overflowError"], apart := false, narrowed := true }
def DivideTimesUptoSaid : Prop := divideTimesUptoRow.holds Try.pinned (OpenSpec.upto divideTimesSpec)

/-- 'curvetlaw4.DivideBack', WHERE WHAT IT READS IS OF BULK AT MOST 1048576: true; the input reads as it did. -/
def divideBackUptoRow : OpenClaim := { program := "ytbbgobliklljjaa", sum := "65f1e8b93515626df6a2d695c781070eb5731d387ec3868d0f8cb8304a04d9b9", func := "curvet/curvetlaw4.DivideBack", spec := "divideBack", inPlace := ["math/bits.Add64", "math/bits.Sub64"], named := ["math/bits.divideError", "math/bits.overflowError"], apart := false, narrowed := true }
def DivideBackUptoSaid : Prop := divideBackUptoRow.holds Try.pinned (OpenSpec.upto divideBackSpec)

/-- 'curvetlaw4.DivideSmall', WHERE WHAT IT READS IS OF BULK AT MOST 1048576: true; the input reads as it did. -/
def divideSmallUptoRow : OpenClaim := { program := "ytbbgobliklljjaa", sum := "65f1e8b93515626df6a2d695c781070eb5731d387ec3868d0f8cb8304a04d9b9", func := "curvet/curvetlaw4.DivideSmall", spec := "divideSmall", inPlace := ["math/bits.Add64", "math/bits.Sub64"], named := ["math/bits.divideError", "math/bits.overflowError"], apart := false, narrowed := true }
def DivideSmallUptoSaid : Prop := divideSmallUptoRow.holds Try.pinned (OpenSpec.upto divideSmallSpec)

/-- 'curvetlaw4.Divides', WHERE WHAT IT READS IS OF BULK AT MOST 1048576: true; the input reads as it did. -/
def dividesUptoRow : OpenClaim := { program := "ytbbgobliklljjaa", sum := "65f1e8b93515626df6a2d695c781070eb5731d387ec3868d0f8cb8304a04d9b9", func := "curvet/curvetlaw4.Divides", spec := "divides", inPlace := ["math/bits.Add64", "math/bits.Sub64"], named := ["math/bits.divideError", "math/bits.overflowError"], apart := false, narrowed := true }
def DividesUptoSaid : Prop := dividesUptoRow.holds Try.pinned (OpenSpec.upto dividesSpec)

/-- 'curvetlaw4.DivideInverse', WHERE WHAT IT READS IS OF BULK AT MOST 1048576: true; the input reads as it did. -/
def divideInverseUptoRow : OpenClaim := { program := "ytbbgobliklljjaa", sum := "65f1e8b93515626df6a2d695c781070eb5731d387ec3868d0f8cb8304a04d9b9", func := "curvet/curvetlaw4.DivideInverse", spec := "divideInverse", inPlace := ["math/bits.Add64", "math/bits.Sub64"], named := ["math/bits.divideError", "math/bits.overflowError"], apart := false, narrowed := true }
def DivideInverseUptoSaid : Prop := divideInverseUptoRow.holds Try.pinned (OpenSpec.upto divideInverseSpec)

/-- 'curvetlaw4.DivideWide', WHERE WHAT IT READS IS OF BULK AT MOST 1048576: true; the input reads as it did. -/
def divideWideUptoRow : OpenClaim := { program := "ytbbgobliklljjaa", sum := "65f1e8b93515626df6a2d695c781070eb5731d387ec3868d0f8cb8304a04d9b9", func := "curvet/curvetlaw4.DivideWide", spec := "divideWide", inPlace := ["math/bits.Add64", "math/bits.Sub64"], named := ["math/bits.divideError", "math/bits.overflowError"], apart := false, narrowed := true }
def DivideWideUptoSaid : Prop := divideWideUptoRow.holds Try.pinned (OpenSpec.upto divideWideSpec)

end Rows
end Go.Proofs.Ytbbgobliklljjaa
