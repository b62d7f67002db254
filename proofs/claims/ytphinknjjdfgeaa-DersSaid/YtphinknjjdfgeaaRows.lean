/-
  No cell of these rows narrows 'for every input' (looked for: loops, veiled, ifaces, maps, wideKeys, modest, calm, conditions, laid).
  DERIVED. THE GIVEN ROWS OF THIS SEAT. 6 by the template 'for every input the law returns true; each argument reads behind the call as it read before'; 0 by the template 'total and deterministic' (their statements: YtphinknjjdfgeaaTotals.lean).
  GIVEN WITH THE SEED: the statements are not yours to turn. If you find one false, say at which input.
  Laid BY PROGRAM, IN A SANDBOX (cutbox-rows.mjs): the forced cells as the released guide's own fill.sh prints them over the translation ee6e687df1d03ed5… (all of the seat's roots in one cut). By AI agents, Wed Nov 11 2026. No macro, syntax, notation, axiom, sorry.
-/
import Derived.Test.YtphinknjjdfgeaaChecked
import GoSem.Claim
import GoSem.ClaimJoined
import GoSem.ClaimMapViews
import Derived.JoinedTies
import Derived.KernelRfl
namespace Go.Proofs.Ytphinknjjdfgeaa
/- THE CELL 'sum', in the pinned program and in every row, IS THE sha256 OF THE DUMP (.gsa) THAT YtphinknjjdfgeaaProg.lean LOADS. Nothing in Lean hashes anything: it is a label: what it is worth is what the hold of that sum in a sandbox is worth. -/
noncomputable def Try.pinned : Pinned := { name := "ytphinknjjdfgeaa", sum := "ee6e687df1d03ed5f6512d27fa3f03ebb7bd0805f35253695e04791f1e8d000a", checked := Try.checked }
namespace Rows
def none {H : Type} : Left H := { results := [], args := [] }

/-- 'curvetlaw22.Ders': WHATEVER THE INPUT: true; the input reads as it did. -/
def dersSpec : ChangeSpec := { name := "ders", fn := fun _ => fun
  | [d1, d2] => { results := [.lit (.bool true)], args := [d1, d2] }
  | _ => none }
def dersRow : OpenClaim := { program := "ytphinknjjdfgeaa", sum := "ee6e687df1d03ed5f6512d27fa3f03ebb7bd0805f35253695e04791f1e8d000a", func := "curvet/curvetlaw22.Ders", spec := "ders", apart := false }
def DersSaid : Prop := dersRow.holds Try.pinned (OpenSpec.ofChange dersSpec)

/-- ITS FALSE NEIGHBOUR: 'it returns false'. Refute it at one input. -/
def dersWrong : ChangeSpec := { name := "ders", fn := fun _ => fun
  | [d1, d2] => { results := [.lit (.bool false)], args := [d1, d2] }
  | _ => none }
def DersWrongFalsely : Prop := dersRow.holds Try.pinned (OpenSpec.ofChange dersWrong)

/-- 'curvetlaw22.DerBack': WHATEVER THE INPUT: true; the input reads as it did. -/
def derBackSpec : ChangeSpec := { name := "derBack", fn := fun _ => fun
  | [d1, d2] => { results := [.lit (.bool true)], args := [d1, d2] }
  | _ => none }
def derBackRow : OpenClaim := { program := "ytphinknjjdfgeaa", sum := "ee6e687df1d03ed5f6512d27fa3f03ebb7bd0805f35253695e04791f1e8d000a", func := "curvet/curvetlaw22.DerBack", spec := "derBack", apart := false }
def DerBackSaid : Prop := derBackRow.holds Try.pinned (OpenSpec.ofChange derBackSpec)

/-- ITS FALSE NEIGHBOUR: 'it returns false'. Refute it at one input. -/
def derBackWrong : ChangeSpec := { name := "derBack", fn := fun _ => fun
  | [d1, d2] => { results := [.lit (.bool false)], args := [d1, d2] }
  | _ => none }
def DerBackWrongFalsely : Prop := derBackRow.holds Try.pinned (OpenSpec.ofChange derBackWrong)

/-- 'curvetlaw22.DerSpoilt': WHATEVER THE INPUT: true; the input reads as it did. -/
def derSpoiltSpec : ChangeSpec := { name := "derSpoilt", fn := fun _ => fun
  | [d1, d2, d3] => { results := [.lit (.bool true)], args := [d1, d2, d3] }
  | _ => none }
def derSpoiltRow : OpenClaim := { program := "ytphinknjjdfgeaa", sum := "ee6e687df1d03ed5f6512d27fa3f03ebb7bd0805f35253695e04791f1e8d000a", func := "curvet/curvetlaw22.DerSpoilt", spec := "derSpoilt", apart := false }
def DerSpoiltSaid : Prop := derSpoiltRow.holds Try.pinned (OpenSpec.ofChange derSpoiltSpec)

/-- ITS FALSE NEIGHBOUR: 'it returns false'. Refute it at one input. -/
def derSpoiltWrong : ChangeSpec := { name := "derSpoilt", fn := fun _ => fun
  | [d1, d2, d3] => { results := [.lit (.bool false)], args := [d1, d2, d3] }
  | _ => none }
def DerSpoiltWrongFalsely : Prop := derSpoiltRow.holds Try.pinned (OpenSpec.ofChange derSpoiltWrong)

/-- 'curvetlaw22.DerLengths': WHATEVER THE INPUT: true; the input reads as it did. -/
def derLengthsSpec : ChangeSpec := { name := "derLengths", fn := fun _ => fun
  | [d] => { results := [.lit (.bool true)], args := [d] }
  | _ => none }
def derLengthsRow : OpenClaim := { program := "ytphinknjjdfgeaa", sum := "ee6e687df1d03ed5f6512d27fa3f03ebb7bd0805f35253695e04791f1e8d000a", func := "curvet/curvetlaw22.DerLengths", spec := "derLengths", apart := false }
def DerLengthsSaid : Prop := derLengthsRow.holds Try.pinned (OpenSpec.ofChange derLengthsSpec)

/-- ITS FALSE NEIGHBOUR: 'it returns false'. Refute it at one input. -/
def derLengthsWrong : ChangeSpec := { name := "derLengths", fn := fun _ => fun
  | [d] => { results := [.lit (.bool false)], args := [d] }
  | _ => none }
def DerLengthsWrongFalsely : Prop := derLengthsRow.holds Try.pinned (OpenSpec.ofChange derLengthsWrong)

/-- 'curvetlaw22.DerLoose': WHATEVER THE INPUT: true; the input reads as it did. -/
def derLooseSpec : ChangeSpec := { name := "derLoose", fn := fun _ => fun
  | [d1, d2, d3] => { results := [.lit (.bool true)], args := [d1, d2, d3] }
  | _ => none }
def derLooseRow : OpenClaim := { program := "ytphinknjjdfgeaa", sum := "ee6e687df1d03ed5f6512d27fa3f03ebb7bd0805f35253695e04791f1e8d000a", func := "curvet/curvetlaw22.DerLoose", spec := "derLoose", apart := false }
def DerLooseSaid : Prop := derLooseRow.holds Try.pinned (OpenSpec.ofChange derLooseSpec)

/-- ITS FALSE NEIGHBOUR: 'it returns false'. Refute it at one input. -/
def derLooseWrong : ChangeSpec := { name := "derLoose", fn := fun _ => fun
  | [d1, d2, d3] => { results := [.lit (.bool false)], args := [d1, d2, d3] }
  | _ => none }
def DerLooseWrongFalsely : Prop := derLooseRow.holds Try.pinned (OpenSpec.ofChange derLooseWrong)

/-- 'curvetlaw22.DerGreat': WHATEVER THE INPUT: true; the input reads as it did. -/
def derGreatSpec : ChangeSpec := { name := "derGreat", fn := fun _ => fun
  | [d1, d2, d3] => { results := [.lit (.bool true)], args := [d1, d2, d3] }
  | _ => none }
def derGreatRow : OpenClaim := { program := "ytphinknjjdfgeaa", sum := "ee6e687df1d03ed5f6512d27fa3f03ebb7bd0805f35253695e04791f1e8d000a", func := "curvet/curvetlaw22.DerGreat", spec := "derGreat", apart := false }
def DerGreatSaid : Prop := derGreatRow.holds Try.pinned (OpenSpec.ofChange derGreatSpec)

/-- ITS FALSE NEIGHBOUR: 'it returns false'. Refute it at one input. -/
def derGreatWrong : ChangeSpec := { name := "derGreat", fn := fun _ => fun
  | [d1, d2, d3] => { results := [.lit (.bool false)], args := [d1, d2, d3] }
  | _ => none }
def DerGreatWrongFalsely : Prop := derGreatRow.holds Try.pinned (OpenSpec.ofChange derGreatWrong)

/- THE SECOND FORM. 'bulk': how many values and letters a reading holds, each counted each time it is reached (what is shared counts as often as it is met; a slice's spare places count too). A statement '..UptoSaid' is the law's where the arguments, and the package variables that the reading takes, are together of bulk at most 1048576: NARROWER than '..Said'. Prove '..Said' where nothing that the law and all that it calls make is longer than what came in: it says more and counts as full. Else prove '..UptoSaid'. A law counts once. -/
mutual
def uptoBulk {H : Type} : DataW H → Nat
  | .lit (.string bytes) => bytes.length + 1
  | .lit _ => 1
  | .nil => 1
  | .ptr d => uptoBulk d + 1
  | .slice elems spare => uptoBulkAll elems + uptoBulkAll spare + 1
  | .agg parts => uptoBulkAll parts + 1
  | .iface _ d => uptoBulk d + 1
  | .map entries => uptoBulkEntries entries + 1
  | .held _ => 1
def uptoBulkAll {H : Type} : List (DataW H) → Nat
  | [] => 0
  | d :: r => uptoBulk d + uptoBulkAll r
def uptoBulkEntries {H : Type} : List (Lit × DataW H) → Nat
  | [] => 0
  | x :: r => uptoBulkEntry x + uptoBulkEntries r
def uptoBulkEntry {H : Type} : Lit × DataW H → Nat
  | (.string bytes, d) => bytes.length + uptoBulk d + 1
  | (_, d) => uptoBulk d + 1
 end
def uptoSmall : (H : Type) → List (DataW H) → Bool := fun _ ds => decide (uptoBulkAll ds ≤ 1048576)
def OpenSpec.upto (s : _root_.Go.ChangeSpec) : _root_.Go.OpenSpec := { _root_.Go.OpenSpec.ofChange s with cond := some uptoSmall }

/-- 'curvetlaw22.Ders', WHERE WHAT IT READS IS OF BULK AT MOST 1048576: true; the input reads as it did. -/
def dersUptoRow : OpenClaim := { program := "ytphinknjjdfgeaa", sum := "ee6e687df1d03ed5f6512d27fa3f03ebb7bd0805f35253695e04791f1e8d000a", func := "curvet/curvetlaw22.Ders", spec := "ders", apart := false, narrowed := true }
def DersUptoSaid : Prop := dersUptoRow.holds Try.pinned (OpenSpec.upto dersSpec)

/-- 'curvetlaw22.DerBack', WHERE WHAT IT READS IS OF BULK AT MOST 1048576: true; the input reads as it did. -/
def derBackUptoRow : OpenClaim := { program := "ytphinknjjdfgeaa", sum := "ee6e687df1d03ed5f6512d27fa3f03ebb7bd0805f35253695e04791f1e8d000a", func := "curvet/curvetlaw22.DerBack", spec := "derBack", apart := false, narrowed := true }
def DerBackUptoSaid : Prop := derBackUptoRow.holds Try.pinned (OpenSpec.upto derBackSpec)

/-- 'curvetlaw22.DerSpoilt', WHERE WHAT IT READS IS OF BULK AT MOST 1048576: true; the input reads as it did. -/
def derSpoiltUptoRow : OpenClaim := { program := "ytphinknjjdfgeaa", sum := "ee6e687df1d03ed5f6512d27fa3f03ebb7bd0805f35253695e04791f1e8d000a", func := "curvet/curvetlaw22.DerSpoilt", spec := "derSpoilt", apart := false, narrowed := true }
def DerSpoiltUptoSaid : Prop := derSpoiltUptoRow.holds Try.pinned (OpenSpec.upto derSpoiltSpec)

/-- 'curvetlaw22.DerLengths', WHERE WHAT IT READS IS OF BULK AT MOST 1048576: true; the input reads as it did. -/
def derLengthsUptoRow : OpenClaim := { program := "ytphinknjjdfgeaa", sum := "ee6e687df1d03ed5f6512d27fa3f03ebb7bd0805f35253695e04791f1e8d000a", func := "curvet/curvetlaw22.DerLengths", spec := "derLengths", apart := false, narrowed := true }
def DerLengthsUptoSaid : Prop := derLengthsUptoRow.holds Try.pinned (OpenSpec.upto derLengthsSpec)

/-- 'curvetlaw22.DerLoose', WHERE WHAT IT READS IS OF BULK AT MOST 1048576: true; the input reads as it did. -/
def derLooseUptoRow : OpenClaim := { program := "ytphinknjjdfgeaa", sum := "ee6e687df1d03ed5f6512d27fa3f03ebb7bd0805f35253695e04791f1e8d000a", func := "curvet/curvetlaw22.DerLoose", spec := "derLoose", apart := false, narrowed := true }
def DerLooseUptoSaid : Prop := derLooseUptoRow.holds Try.pinned (OpenSpec.upto derLooseSpec)

/-- 'curvetlaw22.DerGreat', WHERE WHAT IT READS IS OF BULK AT MOST 1048576: true; the input reads as it did. -/
def derGreatUptoRow : OpenClaim := { program := "ytphinknjjdfgeaa", sum := "ee6e687df1d03ed5f6512d27fa3f03ebb7bd0805f35253695e04791f1e8d000a", func := "curvet/curvetlaw22.DerGreat", spec := "derGreat", apart := false, narrowed := true }
def DerGreatUptoSaid : Prop := derGreatUptoRow.holds Try.pinned (OpenSpec.upto derGreatSpec)

end Rows
end Go.Proofs.Ytphinknjjdfgeaa
