/-
  No cell of these rows narrows 'for every input' (looked for: loops, veiled, ifaces, maps, wideKeys, modest, calm, conditions, laid).
  DERIVED. THE GIVEN ROWS OF THIS SEAT. 5 by the template 'for every input the law returns true; each argument reads behind the call as it read before'; 0 by the template 'total and deterministic' (their statements: YtgpmgccdenjadaaTotals.lean).
  GIVEN WITH THE SEED: the statements are not yours to turn. If you find one false, say at which input.
  Laid BY PROGRAM, IN A SANDBOX (cutbox-rows.mjs): the forced cells as the released guide's own fill.sh prints them over the translation 55119902c41f892f… (all of the seat's roots in one cut). By AI agents, Wed Nov 11 2026. No macro, syntax, notation, axiom, sorry.
-/
import Derived.Test.YtgpmgccdenjadaaChecked
import GoSem.Claim
import GoSem.ClaimJoined
import GoSem.ClaimMapViews
import Derived.JoinedTies
import Derived.KernelRfl
namespace Go.Proofs.Ytgpmgccdenjadaa
/- THE CELL 'sum', in the pinned program and in every row, IS THE sha256 OF THE DUMP (.gsa) THAT YtgpmgccdenjadaaProg.lean LOADS. Nothing in Lean hashes anything: it is a label: what it is worth is what the hold of that sum in a sandbox is worth. -/
noncomputable def Try.pinned : Pinned := { name := "ytgpmgccdenjadaa", sum := "55119902c41f892f1bf05ad6c74ef6e227fe6ebc2bf8009a7f8affe3bfc64b46", checked := Try.checked }
namespace Rows
def none {H : Type} : Left H := { results := [], args := [] }

/-- 'curvetlaw6.MontBack': WHATEVER THE INPUT: true; the input reads as it did. -/
def montBackSpec : ChangeSpec := { name := "montBack", fn := fun _ => fun
  | [d1, d2, d3] => { results := [.lit (.bool true)], args := [d1, d2, d3] }
  | _ => none }
def montBackRow : OpenClaim := { program := "ytgpmgccdenjadaa", sum := "55119902c41f892f1bf05ad6c74ef6e227fe6ebc2bf8009a7f8affe3bfc64b46", func := "curvet/curvetlaw6.MontBack", spec := "montBack", inPlace := ["math/bits.Add64", "math/bits.Sub64"], named := ["math/bits.divideError", "math/bits.overflowError"], apart := false }
def MontBackSaid : Prop := montBackRow.holds Try.pinned (OpenSpec.ofChange montBackSpec)

/-- ITS FALSE NEIGHBOUR: 'it returns false'. Refute it at one input. -/
def montBackWrong : ChangeSpec := { name := "montBack", fn := fun _ => fun
  | [d1, d2, d3] => { results := [.lit (.bool false)], args := [d1, d2, d3] }
  | _ => none }
def MontBackWrongFalsely : Prop := montBackRow.holds Try.pinned (OpenSpec.ofChange montBackWrong)

/-- 'curvetlaw6.MontTiny': WHATEVER THE INPUT: true; the input reads as it did. -/
def montTinySpec : ChangeSpec := { name := "montTiny", fn := fun _ => fun
  | [d1, d2, d3] => { results := [.lit (.bool true)], args := [d1, d2, d3] }
  | _ => none }
def montTinyRow : OpenClaim := { program := "ytgpmgccdenjadaa", sum := "55119902c41f892f1bf05ad6c74ef6e227fe6ebc2bf8009a7f8affe3bfc64b46", func := "curvet/curvetlaw6.MontTiny", spec := "montTiny", inPlace := ["math/bits.Add64", "math/bits.Sub64"], named := ["math/bits.divideError", "math/bits.overflowError"], apart := false }
def MontTinySaid : Prop := montTinyRow.holds Try.pinned (OpenSpec.ofChange montTinySpec)

/-- ITS FALSE NEIGHBOUR: 'it returns false'. Refute it at one input. -/
def montTinyWrong : ChangeSpec := { name := "montTiny", fn := fun _ => fun
  | [d1, d2, d3] => { results := [.lit (.bool false)], args := [d1, d2, d3] }
  | _ => none }
def MontTinyWrongFalsely : Prop := montTinyRow.holds Try.pinned (OpenSpec.ofChange montTinyWrong)

/-- 'curvetlaw6.MontShares': WHATEVER THE INPUT: true; the input reads as it did. -/
def montSharesSpec : ChangeSpec := { name := "montShares", fn := fun _ => fun
  | [d1, d2, d3, d4] => { results := [.lit (.bool true)], args := [d1, d2, d3, d4] }
  | _ => none }
def montSharesRow : OpenClaim := { program := "ytgpmgccdenjadaa", sum := "55119902c41f892f1bf05ad6c74ef6e227fe6ebc2bf8009a7f8affe3bfc64b46", func := "curvet/curvetlaw6.MontShares", spec := "montShares", inPlace := ["math/bits.Add64", "math/bits.Sub64"], named := ["math/bits.divideError", "math/bits.overflowError"], apart := false }
def MontSharesSaid : Prop := montSharesRow.holds Try.pinned (OpenSpec.ofChange montSharesSpec)

/-- ITS FALSE NEIGHBOUR: 'it returns false'. Refute it at one input. -/
def montSharesWrong : ChangeSpec := { name := "montShares", fn := fun _ => fun
  | [d1, d2, d3, d4] => { results := [.lit (.bool false)], args := [d1, d2, d3, d4] }
  | _ => none }
def MontSharesWrongFalsely : Prop := montSharesRow.holds Try.pinned (OpenSpec.ofChange montSharesWrong)

/-- 'curvetlaw6.Monts': WHATEVER THE INPUT: true; the input reads as it did. -/
def montsSpec : ChangeSpec := { name := "monts", fn := fun _ => fun
  | [d1, d2, d3] => { results := [.lit (.bool true)], args := [d1, d2, d3] }
  | _ => none }
def montsRow : OpenClaim := { program := "ytgpmgccdenjadaa", sum := "55119902c41f892f1bf05ad6c74ef6e227fe6ebc2bf8009a7f8affe3bfc64b46", func := "curvet/curvetlaw6.Monts", spec := "monts", inPlace := ["math/bits.Add64", "math/bits.Sub64"], named := ["math/bits.divideError", "math/bits.overflowError"], apart := false }
def MontsSaid : Prop := montsRow.holds Try.pinned (OpenSpec.ofChange montsSpec)

/-- ITS FALSE NEIGHBOUR: 'it returns false'. Refute it at one input. -/
def montsWrong : ChangeSpec := { name := "monts", fn := fun _ => fun
  | [d1, d2, d3] => { results := [.lit (.bool false)], args := [d1, d2, d3] }
  | _ => none }
def MontsWrongFalsely : Prop := montsRow.holds Try.pinned (OpenSpec.ofChange montsWrong)

/-- 'curvetlaw6.MontOnes': WHATEVER THE INPUT: true; the input reads as it did. -/
def montOnesSpec : ChangeSpec := { name := "montOnes", fn := fun _ => fun
  | [d1, d2] => { results := [.lit (.bool true)], args := [d1, d2] }
  | _ => none }
def montOnesRow : OpenClaim := { program := "ytgpmgccdenjadaa", sum := "55119902c41f892f1bf05ad6c74ef6e227fe6ebc2bf8009a7f8affe3bfc64b46", func := "curvet/curvetlaw6.MontOnes", spec := "montOnes", inPlace := ["math/bits.Add64", "math/bits.Sub64"], named := ["math/bits.divideError", "math/bits.overflowError"], apart := false }
def MontOnesSaid : Prop := montOnesRow.holds Try.pinned (OpenSpec.ofChange montOnesSpec)

/-- ITS FALSE NEIGHBOUR: 'it returns false'. Refute it at one input. -/
def montOnesWrong : ChangeSpec := { name := "montOnes", fn := fun _ => fun
  | [d1, d2] => { results := [.lit (.bool false)], args := [d1, d2] }
  | _ => none }
def MontOnesWrongFalsely : Prop := montOnesRow.holds Try.pinned (OpenSpec.ofChange montOnesWrong)

/- THE SECOND FORM. 'bulk': how many values and letters a reading holds, each counted each time it is reached (what is shared counts as often as it is met; a slice's spare places count too). A statement '..UptoSaid' is the law's where the arguments, and the package variables that the reading takes, are together of bulk at most 1048576: NARROWER than '..Said'. Prove '..Said' where nothing that the law and all that it calls make is longer than what came in: it says more and counts as full. Else prove '..UptoSaid'. A law counts once. -/
mutual
def uptoBulk {H : Type} : DataW H → Nat
  | .lit (.string bytes) => bytes.length + 1
  | .lit _ => 1
  | .nil => 1
  | .ptr d => uptoBulk d + 1
  | .slice elems spare => uptoBulkAll elems + uptoBulkAll spare + 1
  | .agg parts => uptoBulkAll parts + 1
  | .iface _ d => uptoBulk d + 1
  | .map entries => uptoBulkEntries entries + 1
  | .held _ => 1
def uptoBulkAll {H : Type} : List (DataW H) → Nat
  | [] => 0
  | d :: r => uptoBulk d + uptoBulkAll r
def uptoBulkEntries {H : Type} : List (Lit × DataW H) → Nat
  | [] => 0
  | x :: r => uptoBulkEntry x + uptoBulkEntries r
def uptoBulkEntry {H : Type} : Lit × DataW H → Nat
  | (.string bytes, d) => bytes.length + uptoBulk d + 1
  | (_, d) => uptoBulk d + 1
 end
def uptoSmall : (H : Type) → List (DataW H) → Bool := fun _ ds => decide (uptoBulkAll ds ≤ 1048576)
def OpenSpec.upto (s : _root_.Go.ChangeSpec) : _root_.Go.OpenSpec := { _root_.Go.OpenSpec.ofChange s with cond := some uptoSmall }

/-- 'curvetlaw6.MontBack', WHERE WHAT IT READS IS OF BULK AT MOST 1048576: true; the input reads as it did. -/
def montBackUptoRow : OpenClaim := { program := "ytgpmgccdenjadaa", sum := "55119902c41f892f1bf05ad6c74ef6e227fe6ebc2bf8009a7f8affe3bfc64b46", func := "curvet/curvetlaw6.MontBack", spec := "montBack", inPlace := ["math/bits.Add64", "math/bits.Sub64"], named := ["math/bits.divideError", "math/bits.overflowError"], apart := false, narrowed := true }
def MontBackUptoSaid : Prop := montBackUptoRow.holds Try.pinned (OpenSpec.upto montBackSpec)

/-- 'curvetlaw6.MontTiny', WHERE WHAT IT READS IS OF BULK AT MOST 1048576: true; the input reads as it did. -/
def montTinyUptoRow : OpenClaim := { program := "ytgpmgccdenjadaa", sum := "55119902c41f892f1bf05ad6c74ef6e227fe6ebc2bf8009a7f8affe3bfc64b46", func := "curvet/curvetlaw6.MontTiny", spec := "montTiny", inPlace := ["math/bits.Add64", "math/bits.Sub64"], named := ["math/bits.divideError", "math/bits.overflowError"], apart := false, narrowed := true }
def MontTinyUptoSaid : Prop := montTinyUptoRow.holds Try.pinned (OpenSpec.upto montTinySpec)

/-- 'curvetlaw6.MontShares', WHERE WHAT IT READS IS OF BULK AT MOST 1048576: true; the input reads as it did. -/
def montSharesUptoRow : OpenClaim := { program := "ytgpmgccdenjadaa", sum := "55119902c41f892f1bf05ad6c74ef6e227fe6ebc2bf8009a7f8affe3bfc64b46", func := "curvet/curvetlaw6.MontShares", spec := "montShares", inPlace := ["math/bits.Add64", "math/bits.Sub64"], named := ["math/bits.divideError", "math/bits.overflowError"], apart := false, narrowed := true }
def MontSharesUptoSaid : Prop := montSharesUptoRow.holds Try.pinned (OpenSpec.upto montSharesSpec)

/-- 'curvetlaw6.Monts', WHERE WHAT IT READS IS OF BULK AT MOST 1048576: true; the input reads as it did. -/
def montsUptoRow : OpenClaim := { program := "ytgpmgccdenjadaa", sum := "55119902c41f892f1bf05ad6c74ef6e227fe6ebc2bf8009a7f8affe3bfc64b46", func := "curvet/curvetlaw6.Monts", spec := "monts", inPlace := ["math/bits.Add64", "math/bits.Sub64"], named := ["math/bits.divideError", "math/bits.overflowError"], apart := false, narrowed := true }
def MontsUptoSaid : Prop := montsUptoRow.holds Try.pinned (OpenSpec.upto montsSpec)

/-- 'curvetlaw6.MontOnes', WHERE WHAT IT READS IS OF BULK AT MOST 1048576: true; the input reads as it did. -/
def montOnesUptoRow : OpenClaim := { program := "ytgpmgccdenjadaa", sum := "55119902c41f892f1bf05ad6c74ef6e227fe6ebc2bf8009a7f8affe3bfc64b46", func := "curvet/curvetlaw6.MontOnes", spec := "montOnes", inPlace := ["math/bits.Add64", "math/bits.Sub64"], named := ["math/bits.divideError", "math/bits.overflowError"], apart := false, narrowed := true }
def MontOnesUptoSaid : Prop := montOnesUptoRow.holds Try.pinned (OpenSpec.upto montOnesSpec)

end Rows
end Go.Proofs.Ytgpmgccdenjadaa
