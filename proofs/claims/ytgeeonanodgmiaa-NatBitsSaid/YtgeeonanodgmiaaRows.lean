/-
  No cell of these rows narrows 'for every input' (looked for: loops, veiled, ifaces, maps, wideKeys, modest, calm, conditions, laid).
  DERIVED. THE GIVEN ROWS OF THIS SEAT. 11 by the template 'for every input the law returns true; each argument reads behind the call as it read before'; 0 by the template 'total and deterministic' (their statements: YtgeeonanodgmiaaTotals.lean).
  GIVEN WITH THE SEED: the statements are not yours to turn. If you find one false, say at which input.
  Laid BY PROGRAM, IN A SANDBOX (cutbox-rows.mjs): the forced cells as the released guide's own fill.sh prints them over the translation 8bc7d8ccc373143a… (all of the seat's roots in one cut). By AI agents, Wed Nov 11 2026. No macro, syntax, notation, axiom, sorry.
-/
import Derived.Test.YtgeeonanodgmiaaChecked
import GoSem.Claim
import GoSem.ClaimJoined
import GoSem.ClaimMapViews
import Derived.JoinedTies
import Derived.KernelRfl
namespace Go.Proofs.Ytgeeonanodgmiaa
/- THE CELL 'sum', in the pinned program and in every row, IS THE sha256 OF THE DUMP (.gsa) THAT YtgeeonanodgmiaaProg.lean LOADS. Nothing in Lean hashes anything: it is a label: what it is worth is what the hold of that sum in a sandbox is worth. -/
noncomputable def Try.pinned : Pinned := { name := "ytgeeonanodgmiaa", sum := "8bc7d8ccc373143a0d13d048134eb164f41ef441c2497a4ee206ef27cd6cc6fa", checked := Try.checked }
namespace Rows
def none {H : Type} : Left H := { results := [], args := [] }

/-- 'curvetlaw1.NatBytes': WHATEVER THE INPUT: true; the input reads as it did. -/
def natBytesSpec : ChangeSpec := { name := "natBytes", fn := fun _ => fun
  | [d1, d2, d3] => { results := [.lit (.bool true)], args := [d1, d2, d3] }
  | _ => none }
def natBytesRow : OpenClaim := { program := "ytgeeonanodgmiaa", sum := "8bc7d8ccc373143a0d13d048134eb164f41ef441c2497a4ee206ef27cd6cc6fa", func := "curvet/curvetlaw1.NatBytes", spec := "natBytes", inPlace := ["math/bits.Add64", "math/bits.Sub64"], apart := false }
def NatBytesSaid : Prop := natBytesRow.holds Try.pinned (OpenSpec.ofChange natBytesSpec)

/-- ITS FALSE NEIGHBOUR: 'it returns false'. Refute it at one input. -/
def natBytesWrong : ChangeSpec := { name := "natBytes", fn := fun _ => fun
  | [d1, d2, d3] => { results := [.lit (.bool false)], args := [d1, d2, d3] }
  | _ => none }
def NatBytesWrongFalsely : Prop := natBytesRow.holds Try.pinned (OpenSpec.ofChange natBytesWrong)

/-- 'curvetlaw1.NatBack': WHATEVER THE INPUT: true; the input reads as it did. -/
def natBackSpec : ChangeSpec := { name := "natBack", fn := fun _ => fun
  | [d1, d2] => { results := [.lit (.bool true)], args := [d1, d2] }
  | _ => none }
def natBackRow : OpenClaim := { program := "ytgeeonanodgmiaa", sum := "8bc7d8ccc373143a0d13d048134eb164f41ef441c2497a4ee206ef27cd6cc6fa", func := "curvet/curvetlaw1.NatBack", spec := "natBack", inPlace := ["math/bits.Add64", "math/bits.Sub64"], apart := false }
def NatBackSaid : Prop := natBackRow.holds Try.pinned (OpenSpec.ofChange natBackSpec)

/-- ITS FALSE NEIGHBOUR: 'it returns false'. Refute it at one input. -/
def natBackWrong : ChangeSpec := { name := "natBack", fn := fun _ => fun
  | [d1, d2] => { results := [.lit (.bool false)], args := [d1, d2] }
  | _ => none }
def NatBackWrongFalsely : Prop := natBackRow.holds Try.pinned (OpenSpec.ofChange natBackWrong)

/-- 'curvetlaw1.NatShares': WHATEVER THE INPUT: true; the input reads as it did. -/
def natSharesSpec : ChangeSpec := { name := "natShares", fn := fun _ => fun
  | [d1, d2, d3] => { results := [.lit (.bool true)], args := [d1, d2, d3] }
  | _ => none }
def natSharesRow : OpenClaim := { program := "ytgeeonanodgmiaa", sum := "8bc7d8ccc373143a0d13d048134eb164f41ef441c2497a4ee206ef27cd6cc6fa", func := "curvet/curvetlaw1.NatShares", spec := "natShares", inPlace := ["math/bits.Add64", "math/bits.Sub64"], apart := false }
def NatSharesSaid : Prop := natSharesRow.holds Try.pinned (OpenSpec.ofChange natSharesSpec)

/-- ITS FALSE NEIGHBOUR: 'it returns false'. Refute it at one input. -/
def natSharesWrong : ChangeSpec := { name := "natShares", fn := fun _ => fun
  | [d1, d2, d3] => { results := [.lit (.bool false)], args := [d1, d2, d3] }
  | _ => none }
def NatSharesWrongFalsely : Prop := natSharesRow.holds Try.pinned (OpenSpec.ofChange natSharesWrong)

/-- 'curvetlaw1.NatEnds': WHATEVER THE INPUT: true; the input reads as it did. -/
def natEndsSpec : ChangeSpec := { name := "natEnds", fn := fun _ => fun
  | [d] => { results := [.lit (.bool true)], args := [d] }
  | _ => none }
def natEndsRow : OpenClaim := { program := "ytgeeonanodgmiaa", sum := "8bc7d8ccc373143a0d13d048134eb164f41ef441c2497a4ee206ef27cd6cc6fa", func := "curvet/curvetlaw1.NatEnds", spec := "natEnds", inPlace := ["math/bits.Add64", "math/bits.Sub64"], apart := false }
def NatEndsSaid : Prop := natEndsRow.holds Try.pinned (OpenSpec.ofChange natEndsSpec)

/-- ITS FALSE NEIGHBOUR: 'it returns false'. Refute it at one input. -/
def natEndsWrong : ChangeSpec := { name := "natEnds", fn := fun _ => fun
  | [d] => { results := [.lit (.bool false)], args := [d] }
  | _ => none }
def NatEndsWrongFalsely : Prop := natEndsRow.holds Try.pinned (OpenSpec.ofChange natEndsWrong)

/-- 'curvetlaw1.NatPowers': WHATEVER THE INPUT: true; the input reads as it did. -/
def natPowersSpec : ChangeSpec := { name := "natPowers", fn := fun _ => fun
  | [d1, d2] => { results := [.lit (.bool true)], args := [d1, d2] }
  | _ => none }
def natPowersRow : OpenClaim := { program := "ytgeeonanodgmiaa", sum := "8bc7d8ccc373143a0d13d048134eb164f41ef441c2497a4ee206ef27cd6cc6fa", func := "curvet/curvetlaw1.NatPowers", spec := "natPowers", inPlace := ["math/bits.Add64", "math/bits.Sub64"], apart := false }
def NatPowersSaid : Prop := natPowersRow.holds Try.pinned (OpenSpec.ofChange natPowersSpec)

/-- ITS FALSE NEIGHBOUR: 'it returns false'. Refute it at one input. -/
def natPowersWrong : ChangeSpec := { name := "natPowers", fn := fun _ => fun
  | [d1, d2] => { results := [.lit (.bool false)], args := [d1, d2] }
  | _ => none }
def NatPowersWrongFalsely : Prop := natPowersRow.holds Try.pinned (OpenSpec.ofChange natPowersWrong)

/-- 'curvetlaw1.NatSums': WHATEVER THE INPUT: true; the input reads as it did. -/
def natSumsSpec : ChangeSpec := { name := "natSums", fn := fun _ => fun
  | [d1, d2] => { results := [.lit (.bool true)], args := [d1, d2] }
  | _ => none }
def natSumsRow : OpenClaim := { program := "ytgeeonanodgmiaa", sum := "8bc7d8ccc373143a0d13d048134eb164f41ef441c2497a4ee206ef27cd6cc6fa", func := "curvet/curvetlaw1.NatSums", spec := "natSums", inPlace := ["math/bits.Add64", "math/bits.Sub64"], apart := false }
def NatSumsSaid : Prop := natSumsRow.holds Try.pinned (OpenSpec.ofChange natSumsSpec)

/-- ITS FALSE NEIGHBOUR: 'it returns false'. Refute it at one input. -/
def natSumsWrong : ChangeSpec := { name := "natSums", fn := fun _ => fun
  | [d1, d2] => { results := [.lit (.bool false)], args := [d1, d2] }
  | _ => none }
def NatSumsWrongFalsely : Prop := natSumsRow.holds Try.pinned (OpenSpec.ofChange natSumsWrong)

/-- 'curvetlaw1.NatRules': WHATEVER THE INPUT: true; the input reads as it did. -/
def natRulesSpec : ChangeSpec := { name := "natRules", fn := fun _ => fun
  | [d1, d2, d3] => { results := [.lit (.bool true)], args := [d1, d2, d3] }
  | _ => none }
def natRulesRow : OpenClaim := { program := "ytgeeonanodgmiaa", sum := "8bc7d8ccc373143a0d13d048134eb164f41ef441c2497a4ee206ef27cd6cc6fa", func := "curvet/curvetlaw1.NatRules", spec := "natRules", inPlace := ["math/bits.Add64", "math/bits.Sub64"], apart := false }
def NatRulesSaid : Prop := natRulesRow.holds Try.pinned (OpenSpec.ofChange natRulesSpec)

/-- ITS FALSE NEIGHBOUR: 'it returns false'. Refute it at one input. -/
def natRulesWrong : ChangeSpec := { name := "natRules", fn := fun _ => fun
  | [d1, d2, d3] => { results := [.lit (.bool false)], args := [d1, d2, d3] }
  | _ => none }
def NatRulesWrongFalsely : Prop := natRulesRow.holds Try.pinned (OpenSpec.ofChange natRulesWrong)

/-- 'curvetlaw1.NatOrder': WHATEVER THE INPUT: true; the input reads as it did. -/
def natOrderSpec : ChangeSpec := { name := "natOrder", fn := fun _ => fun
  | [d1, d2, d3] => { results := [.lit (.bool true)], args := [d1, d2, d3] }
  | _ => none }
def natOrderRow : OpenClaim := { program := "ytgeeonanodgmiaa", sum := "8bc7d8ccc373143a0d13d048134eb164f41ef441c2497a4ee206ef27cd6cc6fa", func := "curvet/curvetlaw1.NatOrder", spec := "natOrder", inPlace := ["math/bits.Add64", "math/bits.Sub64"], apart := false }
def NatOrderSaid : Prop := natOrderRow.holds Try.pinned (OpenSpec.ofChange natOrderSpec)

/-- ITS FALSE NEIGHBOUR: 'it returns false'. Refute it at one input. -/
def natOrderWrong : ChangeSpec := { name := "natOrder", fn := fun _ => fun
  | [d1, d2, d3] => { results := [.lit (.bool false)], args := [d1, d2, d3] }
  | _ => none }
def NatOrderWrongFalsely : Prop := natOrderRow.holds Try.pinned (OpenSpec.ofChange natOrderWrong)

/-- 'curvetlaw1.NatShifts': WHATEVER THE INPUT: true; the input reads as it did. -/
def natShiftsSpec : ChangeSpec := { name := "natShifts", fn := fun _ => fun
  | [d1, d2, d3] => { results := [.lit (.bool true)], args := [d1, d2, d3] }
  | _ => none }
def natShiftsRow : OpenClaim := { program := "ytgeeonanodgmiaa", sum := "8bc7d8ccc373143a0d13d048134eb164f41ef441c2497a4ee206ef27cd6cc6fa", func := "curvet/curvetlaw1.NatShifts", spec := "natShifts", inPlace := ["math/bits.Add64", "math/bits.Sub64"], apart := false }
def NatShiftsSaid : Prop := natShiftsRow.holds Try.pinned (OpenSpec.ofChange natShiftsSpec)

/-- ITS FALSE NEIGHBOUR: 'it returns false'. Refute it at one input. -/
def natShiftsWrong : ChangeSpec := { name := "natShifts", fn := fun _ => fun
  | [d1, d2, d3] => { results := [.lit (.bool false)], args := [d1, d2, d3] }
  | _ => none }
def NatShiftsWrongFalsely : Prop := natShiftsRow.holds Try.pinned (OpenSpec.ofChange natShiftsWrong)

/-- 'curvetlaw1.NatDigits': WHATEVER THE INPUT: true; the input reads as it did. -/
def natDigitsSpec : ChangeSpec := { name := "natDigits", fn := fun _ => fun
  | [d1, d2] => { results := [.lit (.bool true)], args := [d1, d2] }
  | _ => none }
def natDigitsRow : OpenClaim := { program := "ytgeeonanodgmiaa", sum := "8bc7d8ccc373143a0d13d048134eb164f41ef441c2497a4ee206ef27cd6cc6fa", func := "curvet/curvetlaw1.NatDigits", spec := "natDigits", inPlace := ["math/bits.Add64", "math/bits.Sub64"], apart := false }
def NatDigitsSaid : Prop := natDigitsRow.holds Try.pinned (OpenSpec.ofChange natDigitsSpec)

/-- ITS FALSE NEIGHBOUR: 'it returns false'. Refute it at one input. -/
def natDigitsWrong : ChangeSpec := { name := "natDigits", fn := fun _ => fun
  | [d1, d2] => { results := [.lit (.bool false)], args := [d1, d2] }
  | _ => none }
def NatDigitsWrongFalsely : Prop := natDigitsRow.holds Try.pinned (OpenSpec.ofChange natDigitsWrong)

/-- 'curvetlaw1.NatBits': WHATEVER THE INPUT: true; the input reads as it did. -/
def natBitsSpec : ChangeSpec := { name := "natBits", fn := fun _ => fun
  | [d1, d2, d3] => { results := [.lit (.bool true)], args := [d1, d2, d3] }
  | _ => none }
def natBitsRow : OpenClaim := { program := "ytgeeonanodgmiaa", sum := "8bc7d8ccc373143a0d13d048134eb164f41ef441c2497a4ee206ef27cd6cc6fa", func := "curvet/curvetlaw1.NatBits", spec := "natBits", inPlace := ["math/bits.Add64", "math/bits.Sub64"], apart := false }
def NatBitsSaid : Prop := natBitsRow.holds Try.pinned (OpenSpec.ofChange natBitsSpec)

/-- ITS FALSE NEIGHBOUR: 'it returns false'. Refute it at one input. -/
def natBitsWrong : ChangeSpec := { name := "natBits", fn := fun _ => fun
  | [d1, d2, d3] => { results := [.lit (.bool false)], args := [d1, d2, d3] }
  | _ => none }
def NatBitsWrongFalsely : Prop := natBitsRow.holds Try.pinned (OpenSpec.ofChange natBitsWrong)

/- THE SECOND FORM. 'bulk': how many values and letters a reading holds, each counted each time it is reached (what is shared counts as often as it is met; a slice's spare places count too). A statement '..UptoSaid' is the law's where the arguments, and the package variables that the reading takes, are together of bulk at most 1048576: NARROWER than '..Said'. Prove '..Said' where nothing that the law and all that it calls make is longer than what came in: it says more and counts as full. Else prove '..UptoSaid'. A law counts once. -/
mutual
def uptoBulk {H : Type} : DataW H → Nat
  | .lit (.string bytes) => bytes.length + 1
  | .lit _ => 1
  | .nil => 1
  | .ptr d => uptoBulk d + 1
  | .slice elems spare => uptoBulkAll elems + uptoBulkAll spare + 1
  | .agg parts => uptoBulkAll parts + 1
  | .iface _ d => uptoBulk d + 1
  | .map entries => uptoBulkEntries entries + 1
  | .held _ => 1
def uptoBulkAll {H : Type} : List (DataW H) → Nat
  | [] => 0
  | d :: r => uptoBulk d + uptoBulkAll r
def uptoBulkEntries {H : Type} : List (Lit × DataW H) → Nat
  | [] => 0
  | x :: r => uptoBulkEntry x + uptoBulkEntries r
def uptoBulkEntry {H : Type} : Lit × DataW H → Nat
  | (.string bytes, d) => bytes.length + uptoBulk d + 1
  | (_, d) => uptoBulk d + 1
 end
def uptoSmall : (H : Type) → List (DataW H) → Bool := fun _ ds => decide (uptoBulkAll ds ≤ 1048576)
def OpenSpec.upto (s : _root_.Go.ChangeSpec) : _root_.Go.OpenSpec := { _root_.Go.OpenSpec.ofChange s with cond := some uptoSmall }

/-- 'curvetlaw1.NatBytes', WHERE WHAT IT READS IS OF BULK AT MOST 1048576: true; the input reads as it did. -/
def natBytesUptoRow : OpenClaim := { program := "ytgeeonanodgmiaa", sum := "8bc7d8ccc373143a0d13d048134eb164f41ef441c2497a4ee206ef27cd6cc6fa", func := "curvet/curvetlaw1.NatBytes", spec := "natBytes", inPlace := ["math/bits.Add64", "math/bits.Sub64"], apart := false, narrowed := true }
def NatBytesUptoSaid : Prop := natBytesUptoRow.holds Try.pinned (OpenSpec.upto natBytesSpec)

/-- 'curvetlaw1.NatBack', WHERE WHAT IT READS IS OF BULK AT MOST 1048576: true; the input reads as it did. -/
def natBackUptoRow : OpenClaim := { program := "ytgeeonanodgmiaa", sum := "8bc7d8ccc373143a0d13d048134eb164f41ef441c2497a4ee206ef27cd6cc6fa", func := "curvet/curvetlaw1.NatBack", spec := "natBack", inPlace := ["math/bits.Add64", "math/bits.Sub64"], apart := false, narrowed := true }
def NatBackUptoSaid : Prop := natBackUptoRow.holds Try.pinned (OpenSpec.upto natBackSpec)

/-- 'curvetlaw1.NatShares', WHERE WHAT IT READS IS OF BULK AT MOST 1048576: true; the input reads as it did. -/
def natSharesUptoRow : OpenClaim := { program := "ytgeeonanodgmiaa", sum := "8bc7d8ccc373143a0d13d048134eb164f41ef441c2497a4ee206ef27cd6cc6fa", func := "curvet/curvetlaw1.NatShares", spec := "natShares", inPlace := ["math/bits.Add64", "math/bits.Sub64"], apart := false, narrowed := true }
def NatSharesUptoSaid : Prop := natSharesUptoRow.holds Try.pinned (OpenSpec.upto natSharesSpec)

/-- 'curvetlaw1.NatEnds', WHERE WHAT IT READS IS OF BULK AT MOST 1048576: true; the input reads as it did. -/
def natEndsUptoRow : OpenClaim := { program := "ytgeeonanodgmiaa", sum := "8bc7d8ccc373143a0d13d048134eb164f41ef441c2497a4ee206ef27cd6cc6fa", func := "curvet/curvetlaw1.NatEnds", spec := "natEnds", inPlace := ["math/bits.Add64", "math/bits.Sub64"], apart := false, narrowed := true }
def NatEndsUptoSaid : Prop := natEndsUptoRow.holds Try.pinned (OpenSpec.upto natEndsSpec)

/-- 'curvetlaw1.NatPowers', WHERE WHAT IT READS IS OF BULK AT MOST 1048576: true; the input reads as it did. -/
def natPowersUptoRow : OpenClaim := { program := "ytgeeonanodgmiaa", sum := "8bc7d8ccc373143a0d13d048134eb164f41ef441c2497a4ee206ef27cd6cc6fa", func := "curvet/curvetlaw1.NatPowers", spec := "natPowers", inPlace := ["math/bits.Add64", "math/bits.Sub64"], apart := false, narrowed := true }
def NatPowersUptoSaid : Prop := natPowersUptoRow.holds Try.pinned (OpenSpec.upto natPowersSpec)

/-- 'curvetlaw1.NatSums', WHERE WHAT IT READS IS OF BULK AT MOST 1048576: true; the input reads as it did. -/
def natSumsUptoRow : OpenClaim := { program := "ytgeeonanodgmiaa", sum := "8bc7d8ccc373143a0d13d048134eb164f41ef441c2497a4ee206ef27cd6cc6fa", func := "curvet/curvetlaw1.NatSums", spec := "natSums", inPlace := ["math/bits.Add64", "math/bits.Sub64"], apart := false, narrowed := true }
def NatSumsUptoSaid : Prop := natSumsUptoRow.holds Try.pinned (OpenSpec.upto natSumsSpec)

/-- 'curvetlaw1.NatRules', WHERE WHAT IT READS IS OF BULK AT MOST 1048576: true; the input reads as it did. -/
def natRulesUptoRow : OpenClaim := { program := "ytgeeonanodgmiaa", sum := "8bc7d8ccc373143a0d13d048134eb164f41ef441c2497a4ee206ef27cd6cc6fa", func := "curvet/curvetlaw1.NatRules", spec := "natRules", inPlace := ["math/bits.Add64", "math/bits.Sub64"], apart := false, narrowed := true }
def NatRulesUptoSaid : Prop := natRulesUptoRow.holds Try.pinned (OpenSpec.upto natRulesSpec)

/-- 'curvetlaw1.NatOrder', WHERE WHAT IT READS IS OF BULK AT MOST 1048576: true; the input reads as it did. -/
def natOrderUptoRow : OpenClaim := { program := "ytgeeonanodgmiaa", sum := "8bc7d8ccc373143a0d13d048134eb164f41ef441c2497a4ee206ef27cd6cc6fa", func := "curvet/curvetlaw1.NatOrder", spec := "natOrder", inPlace := ["math/bits.Add64", "math/bits.Sub64"], apart := false, narrowed := true }
def NatOrderUptoSaid : Prop := natOrderUptoRow.holds Try.pinned (OpenSpec.upto natOrderSpec)

/-- 'curvetlaw1.NatShifts', WHERE WHAT IT READS IS OF BULK AT MOST 1048576: true; the input reads as it did. -/
def natShiftsUptoRow : OpenClaim := { program := "ytgeeonanodgmiaa", sum := "8bc7d8ccc373143a0d13d048134eb164f41ef441c2497a4ee206ef27cd6cc6fa", func := "curvet/curvetlaw1.NatShifts", spec := "natShifts", inPlace := ["math/bits.Add64", "math/bits.Sub64"], apart := false, narrowed := true }
def NatShiftsUptoSaid : Prop := natShiftsUptoRow.holds Try.pinned (OpenSpec.upto natShiftsSpec)

/-- 'curvetlaw1.NatDigits', WHERE WHAT IT READS IS OF BULK AT MOST 1048576: true; the input reads as it did. -/
def natDigitsUptoRow : OpenClaim := { program := "ytgeeonanodgmiaa", sum := "8bc7d8ccc373143a0d13d048134eb164f41ef441c2497a4ee206ef27cd6cc6fa", func := "curvet/curvetlaw1.NatDigits", spec := "natDigits", inPlace := ["math/bits.Add64", "math/bits.Sub64"], apart := false, narrowed := true }
def NatDigitsUptoSaid : Prop := natDigitsUptoRow.holds Try.pinned (OpenSpec.upto natDigitsSpec)

/-- 'curvetlaw1.NatBits', WHERE WHAT IT READS IS OF BULK AT MOST 1048576: true; the input reads as it did. -/
def natBitsUptoRow : OpenClaim := { program := "ytgeeonanodgmiaa", sum := "8bc7d8ccc373143a0d13d048134eb164f41ef441c2497a4ee206ef27cd6cc6fa", func := "curvet/curvetlaw1.NatBits", spec := "natBits", inPlace := ["math/bits.Add64", "math/bits.Sub64"], apart := false, narrowed := true }
def NatBitsUptoSaid : Prop := natBitsUptoRow.holds Try.pinned (OpenSpec.upto natBitsSpec)

end Rows
end Go.Proofs.Ytgeeonanodgmiaa
