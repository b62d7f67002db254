/- A string that comes in: what is read of it. Conditions: none. -/
import Derived.Test.YtmfbmdbabebhmaaGreatGlue
import Derived.ChangeMaps5
set_option linter.unusedVariables false
set_option linter.unusedSimpArgs false

namespace Mir
open Go (Value Addr IntKind World Obj Act Program FuncId TypeId DataW MemPlace)
open Go.ChangeShapes Go.WideShapes Go.RowKit

section
variable {P : Program} {φ : Nat → Option FuncId}
variable {r : Go.Reach} {b0 : Nat} {t : TypeId} {W : World} {v : Value}

/-- A string. -/
theorem in_str2 {H : Type} {enc : TypeId × Value → H} {d : DataW H} {ps : List MemPlace} (ht : P.underlying t = some .string)
    (h : DataW.Trod enc P W 0 (fun _ => true) true t v d ps) (hv : Value.okWide P W r b0 t v) (c : Cx) :
    ∃ l : List Nat, (∀ x ∈ l, x < 256) ∧ VR φ c (.s l) v ∧ ∃ bs : List UInt8, d = .lit (.string bs) ∧ bs.length = l.length := by
  obtain ⟨fuel, hf⟩ := h
  obtain ⟨s, rfl⟩ := okWide_string ht hv
  obtain ⟨s', h, hx, hs⟩ := DataW.trod_string ht hf
  simp [Value.cells] at h
  subst h
  simp only [Prod.mk.injEq] at hx
  refine ⟨s.data.toList.map UInt8.toNat, fun x hx => ?_, .s _ s rfl, s.data.toList, hx.1, by simp⟩
  obtain ⟨y, _, rfl⟩ := List.mem_map.1 hx
  exact y.toNat_lt
end
end Mir
