/- A slice of ints that comes in: what is read of it. Conditions: none. -/
import Derived.Test.YtgefbjnbmdhakaaGlue
set_option linter.unusedVariables false
set_option linter.unusedSimpArgs false

namespace Mir
open Go (Value Addr IntKind World Obj Act Program FuncId TypeId DataW MemPlace)
open Go.ChangeShapes Go.WideShapes Go.RowKit

section
variable {P : Program} {φ : Nat → Option FuncId}
variable {r : Go.Reach} {b0 : Nat} {t : TypeId} {W : World} {v : Value}

/-- A slice of ints. -/
theorem in_ints2 {H : Type} {enc : TypeId × Value → H} {e : TypeId} {d : DataW H} {ps : List MemPlace} (ht : P.underlying t = some (.slice e)) (he : P.underlying e = some (.int .i64)) (hc : P.cellsOf e = 1)
    (h : DataW.Trod enc P W 0 (fun _ => true) true t v d ps) (hv : Value.okWide P W r b0 t v) (O : Nat → Prop) (hO : ∀ b, ¬ O b) :
    ∃ l : List Int, (∀ z ∈ l, -9223372036854775808 ≤ z ∧ z < 9223372036854775808) ∧ l.length < 9223372036854775808 ∧ VR φ (CxOf W O []) (.vs l.length (is l)) v ∧ ((d = .nil ∧ l = []) ∨ ∃ rest, d = .slice (lits .i64 l) rest) := by
  obtain ⟨fuel, hf⟩ := h
  obtain ⟨a, len, cap, rfl⟩ := okWide_slice ht hv
  rcases open_ints ht he hc hf with ⟨h0, hx⟩ | ⟨a, len, cap, zs, h1, h2, h3, h4, h5, h6, h7, h8⟩
  · simp [Value.cells] at h0
    obtain ⟨rfl, rfl, rfl⟩ := h0
    exact ⟨[], by simp, by simp, .vsn, .inl ⟨congrArg Prod.fst hx, rfl⟩⟩
  · simp [Value.cells] at h1
    obtain ⟨rfl, rfl, rfl⟩ := h1
    simp only [if_true] at h5
    have hmax : Go.maxLen = 9223372036854775807 := rfl
    refine ⟨zs.take len, fun z hz => ?_, by simp; omega, ?_, .inr ⟨_, congrArg Prod.fst h6⟩⟩
    · have := h8 z (List.mem_of_mem_take hz)
      simp only [Go.Lit.wf, Bool.and_eq_true, decide_eq_true_eq] at this
      have g1 : (-9223372036854775808 : Int) ≤ z := this.1
      have g2 : z ≤ 9223372036854775807 := this.2
      omega
    · have hlen : (zs.take len).length = len := by simp; omega
      rw [hlen]
      rcases Nat.eq_zero_or_pos len with h0 | h0
      · subst h0
        simp [is]
        exact .vs0 _ _
      · obtain ⟨b, o, sp⟩ := a
        have hsp : sp = none := by
          have := h7 0 (by omega)
          cases sp with
          | none => rfl
          | some q =>
            simp only [World.cell?, Addr.add] at this
            split at this
            · simp at this
            · simp at this
        subst hsp
        refine .vs _ _ b o cap (fun j => .int .i64 (zs.getD j 0)) h3 (fun _ => hO b) (fun j hj => ?_) (fun j hj => ?_)
        · have := h7 j (by simp [is] at hj; omega)
          show cellH (fun b => W.heap[b]?) b (o + j) = _
          rw [cellH_cell]
          rw [addr_add] at this
          exact this
        · have hj' : j < zs.length := by simp [is] at hj; omega
          simp only [is, List.getElem_map, List.getElem_take]
          have e1 : zs.getD j 0 = zs[j] := by simp [hj']
          rw [e1]
          have := h8 zs[j] (List.getElem_mem hj')
          simp only [Go.Lit.wf, Bool.and_eq_true, decide_eq_true_eq] at this
          have g1 : (-9223372036854775808 : Int) ≤ zs[j] := this.1
          have g2 : zs[j] ≤ 9223372036854775807 := this.2
          exact .i _ g1 (by omega)

end
end Mir
