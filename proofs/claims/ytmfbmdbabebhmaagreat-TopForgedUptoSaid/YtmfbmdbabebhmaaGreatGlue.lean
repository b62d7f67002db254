/- From the small language to a law's statement: arguments that come in, what is left behind. Conditions: none. -/
import Derived.Test.YtmfbmdbabebhmaaGreatAllQ
import Derived.Test.YtmfbmdbabebhmaaGreatLib
import Derived.ProofKit
set_option linter.unusedVariables false
set_option linter.unusedSimpArgs false
namespace Mir
open Go (Value Addr IntKind World Obj Act Program FuncId TypeId DataW MemPlace)
open Go.ChangeShapes Go.WideShapes Go.RowKit

section
variable {P : Program} {φ : Nat → Option FuncId}

/-- Arguments from outside: nothing may be written. -/
abbrev Out (W : World) : Cx := CxOf W (fun _ => False) []

/-- What a call from outside leaves. -/
theorem calls_out {c : Call} (hC : CallOk P φ c) {f F : Nat} (hF : φ f = some F) {args : List V} {vals : Array Value} {W : World} (hv : VRs φ (Out W) args vals.toList) (hr : c f args [] = some (.b true, [])) :
    Go.Calls P F vals W fun e W' => e = .returned (.bool true) ∧ Below W.heap.size W W' := by
  refine Go.Calls.mono (hC f F args [] _ _ hF hr vals W (fun _ => False) [] (HR_nil _ _) (fun b h => h.elim) hv) fun e W' h => ?_
  cases e with
  | returned x =>
    obtain ⟨O', loc', h1, h2, h3, h4, h5, h6⟩ := h
    have : x = .bool true := by cases h1; rfl
    exact ⟨by rw [this], ⟨h4.os, h4.tape, h4.output, h4.size, fun k hk => h4.block k hk (by rintro ⟨k, r, δ, g1, g2⟩; simp [row] at g1)⟩⟩
  | panicked ch => exact h.elim
  | outgrown => exact h.elim

theorem VRs.nil {c : Cx} : VRs φ c [] [] := ⟨rfl, fun j h => absurd h (by simp)⟩
theorem VRs.cons {c : Cx} {v : V} {x : Value} {l : List V} {xs : List Value} (h : VR φ c v x) (hs : VRs φ c l xs) : VRs φ c (v :: l) (x :: xs) := by
  refine ⟨by simp [hs.1], fun j hj hj' => ?_⟩
  cases j with
  | zero => exact h
  | succ j => exact hs.2 j (by simpa using hj) (by simpa using hj')

variable {r : Go.Reach} {b0 : Nat} {t : TypeId} {W : World} {v : Value}

theorem in_int (ht : P.underlying t = some (.int .i64)) (h : Value.okWide P W r b0 t v) (c : Cx) : ∃ z : Int, -9223372036854775808 ≤ z ∧ z < 9223372036854775808 ∧ VR φ c (.i z) v := by
  obtain ⟨n, rfl⟩ := okWide_int ht h
  simp only [Value.okWide, ht, Go.Cell.okWide, Go.Cell.ok, IntKind.has, true_and] at h
  have h1 : (-9223372036854775808 : Int) ≤ n := h.1
  have h2 : n ≤ 9223372036854775807 := h.2
  exact ⟨n, h1, by omega, .i n h1 (by omega)⟩

theorem trodAll_stays {H : Type} {enc : TypeId × Value → H} (hl : Go.laidOutB P = true) {W W' : World} (hb : Below W.heap.size W W') : ∀ (ts : List TypeId) (vs : List Value) (ds : List (DataW H)) (ps : List MemPlace),
    ts.all (fun t => P.readableRec t && decide (t < P.types.size)) = true → DataW.TrodAll enc P W 0 (fun _ => true) true ts vs ds ps → (∀ x ∈ ps, x.block < W.heap.size) →
    DataW.TrodAll enc P W' 0 (fun b => decide (b < W.heap.size)) true ts vs ds ps
  | [], vs, ds, ps, _, h, _ => by
    obtain ⟨rfl, rfl, rfl⟩ := trodAll_nil h
    rfl
  | t :: ts, vs, ds, ps, hc, h, hlt => by
    obtain ⟨v, vs', d, ds', p, q, rfl, rfl, rfl, h1, h2⟩ := trodAll_cons h
    simp only [List.all_cons, Bool.and_eq_true, decide_eq_true_eq] at hc
    exact ⟨p, q, Below.trod hl hc.1.1 hc.1.2 h1 hb (fun x hx => hlt x (List.mem_append.2 (.inl hx))), trodAll_stays hl hb ts vs' ds' q hc.2 h2 (fun x hx => hlt x (List.mem_append.2 (.inr hx))), rfl⟩

end
end Mir
