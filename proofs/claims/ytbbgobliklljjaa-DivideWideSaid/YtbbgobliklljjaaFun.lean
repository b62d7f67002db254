/- Functions: what the small language's call gives, the machine's call gives. Conditions: none. -/
import Derived.Test.YtbbgobliklljjaaStm
import Derived.Test.YtbbgobliklljjaaLim
set_option linter.unusedVariables false
set_option linter.unusedSimpArgs false
namespace Mir
open Go (Value Addr IntKind World Obj Act Program FuncId TypeId Operand Op Oper Code TypeDesc Sem Result)

/- ## Results -/

def resSem (tmps : Array Value) : Go.ResultVar → Sem Value
  | .tmp t => pure (tmps.getD t Go.undef)
  | .cell a t => do Go.loadVar t (← Go.asAddr (tmps.getD a Go.undef))

theorem results_eq (fn : Go.Func) (tmps : Array Value) : Go.results fn tmps = (do
    let vs ← fn.results.mapM (resSem tmps)
    pure (if h : vs.size = 1 then vs[0] else .tuple vs)) := by
  unfold Go.results
  congr 1

def chkRes (P : Program) : List Go.ResultVar → List Res → Bool
  | [], [] => true
  | .tmp t :: l, .tmp s :: m => t == s && chkRes P l m
  | .cell a t :: l, .cell s n :: m => a == s && partOk P t n && chkRes P l m
  | _, _ => false

section
variable {P : Program} {φ : Nat → Option FuncId} {ψ : Prim → FuncId → Bool} {B : Base} {n : Nat} {c : Call} {st : St} {a : Act} {w : World} {O : Nat → Prop} {loc : List (Nat × Nat)}

theorem res_one (hs : Sim φ B n st a w O loc []) {r : Go.ResultVar} {q : Res} (h : chkRes P [r] [q] = true) {v : V} (hv : resOne st.e q = some v) :
    ∃ x, (resSem a.tmps r).run P w = .ok x w ∧ VR φ (CxOf w O loc) v x := by
  cases r <;> cases q <;> simp only [chkRes, Bool.false_eq_true, Bool.and_eq_true, beq_iff_eq, Bool.and_true] at h
  · subst h
    rename_i t
    simp only [resOne, Option.some.injEq] at hv
    subst hv
    have h1 := ev_VL hs (x := .tmp t) (y := .t t) (by simp [chkX])
    refine ⟨_, rfl, VL_plain h1 (fun s o e => ?_) (fun z s o m k e => ?_)⟩
    · have := (LpIn_ev hs (.t t) (fun v h => by simp at h)).1 s o e
      simp at this
    · have := (LpIn_ev hs (.t t) (fun v h => by simp at h)).2 z s o m k e
      simp at this
  · obtain ⟨rfl, hp⟩ := h
    rename_i s t q
    simp only [resOne] at hv
    split at hv
    · rename_i l hl
      obtain ⟨b, hb, _, cs, T, fz, _, _, _, y, hy1, hy2⟩ := loc_ok hs hl
      obtain ⟨x, hx1, hx2⟩ := run_loadVar (δ := 0) hp hv w (fun j hj => by simpa using hy1 j hj) hy2
      refine ⟨x, ?_, hx2⟩
      have h1 : a.tmps.getD s Go.undef = ptrV b 0 := by simp [hb]
      simp only [resSem, h1, Go.Sem.run_bind]
      simpa [ptrV, Go.asAddr] using hx1
    · simp at hv

theorem chkRes_cons {r : Go.ResultVar} {l : List Go.ResultVar} {q : Res} {m : List Res} : chkRes P (r :: l) (q :: m) = true ↔ chkRes P [r] [q] = true ∧ chkRes P l m = true := by
  cases r <;> cases q <;> simp [chkRes]

theorem res_list (hs : Sim φ B n st a w O loc []) : ∀ (l : List Go.ResultVar) (qs : List Res) (us : List V), chkRes P l qs = true → resAll st.e qs = some us →
    ∃ xs : List Value, (l.mapM (resSem a.tmps)).run P w = .ok xs w ∧ VRs φ (CxOf w O loc) us xs
  | [], [], us, _, h => by simp [resAll] at h; subst h; exact ⟨[], by simp, rfl, fun j h => absurd h (by simp)⟩
  | [], _ :: _, us, h, _ => by simp [chkRes] at h
  | r :: l, [], us, h, _ => by cases r <;> simp [chkRes] at h
  | r :: l, q :: qs, us, h, hu => by
    obtain ⟨h1, h2⟩ := chkRes_cons.1 h
    simp only [resAll] at hu
    split at hu
    · rename_i v vs g1 g2
      simp only [Option.some.injEq] at hu
      subst hu
      obtain ⟨x, e1, e2⟩ := res_one hs h1 g1
      obtain ⟨xs, e3, e4, e5⟩ := res_list hs l qs vs h2 g2
      refine ⟨x :: xs, ?_, by simp [e4], fun j hj hj' => ?_⟩
      · simp only [List.mapM_cons, Go.Sem.run_bind, e1, Result.andThen_ok, e3, Go.Sem.run_pure]
      · cases j with
        | zero => exact e2
        | succ j => exact e5 j (by simpa using hj) (by simpa using hj')
    · simp at hu

theorem res_all (hs : Sim φ B n st a w O loc []) {fn : Go.Func} {qs : List Res} (h : chkRes P fn.results.toList qs = true) {v : V} (hv : resV st.e qs = some v) :
    ∃ x, (Go.results fn a.tmps).run P w = .ok x w ∧ VR φ (CxOf w O loc) v x := by
  rw [results_eq, Array.mapM_eq_mapM_toList]
  by_cases h1 : ∃ q, qs = [q]
  · obtain ⟨q, rfl⟩ := h1
    simp only [resV] at hv
    have : resAll st.e [q] = some [v] := by simp [resAll, hv]
    obtain ⟨xs, e1, e2, e3⟩ := res_list hs _ _ _ h this
    cases xs with
    | nil => simp at e2
    | cons x xs =>
      cases xs with
      | cons _ _ => simp at e2
      | nil => exact ⟨x, by simp [e1], e3 0 (by simp) (by simp)⟩
  · have hv' : (resAll st.e qs).map V.tup = some v := by
      cases qs with
      | nil => exact hv
      | cons q qs =>
        cases qs with
        | nil => exact absurd ⟨q, rfl⟩ h1
        | cons _ _ => exact hv
    simp only [Option.map_eq_some_iff] at hv'
    obtain ⟨us, h2, rfl⟩ := hv'
    obtain ⟨xs, e1, e2, e3⟩ := res_list hs _ _ _ h h2
    have hlen : xs.length ≠ 1 := by
      intro hx
      have : qs.length = us.length := by
        clear h1 h e1 e2 e3 hv
        induction qs generalizing us with
        | nil => simp [resAll] at h2; subst h2; rfl
        | cons q qs ih =>
          simp only [resAll] at h2
          split at h2
          · rename_i v vs g1 g2
            simp only [Option.some.injEq] at h2
            subst h2
            simp [ih vs g2]
          · simp at h2
      rw [← e2, ← this] at hx
      exact h1 (List.length_eq_one_iff.1 hx)
    exact ⟨.tuple xs.toArray, by simp [e1, hlen], .tup _ _ (by simpa using e2) fun j hj hj' => by simpa using e3 j hj (by simpa using hj')⟩

end
end Mir
