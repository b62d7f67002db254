/- One operation of a region: what the small language does, the machine does. Conditions: none. -/
import Derived.Test.YtbbgobliklljjaaCall
import Derived.Test.YtbbgobliklljjaaOrd
set_option linter.unusedVariables false
set_option linter.unusedSimpArgs false
namespace Mir
open Go (Value Addr IntKind World Obj Act Program FuncId TypeId Operand Op Oper Code TypeDesc Sem Result)

def dstOk (n : Nat) (m : MO) : Bool :=
  (match m.op, m.d with
   | .st _ _ _, some _ => false
   | .stl _ _ _ _, some _ => false
   | .box _, none => false
   | _, _ => true) && (match m.d with
   | some d => decide (d < n)
   | none => true) && guardW m

def chkGuard (ops : List Oper) (o : Oper) (m : MO) : Bool := match o.guard, m.g with
  | none, none => true
  | some (j, w), some (s, w') => (match ops[j]? with
    | some o' => o'.dst == some s
    | none => false) && w == w'
  | _, _ => false

section
variable {P : Program} {φ : Nat → Option FuncId} {ψ : Prim → FuncId → Bool} {B : Base} {n : Nat} {st : St} {a : Act} {w : World} {O : Nat → Prop} {loc : List (Nat × Nat)} {D : List Nat}

def chkOper (P : Program) (φ : Nat → Option FuncId) (ψ : Prim → FuncId → Bool) (n : Nat) (ops : List Oper) (o : Oper) (m : MO) : Bool :=
  o.dst == m.d && dstOk n m && chkGuard ops o m && chkOp P φ ψ o.op m.op

/-- What is known of a program's functions. -/
structure Env0 (P : Program) (φ : Nat → Option FuncId) (ψ : Prim → FuncId → Bool) : Prop where
  bodies : ∀ f F, φ f = some F → bodyOk P F = true
  prims : ∀ p F, ψ p F = true → PrimOk P p F

variable (hs : Sim φ B n st a w O loc D) {c : Call}
include hs

theorem do_step (hE : Env0 P φ ψ) (hC : CallOk P φ c) {o : Oper} {m : MO} {st' : St} (hdm : o.dst = m.d) (hdo : dstOk n m = true) (hc : chkOp P φ ψ o.op m.op = true) (he : doO c m st = some st')
    (hD : ∀ d, m.d = some d → d ∉ D ++ m.op.addrs) : StepOk P φ B n o a w st' (D ++ m.op.addrs) := by
  obtain ⟨d, g, op⟩ := m
  simp only at hdm hc hD
  have hd : ∀ d, o.dst = some d → d < n ∧ d ∉ D ++ op.addrs := by
    intro d' h
    rw [hdm] at h
    refine ⟨?_, hD d' h⟩
    simp only [dstOk, h, Bool.and_eq_true, decide_eq_true_eq] at hdo
    exact hdo.1.2
  have gen : (∀ v h', evalO c op st.e st.h = some (v, h') → StepOk P φ B n o a w ⟨put o.dst v st.e, h'⟩ (D ++ op.addrs)) →
      (match evalO c op st.e st.h with | some (v, h) => some (⟨put d v st.e, h⟩ : St) | none => none) = some st' → StepOk P φ B n o a w st' (D ++ op.addrs) := by
    intro hg h
    cases hx : evalO c op st.e st.h with
    | none => simp [hx] at h
    | some r =>
      obtain ⟨v, h'⟩ := r
      simp only [hx, Option.some.injEq] at h
      subst h
      have := hg v h' hx
      rw [hdm] at this
      exact this
  cases op
  case fail => simp [doO, evalO] at he
  case mov x => exact gen (fun v h' hv => pure_step hs (mov_ok hs hc hv) hd) he
  case pick x y z => exact gen (fun v h' hv => pure_step hs (pick_ok hs hc hv) hd) he
  case bin b x y => exact gen (fun v h' hv => pure_step hs (bin_ok hs hc hv) hd) he
  case eqv k g x y => exact gen (fun v h' hv => pure_step hs (eqv_okR hs hc hv) hd) he
  case un k x => exact gen (fun v h' hv => pure_step hs (un_okR hs hc hv) hd) he
  case cvi x => exact gen (fun v h' hv => pure_step hs (cvi_okR hs hc hv) hd) he
  case cvu k x => exact gen (fun v h' hv => pure_step hs (cvu_okR hs hc hv) hd) he
  case s2b x => exact gen (fun v h' hv => s2b_step hs hc hv hd) he
  case b2s i x => exact gen (fun v h' hv => pure_step hs (b2s_okR hs hc hv) hd) he
  case build z ps => exact gen (fun v h' hv => pure_step hs (build_okR hs hc hv) hd) he
  case box x =>
    cases d with
    | none => simp [dstOk] at hdo
    | some d =>
      refine gen (fun v h' hv => ?_) he
      have := box_step hs hc hv hdm (hd d hdm).1 (fun h => (hd d hdm).2 (List.mem_append_left _ h))
      rw [hdm]
      simpa [MOp.addrs] using this
  case boxv x => exact gen (fun v h' hv => boxv_step hs hc hv hd) he
  case boxh x => exact gen (fun v h' hv => boxh_step hs hc hv hd) he
  case lit i sz k z ps => exact gen (fun v h' hv => lit_step hs hc hv hd) he
  case mks sz b z x y => exact gen (fun v h' hv => mks_step hs hc hv hd) he
  case off k x => exact gen (fun v h' hv => pure_step hs (off_okR hs hc hv) hd) he
  case idx k sz x y => exact gen (fun v h' hv => pure_step hs (idx_okR hs hc hv) hd) he
  case idxs sz x y => exact gen (fun v h' hv => pure_step hs (idxs_okR hs hc hv) hd) he
  case ld i q x => exact gen (fun v h' hv => pure_step hs (ld_okR hs hc hv) hd) he
  case ldl s q x => exact gen (fun v h' hv => pure_step hs (ldl_okR hs hc hv) hd) he
  case st k x y =>
    cases d with
    | some d => simp [dstOk] at hdo
    | none =>
      refine gen (fun v h' hv => ?_) he
      rw [hdm]
      exact st_step hs hc hv hdm
  case stl s k x y =>
    cases d with
    | some d => simp [dstOk] at hdo
    | none =>
      simp only [doO] at he
      split at he
      · rename_i s' k' hx
        split at he
        · rename_i hs'
          subst hs'
          split at he
          · rename_i l hl
            split at he
            · rename_i hcond
              simp only [Option.some.injEq] at he
              subst he
              have := stl_step hs hc hx hl hcond hdm
              intro K Q hK
              exact this K Q fun a' w' O' loc' h => hK a' w' O' loc' (h.more _ fun s hm => List.mem_append_left _ hm)
            · simp at he
          · simp at he
        · simp at he
      · simp at he
  case nck x => exact gen (fun v h' hv => pure_step hs (nck_okR hs hc hv) hd) he
  case fld q k x => exact gen (fun v h' hv => pure_step hs (fld_okR hs hc hv) hd) he
  case idxv k sz ag x y => exact gen (fun v h' hv => pure_step hs (idxv_okR hs hc hv) hd) he
  case idxb x y => exact gen (fun v h' hv => pure_step hs (idxb_okR hs hc hv) hd) he
  case sls x lo hi => exact gen (fun v h' hv => pure_step hs (sls_okR hs hc hv) hd) he
  case slv sz x lo hi => exact gen (fun v h' hv => pure_step hs (slv_okR hs hc hv) hd) he
  case sla i k sz x lo hi => exact gen (fun v h' hv => pure_step hs (sla_okR hs hc hv) hd) he
  case s2a k x => exact gen (fun v h' hv => pure_step hs (s2a_okR hs hc hv) hd) he
  case ext k x => exact gen (fun v h' hv => pure_step hs (ext_okR hs hc hv) hd) he
  case fun_ f xs ys => exact gen (fun v h' hv => pure_step hs (fun_okR hs hc hv) hd) he
  case call f rs args =>
    refine gen (fun v h' hv => ?_) he
    have := call_step hs hC hc hv (fun d h => ⟨(hd d h).1, fun hm => (hd d h).2 (List.mem_append_left _ (by simpa using hm))⟩)
    intro K Q hK
    exact this K Q fun a' w' O' loc' h => hK a' w' O' loc' (h.more _ fun s hm => List.mem_append_left _ (by simpa using hm))
  case callp f args => exact gen (fun v h' hv => callp_step hs hC hc hv hd) he
  case cal g args => exact gen (fun v h' hv => cal_step hs hC hE.bodies hc hv hd) he
  case prim p args => exact gen (fun v h' hv => pure_step hs (prim_okR hs hE.prims hc hv) hd) he
  case len x => exact gen (fun v h' hv => pure_step hs (len_okR hs hc hv) hd) he
  case lens x => exact gen (fun v h' hv => pure_step hs (lens_okR hs hc hv) hd) he
  case mn x y => exact gen (fun v h' hv => pure_step hs (mn_okR hs hc hv) hd) he
  case mx x y => exact gen (fun v h' hv => pure_step hs (mx_okR hs hc hv) hd) he
  case app sz b x y => exact gen (fun v h' hv => app_step hs hc hv hd) he
  case cpy sz x y => exact gen (fun v h' hv => cpy_step hs hc hv hd) he
  case cpyl s sz rs x y =>
    simp only [doO] at he
    split at he
    · rename_i sz' s' off len cap hx
      split at he
      · rename_i hs'
        obtain ⟨rfl, rfl⟩ := hs'
        split at he
        · rename_i l q b hl hm hb
          split at he
          · rename_i hcond
            simp only [Option.some.injEq] at he
            subst he
            have := cpyl_step hs hc hx hl hm hb hcond hd
            rw [hdm] at this
            exact this
          · simp at he
        · simp at he
      · simp at he
    · simp at he

/-- One operation, its guard and all. -/
theorem oper_step (hE : Env0 P φ ψ) (hC : CallOk P φ c) {ops : Array Oper} {i : Nat} {o : Oper} (ho : ops[i]? = some o) {m : MO} {st' : St} (hc : chkOper P φ ψ n ops.toList o m = true) (he : stepO c m st = some st')
    (hD : ∀ d, m.d = some d → d ∉ D ++ m.op.addrs) {K : Act → World → Prop} {Q : Go.Exit → Act → World → Prop}
    (hK : ∀ a' w' O' loc', Sim φ B n st' a' w' O' loc' (D ++ m.op.addrs) → K a' w') : Go.wpOp P ops Q i K a w := by
  simp only [chkOper, Bool.and_eq_true, beq_iff_eq] at hc
  obtain ⟨⟨⟨hdm, hdo⟩, hg⟩, hc⟩ := hc
  unfold Go.wpOp
  rw [ho]
  simp only []
  have hd : ∀ d, o.dst = some d → d < n ∧ d ∉ D ++ m.op.addrs := by
    intro d' h
    rw [hdm] at h
    refine ⟨?_, hD d' h⟩
    simp only [dstOk, h, Bool.and_eq_true, decide_eq_true_eq] at hdo
    exact hdo.1.2
  have skip : Sim φ B n ⟨put m.d (.tup []) st.e, st.h⟩ (a.put o.dst Go.undef) w O loc (D ++ m.op.addrs) := by
    have := put_step hs (o := o) (v := .tup []) (x := Go.undef) (VL_of_VR (.tup [] #[] rfl fun j h => absurd h (by simp))) m.op.addrs (LpIn.plain (by simp) (by simp)) hd
    rw [hdm] at this ⊢
    exact this
  have done : ∀ {st'}, doO c m st = some st' → (∀ a' w' O' loc', Sim φ B n st' a' w' O' loc' (D ++ m.op.addrs) → K a' w') → o.wp P a w K Q := fun he hK =>
    do_step hs hE hC hdm hdo hc he hD K Q hK
  unfold stepO at he
  unfold chkGuard at hg
  split at hg
  · rename_i h1 h2
    simp only [h2] at he
    have hw : Go.Region.wanted o (Go.yielded ops a.tmps) = true := by simp [Go.Region.wanted, h1]
    rw [if_pos hw]
    exact .inl (done he hK)
  · rename_i j wt s wt' h1 h2
    simp only [Bool.and_eq_true, beq_iff_eq] at hg
    obtain ⟨hj, rfl⟩ := hg
    split at hj
    · rename_i o' ho'
      simp only [beq_iff_eq] at hj
      simp only [h2] at he
      have hy : Go.yielded ops a.tmps j = match a.tmps[s]? with | some (.bool b) => some b | _ => none := by
        have ho'' : ops[j]? = some o' := by simpa using ho'
        simp [Go.yielded, ho'', hj]
        rfl
      have henv := hs.env s
      split at he
      · rename_i x hx
        rw [hx] at henv
        obtain ⟨y, hy1, hy2⟩ := henv
        have hyb : y = .bool x := by cases hy2; rfl
        subst hyb
        by_cases hxw : x = wt
        · subst hxw
          rw [if_pos rfl] at he
          have hw : Go.Region.wanted o (Go.yielded ops a.tmps) = true := by simp [Go.Region.wanted, h1, hy, hy1]
          rw [if_pos hw]
          exact .inl (done he hK)
        · rw [if_neg hxw] at he
          simp only [Option.some.injEq] at he
          subst he
          have hw : ¬ Go.Region.wanted o (Go.yielded ops a.tmps) = true := by simp [Go.Region.wanted, h1, hy, hy1, hxw]
          rw [if_neg hw]
          exact hK _ _ _ _ skip
      · rename_i hx
        rw [hx] at henv
        obtain ⟨y, hy1, hy2⟩ := henv
        have hyb : y = .tuple #[] := by
          cases hy2 with
          | tup l cs h1 h2 =>
            have h3 : cs = #[] := Array.eq_empty_of_size_eq_zero (by simpa using h1.symm)
            rw [h3]
        subst hyb
        simp only [Option.some.injEq] at he
        subst he
        have hw : ¬ Go.Region.wanted o (Go.yielded ops a.tmps) = true := by simp [Go.Region.wanted, h1, hy, hy1]
        rw [if_neg hw]
        exact hK _ _ _ _ skip
      · simp at he
    · simp at hj
  · simp at hg

end
end Mir
