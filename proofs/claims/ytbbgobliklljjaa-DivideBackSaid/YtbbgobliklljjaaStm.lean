/- Statements: what the small language does, the machine does. Conditions: none. -/
import Derived.Test.YtbbgobliklljjaaReg
set_option linter.unusedVariables false
set_option linter.unusedSimpArgs false
namespace Mir
open Go (Value Addr IntKind World Obj Act Program FuncId TypeId Operand Op Oper Code TypeDesc Sem Result)

theorem get_map (ks : List Nat) (f : Nat → V) (s : Nat) : get (ks.map fun k => (k, f k)) s = if s ∈ ks then f s else .undef := by
  induction ks with
  | nil => simp [get]
  | cons k ks ih =>
    simp only [List.map_cons, get_cons, ih, List.mem_cons]
    by_cases h : k = s
    · subst h; simp
    · simp [h, Ne.symm h]

theorem get_keepE (ks : List Nat) (e : Env) (s : Nat) : get (keepE ks e) s = if s ∈ ks then san (get e s) else .undef := get_map ks (fun k => san (get e k)) s

section
variable {P : Program} {φ : Nat → Option FuncId} {ψ : Prim → FuncId → Bool} {B : Base} {n : Nat} {c : Call}

/-- Some slots are forgotten. -/
theorem Sim.keep {st : St} {a : Act} {w : World} {O : Nat → Prop} {loc : List (Nat × Nat)} {D : List Nat} (hs : Sim φ B n st a w O loc D) (ks : List Nat) : Sim φ B n ⟨keepE ks st.e, st.h⟩ a w O loc [] := by
  have key : ∀ s v, get (keepE ks st.e) s = v → v ≠ .undef → get st.e s = v ∧ (∀ s' o, v ≠ .lp s' o) ∧ (∀ z s' o m k, v ≠ .ls z s' o m k) := by
    intro s v h hv
    rw [get_keepE] at h
    split at h
    · cases hg : get st.e s <;> rw [hg] at h <;> simp only [san] at h <;> subst h <;> simp at hv ⊢
    · exact absurd h.symm hv
  exact { hs with
    env := fun s => by
      show ER φ _ _ s (get (keepE ks st.e) s)
      by_cases hu : get (keepE ks st.e) s = .undef
      · rw [hu]; trivial
      · have := key s _ rfl hu
        rw [← this.1]
        exact hs.env s
    lps := fun s s' o h => absurd rfl ((key s _ h (by simp)).2.1 s' o)
    lss := fun s z s' o m k h => absurd rfl ((key s _ h (by simp)).2.2 z s' o m k)
    locs := fun s s' l l' b h h' => hs.locs s s' l l' b (key s _ h (by simp)).1 (key s' _ h' (by simp)).1
    locH := fun s l b k r δ h => hs.locH s l b k r δ (key s _ h (by simp)).1
    fresh := fun s l b h => hs.fresh s l b (key s _ h (by simp)).1 }

/-- A loop, by how many rounds it may take. -/
theorem wp_loop_n {code : Code} {Q : Go.Exit → Act → World → Prop} (J : Nat → Act → World → Prop) (zero : ∀ a w, ¬ J 0 a w)
    (round : ∀ m a w, J (m + 1) a w → code.wp P (Go.Exit.then (J m) Q) a w) {m : Nat} {a : Act} {w : World} (h0 : J m a w) : (Code.loop code).wp P Q a w := by
  intro b k cs
  have key : ∀ m a w, J m a w → ∃ e a' w', Q e a' w' ∧ Go.Arrives P (Go.lone (b.at a (.code code :: .inLoop code :: k)) cs w) b k cs e a' w' := by
    intro m
    induction m with
    | zero => intro a w h; exact absurd h (zero a w)
    | succ m ih =>
      intro a w h
      obtain ⟨e, a₁, w₁, hq, harr⟩ := round m a w h b (.inLoop code :: k) cs
      cases e with
      | normal =>
        obtain ⟨e₂, a₂, w₂, hq₂, harr₂⟩ := ih a₁ w₁ hq
        exact ⟨e₂, a₂, w₂, hq₂, .of_steps (Go.Steps.trans harr (.one Go.step_inLoop)) harr₂⟩
      | exit id => exact ⟨_, a₁, w₁, hq, .pass (x := .inLoop code) rfl (fun _ _ => .inl (by simp)) harr⟩
      | goto l => exact ⟨_, a₁, w₁, hq, .pass (x := .inLoop code) rfl (fun _ _ => .inl (by simp)) harr⟩
      | ret => exact ⟨_, a₁, w₁, hq, .pass (x := .inLoop code) rfl (fun _ _ => .inl (by simp)) harr⟩
      | panic ch => exact ⟨_, a₁, w₁, hq, .pass (x := .inLoop code) rfl (fun _ _ => .inl (by simp)) harr⟩
      | outgrown => exact ⟨_, a₁, w₁, hq, .pass (x := .inLoop code) rfl (fun _ _ => .inl (by simp)) harr⟩
  obtain ⟨e, a', w', hq, harr⟩ := key m a w h0
  exact ⟨e, a', w', hq, .of_steps (.one Go.step_loop) harr⟩

def chkStm (P : Program) (φ : Nat → Option FuncId) (ψ : Prim → FuncId → Bool) (n : Nat) : Code → Stm → Bool
  | .skip, .reg [] _ => true
  | .region _ ops draw, .reg ms _ => chkReg P φ ψ n ops draw ms
  | .seq x y, .seq s t => chkStm P φ ψ n x s && chkStm P φ ψ n y t
  | .cond b x y, .cond b' s t => chkX φ b b' && chkStm P φ ψ n x s && chkStm P φ ψ n y t
  | .block i x, .block j s => i == j && chkStm P φ ψ n x s
  | .loop x, .loop _ s => chkStm P φ ψ n x s
  | .exit i, .exit j _ => i == j
  | .ret, .ret => true
  | _, _ => false

def exG : Ex → Go.Exit
  | .norm => .normal
  | .exit id => .exit id
  | .ret => .ret

def Done (φ : Nat → Option FuncId) (B : Base) (n : Nat) (Q : Go.Exit → Act → World → Prop) (ex : Ex) (st : St) : Prop :=
  ∀ a w O loc, Sim φ B n st a w O loc [] → Q (exG ex) a w

theorem stm_wp (hE : Env0 P φ ψ) (hC : CallOk P φ c) (hm : P.follows .mixedOrders = true) (N : Nat) : ∀ (s : Stm) (code : Code), chkStm P φ ψ n code s = true →
    ∀ {Q : Go.Exit → Act → World → Prop} {st st' : St} {ex : Ex} {a : Act} {w : World} {O : Nat → Prop} {loc : List (Nat × Nat)}, Sim φ B n st a w O loc [] → execW c (iter N) s st = some (ex, st') →
      Done φ B n Q ex st' → code.wp P Q a w := by
  intro s
  induction s with
  | reg ms keep =>
    intro code hc Q st st' ex a w O loc hs he hQ
    simp only [execW] at he
    split at he
    · rename_i s1 h1
      simp only [Option.some.injEq, Prod.mk.injEq] at he
      obtain ⟨rfl, rfl⟩ := he
      cases code <;> try (simp [chkStm] at hc; done)
      case skip =>
        cases ms with
        | nil =>
          simp only [execOps, Option.some.injEq] at h1
          subst h1
          exact Go.wp_skip (hQ _ _ _ _ (hs.keep keep))
        | cons m ms => simp [chkStm] at hc
      case region id ops draw => exact reg_wp hE hC hm (by simpa only [chkStm] using hc) hs h1 fun a' w' O' loc' D' h => hQ _ _ _ _ (h.keep keep)
    · simp at he
  | seq x y ihx ihy =>
    intro code hc Q st st' ex a w O loc hs he hQ
    cases code <;> simp only [chkStm, Bool.false_eq_true, Bool.and_eq_true] at hc
    simp only [execW] at he
    refine Go.wp_seq ?_
    cases hx : execW c (iter N) x st with
    | none => simp [hx] at he
    | some r =>
      obtain ⟨e1, s1⟩ := r
      refine ihx _ hc.1 hs hx fun a' w' O' loc' h => ?_
      rw [hx] at he
      cases e1 with
      | norm => exact ihy _ hc.2 h he hQ
      | exit id =>
        simp only [Option.some.injEq, Prod.mk.injEq] at he
        obtain ⟨rfl, rfl⟩ := he
        exact hQ _ _ _ _ h
      | ret =>
        simp only [Option.some.injEq, Prod.mk.injEq] at he
        obtain ⟨rfl, rfl⟩ := he
        exact hQ _ _ _ _ h
  | cond b x y ihx ihy =>
    intro code hc Q st st' ex a w O loc hs he hQ
    cases code <;> try (simp [chkStm] at hc; done)
    case cond b' x' y' =>
      simp only [chkStm, Bool.and_eq_true] at hc
      simp only [execW] at he
      have hv := ev_VL hs hc.1.1
      split at he
      · rename_i t ht
        rw [ht] at hv
        have hb : a.eval b' = .bool t := by
          generalize a.eval b' = A at hv
          cases hv; rfl
        refine Go.wp_cond_split hb (fun e => ?_) (fun e => ?_)
        · subst e
          exact ihx _ hc.1.2 hs (by simpa using he) hQ
        · subst e
          exact ihy _ hc.2 hs (by simpa using he) hQ
      · simp at he
  | block id x ih =>
    intro code hc Q st st' ex a w O loc hs he hQ
    cases code <;> simp only [chkStm, Bool.false_eq_true, Bool.and_eq_true, beq_iff_eq] at hc
    obtain ⟨rfl, hc⟩ := hc
    simp only [execW] at he
    refine Go.wp_block ?_
    cases hx : execW c (iter N) x st with
    | none => simp [hx] at he
    | some r =>
      obtain ⟨e1, s1⟩ := r
      refine ih _ hc hs hx fun a' w' O' loc' h => ?_
      rw [hx] at he
      cases e1 with
      | norm =>
        simp only [Option.some.injEq, Prod.mk.injEq] at he
        obtain ⟨rfl, rfl⟩ := he
        exact hQ _ _ _ _ h
      | exit j =>
        simp only [exG, Go.Exit.inBlock]
        simp only at he
        split at he
        · rename_i hj
          simp only [Option.some.injEq, Prod.mk.injEq] at he
          obtain ⟨rfl, rfl⟩ := he
          rw [if_pos hj]
          exact hQ _ _ _ _ h
        · rename_i hj
          simp only [Option.some.injEq, Prod.mk.injEq] at he
          obtain ⟨rfl, rfl⟩ := he
          rw [if_neg hj]
          exact hQ _ _ _ _ h
      | ret =>
        simp only [Option.some.injEq, Prod.mk.injEq] at he
        obtain ⟨rfl, rfl⟩ := he
        exact hQ _ _ _ _ h
  | loop keep x ih =>
    intro code hc Q st st' ex a w O loc hs he hQ
    cases code <;> simp only [chkStm, Bool.false_eq_true] at hc
    simp only [execW] at he
    refine wp_loop_n (m := N) (fun m a w => ∃ st O loc, Sim φ B n st a w O loc [] ∧ iter m (execW c (iter N) x) st = some (ex, st')) ?_ ?_ ⟨_, O, loc, hs.keep keep, he⟩
    · rintro a w ⟨st, O, loc, _, h⟩
      simp [iter] at h
    · rintro m a w ⟨st, O, loc, hs, h⟩
      simp only [iter] at h
      cases hx : execW c (iter N) x st with
      | none => simp [hx] at h
      | some r =>
        obtain ⟨e1, s1⟩ := r
        refine ih _ hc hs hx fun a' w' O' loc' h' => ?_
        rw [hx] at h
        cases e1 with
        | norm => exact ⟨s1, O', loc', h', h⟩
        | exit j =>
          simp only [Option.some.injEq, Prod.mk.injEq] at h
          obtain ⟨rfl, rfl⟩ := h
          exact hQ _ _ _ _ h'
        | ret =>
          simp only [Option.some.injEq, Prod.mk.injEq] at h
          obtain ⟨rfl, rfl⟩ := h
          exact hQ _ _ _ _ h'
  | exit id keep =>
    intro code hc Q st st' ex a w O loc hs he hQ
    cases code <;> simp only [chkStm, Bool.false_eq_true, beq_iff_eq] at hc
    subst hc
    simp only [execW, Option.some.injEq, Prod.mk.injEq] at he
    obtain ⟨rfl, rfl⟩ := he
    exact Go.wp_exit (hQ _ _ _ _ (hs.keep keep))
  | ret =>
    intro code hc Q st st' ex a w O loc hs he hQ
    cases code <;> simp only [chkStm, Bool.false_eq_true] at hc
    simp only [execW, Option.some.injEq, Prod.mk.injEq] at he
    obtain ⟨rfl, rfl⟩ := he
    exact Go.wp_ret (hQ _ _ _ _ hs)

/- ## More slots do no harm -/

theorem dstOk_mono {n n' : Nat} (h : n ≤ n') {m : MO} (hm : dstOk n m = true) : dstOk n' m = true := by
  simp only [dstOk, Bool.and_eq_true] at hm ⊢
  refine ⟨⟨hm.1.1, ?_⟩, hm.2⟩
  have := hm.1.2
  split at this <;> simp only [decide_eq_true_eq] at this ⊢
  omega

theorem chkOpers_mono {n n' : Nat} (h : n ≤ n') {ops : List Oper} : ∀ (os : List Oper) (ms : List MO), chkOpers P φ ψ n ops os ms = true → chkOpers P φ ψ n' ops os ms = true
  | [], [], _ => rfl
  | [], _ :: _, h => by simp [chkOpers] at h
  | _ :: _, [], h => by simp [chkOpers] at h
  | o :: os, m :: ms, hh => by
    simp only [chkOpers, chkOper, Bool.and_eq_true] at hh ⊢
    exact ⟨⟨⟨⟨hh.1.1.1.1, dstOk_mono h hh.1.1.1.2⟩, hh.1.1.2⟩, hh.1.2⟩, chkOpers_mono h os ms hh.2⟩

theorem chkStm_mono {n n' : Nat} (h : n ≤ n') : ∀ (s : Stm) (code : Code), chkStm P φ ψ n code s = true → chkStm P φ ψ n' code s = true := by
  intro s
  induction s with
  | reg ms keep =>
    intro code hc
    cases code <;> try (simp [chkStm] at hc; done)
    case skip =>
      cases ms with
      | nil => rfl
      | cons m ms => simp [chkStm] at hc
    case region id ops draw =>
      simp only [chkStm, chkReg, Bool.and_eq_true] at hc ⊢
      exact ⟨⟨chkOpers_mono h _ _ hc.1.1, hc.1.2⟩, hc.2⟩
  | seq x y ihx ihy =>
    intro code hc
    cases code <;> simp only [chkStm, Bool.false_eq_true, Bool.and_eq_true] at hc
    simp only [chkStm, Bool.and_eq_true]
    exact ⟨ihx _ hc.1, ihy _ hc.2⟩
  | cond b x y ihx ihy =>
    intro code hc
    cases code <;> simp only [chkStm, Bool.false_eq_true, Bool.and_eq_true] at hc
    simp only [chkStm, Bool.and_eq_true]
    exact ⟨⟨hc.1.1, ihx _ hc.1.2⟩, ihy _ hc.2⟩
  | block id x ih =>
    intro code hc
    cases code <;> simp only [chkStm, Bool.false_eq_true, Bool.and_eq_true] at hc
    simp only [chkStm, Bool.and_eq_true]
    exact ⟨hc.1, ih _ hc.2⟩
  | loop keep x ih =>
    intro code hc
    cases code <;> simp only [chkStm, Bool.false_eq_true] at hc
    simp only [chkStm]
    exact ih _ hc
  | exit id keep =>
    intro code hc
    cases code <;> simp only [chkStm, Bool.false_eq_true] at hc ⊢
    exact hc
  | ret =>
    intro code hc
    cases code <;> simp only [chkStm, Bool.false_eq_true] at hc ⊢

end
end Mir
