/- Calls of the small language without fuel: the equations that they obey. Conditions: none. -/
import Derived.Test.YtmfbmdbabebhmaaGreatMir
set_option linter.unusedVariables false
namespace Mir

def Mono {α : Type} (f : Nat → Option α) : Prop := ∀ n a, f n = some a → f (n + 1) = some a

theorem Mono.le {α : Type} {f : Nat → Option α} (h : Mono f) {n m : Nat} (hnm : n ≤ m) {a : α} (ha : f n = some a) : f m = some a := by
  induction hnm with
  | refl => exact ha
  | step _ ih => exact h _ _ ih

open Classical in
noncomputable def lim {α : Type} (f : Nat → Option α) : Option α := if h : ∃ n a, f n = some a then some (choose (choose_spec h)) else none

theorem lim_some {α : Type} {f : Nat → Option α} (hm : Mono f) {a : α} : lim f = some a ↔ ∃ n, f n = some a := by
  unfold lim
  constructor
  · intro h
    split at h
    · rename_i hx
      refine ⟨Classical.choose hx, ?_⟩
      have := Classical.choose_spec (Classical.choose_spec hx)
      rw [this]; exact h
    · simp at h
  · rintro ⟨n, hn⟩
    have hx : ∃ n a, f n = some a := ⟨n, a, hn⟩
    rw [dif_pos hx]
    have h1 := Classical.choose_spec (Classical.choose_spec hx)
    have h2 := hm.le (Nat.le_max_left (Classical.choose hx) n) h1
    have h3 := hm.le (Nat.le_max_right (Classical.choose hx) n) hn
    rw [h3] at h2
    exact congrArg some (Option.some.inj h2).symm

/-- 'x is at most y': where x answers, y answers alike. -/
def Lq {α : Type} (x y : Option α) : Prop := ∀ a, x = some a → y = some a

theorem Lq.refl {α : Type} (x : Option α) : Lq x x := fun _ h => h
theorem Lq.trans {α : Type} {x y z : Option α} (h : Lq x y) (k : Lq y z) : Lq x z := fun a ha => k a (h a ha)

abbrev Call := Nat → List V → Heap → Option (V × Heap)

def CLe (c c' : Call) : Prop := ∀ f a h, Lq (c f a h) (c' f a h)

section
variable {c c' : Call} (hc : CLe c c')
include hc

theorem callV_le (e : Env) (h : Heap) (f : Nat) (rs : List Nat) (args : List V) : Lq (callV c e h f rs args) (callV c' e h f rs args) := by
  intro r hr
  unfold callV at *
  cases rs with
  | nil =>
    simp only at hr ⊢
    by_cases ha : args.all (noHp 8) = true
    · rw [if_pos ha] at hr ⊢
      cases hx : c f args [] with
      | none => simp [hx] at hr
      | some x => rw [hc f args [] x hx]; simpa [hx] using hr
    · rw [if_neg ha] at hr ⊢
      exact hc f args h r hr
  | cons s rs =>
    simp only at hr ⊢
    cases hl : lendAll e (s :: rs) args with
    | none => simp [hl] at hr
    | some vs =>
      simp only [hl] at hr ⊢
      by_cases hn : vs.all (noHp 3) = true
      · simp only [hn, if_true] at hr ⊢
        cases hx : c f vs [] with
        | none => simp [hx] at hr
        | some x => rw [hc f vs [] x hx]; simpa [hx] using hr
      · simp [hn] at hr

theorem evalO_le (o : MOp) (e : Env) (h : Heap) : Lq (evalO c o e h) (evalO c' o e h) := by
  cases o <;> try exact fun a ha => ha
  case call f rs args => exact callV_le hc e h f rs _
  case callo f args => exact fun r hr => hc f _ h r hr
  case callp f args =>
    intro r hr
    simp only [evalO] at *
    split at hr
    · rename_i hs
      rw [if_pos hs]
      cases hx : c f ((evAll e args).map san) [] with
      | none => simp [hx] at hr
      | some x => rw [hc f _ _ x hx]; simpa [hx] using hr
    · simp at hr
  case cal g args =>
    intro r hr
    simp only [evalO] at *
    cases hg : ev e g with
    | fn f a m =>
      simp only [hg] at hr ⊢
      exact callV_le hc e h f [] _ r hr
    | _ => simp [hg] at hr

theorem doO_le (o : MO) (st : St) : Lq (doO c o st) (doO c' o st) := by
  have gen : ∀ op, Lq (match evalO c op st.e st.h with | some (v, h) => some (⟨put o.d v st.e, h⟩ : St) | none => none)
      (match evalO c' op st.e st.h with | some (v, h) => some (⟨put o.d v st.e, h⟩ : St) | none => none) := by
    intro op r hr
    cases hx : evalO c op st.e st.h with
    | none => simp [hx] at hr
    | some x => rw [evalO_le hc op st.e st.h x hx]; simpa [hx] using hr
  obtain ⟨d, g, op⟩ := o
  cases op <;> first | exact gen _ | exact fun a ha => ha

theorem stepO_le (o : MO) (st : St) : Lq (stepO c o st) (stepO c' o st) := by
  obtain ⟨d, g, op⟩ := o
  cases g with
  | none => exact doO_le hc _ st
  | some p =>
    obtain ⟨s, w⟩ := p
    intro r hr
    simp only [stepO] at hr ⊢
    split at hr
    · rename_i x hx
      by_cases hxw : x = w
      · simp only [hxw, if_true] at hr ⊢
        exact doO_le hc _ st r hr
      · simpa [hxw] using hr
    · exact hr
    · simp at hr

theorem execOps_le (l : List MO) : ∀ st, Lq (execOps c l st) (execOps c' l st) := by
  induction l with
  | nil => exact fun st a ha => ha
  | cons o l ih =>
    intro st r hr
    simp only [execOps] at hr ⊢
    cases hx : stepO c o st with
    | none => simp [hx] at hr
    | some st' =>
      rw [stepO_le hc o st st' hx]
      simp only [hx] at hr
      exact ih st' r hr

end

abbrev It := (St → Option (Ex × St)) → St → Option (Ex × St)
def ILe (i i' : It) : Prop := ∀ f f', (∀ st, Lq (f st) (f' st)) → ∀ st, Lq (i f st) (i' f' st)

theorem execW_le {c c' : Call} (hc : CLe c c') {i i' : It} (hi : ILe i i') (s : Stm) : ∀ st, Lq (execW c i s st) (execW c' i' s st) := by
  induction s with
  | reg ops keep =>
    intro st r hr
    simp only [execW] at hr ⊢
    cases hx : execOps c ops st with
    | none => simp [hx] at hr
    | some st' => rw [execOps_le hc ops st st' hx]; simpa [hx] using hr
  | seq a b iha ihb =>
    intro st r hr
    simp only [execW] at hr ⊢
    cases hx : execW c i a st with
    | none => simp [hx] at hr
    | some x =>
      rw [iha st x hx]
      obtain ⟨e, st'⟩ := x
      cases e with
      | norm => simp only [hx] at hr; exact ihb st' r hr
      | _ => simpa [hx] using hr
  | cond o a b iha ihb =>
    intro st r hr
    simp only [execW] at hr ⊢
    split at hr
    · rename_i x hx
      cases x with
      | true => simp only [if_true] at hr ⊢; exact iha st r hr
      | false => simp only [Bool.false_eq_true, if_false] at hr ⊢; exact ihb st r hr
    · simp at hr
  | block id a ih =>
    intro st r hr
    simp only [execW] at hr ⊢
    cases hx : execW c i a st with
    | none => simp [hx] at hr
    | some x => rw [ih st x hx]; simpa [hx] using hr
  | loop keep a ih => intro st r hr; exact hi _ _ ih _ r hr
  | exit id keep => intro st r hr; exact hr
  | ret => intro st r hr; exact hr

theorem iter_fun_le {f f' : St → Option (Ex × St)} (h : ∀ st, Lq (f st) (f' st)) (n : Nat) : ∀ st, Lq (iter n f st) (iter n f' st) := by
  induction n with
  | zero => intro st r hr; simp [iter] at hr
  | succ n ih =>
    intro st r hr
    simp only [iter] at hr ⊢
    cases hx : f st with
    | none => simp [hx] at hr
    | some x =>
      rw [h st x hx]
      obtain ⟨e, st'⟩ := x
      cases e with
      | norm => simp only [hx] at hr; exact ih st' r hr
      | _ => simpa [hx] using hr

theorem iter_succ (f : St → Option (Ex × St)) (n : Nat) : ∀ st, Lq (iter n f st) (iter (n + 1) f st) := by
  induction n with
  | zero => intro st r hr; simp [iter] at hr
  | succ n ih =>
    intro st r hr
    rw [iter] at hr ⊢
    cases hx : f st with
    | none => simp [hx] at hr
    | some x =>
      obtain ⟨e, st'⟩ := x
      cases e with
      | norm => simp only [hx] at hr ⊢; exact ih st' r hr
      | _ => simpa [hx] using hr

theorem iter_le (f : St → Option (Ex × St)) {n m : Nat} (h : n ≤ m) (st : St) : Lq (iter n f st) (iter m f st) := by
  induction h with
  | refl => exact Lq.refl _
  | step _ ih => exact ih.trans (iter_succ f _ st)

/-- A loop without a bound on its rounds. -/
noncomputable def Iter : It := fun f st => lim fun n => iter n f st

theorem Iter_some {f : St → Option (Ex × St)} {st : St} {r : Ex × St} : Iter f st = some r ↔ ∃ n, iter n f st = some r :=
  lim_some fun n a ha => iter_succ f n st a ha

theorem ILe_iter_Iter (n : Nat) : ILe (iter n) Iter := fun f f' h st r hr => Iter_some.2 ⟨n, iter_fun_le h n st r hr⟩
theorem ILe_iter {n m : Nat} (h : n ≤ m) : ILe (iter n) (iter m) := fun f f' hf st r hr => iter_le f' h st r (iter_fun_le hf n st r hr)

theorem Iter_unfold (f : St → Option (Ex × St)) (st : St) : Iter f st = match f st with
    | some (.norm, st') => Iter f st'
    | r => r := by
  apply Option.ext
  intro r
  rw [Iter_some]
  constructor
  · rintro ⟨n, hn⟩
    cases n with
    | zero => simp [iter] at hn
    | succ n =>
      rw [iter] at hn
      cases hx : f st with
      | none => simp [hx] at hn
      | some x =>
        obtain ⟨e, st'⟩ := x
        cases e with
        | norm => simp only [hx] at hn ⊢; exact Iter_some.2 ⟨n, hn⟩
        | _ => simpa [hx] using hn
  · intro h
    cases hx : f st with
    | none => simp [hx] at h
    | some x =>
      obtain ⟨e, st'⟩ := x
      cases e with
      | norm =>
        simp only [hx] at h
        obtain ⟨n, hn⟩ := Iter_some.1 h
        exact ⟨n + 1, by simpa [iter, hx] using hn⟩
      | _ => exact ⟨1, by simpa [iter, hx] using h⟩

section
variable (T : Nat → Option MFn)

theorem finish_le (fn : MFn) (base : Nat) {x y : Option (Ex × St)} (h : Lq x y) : Lq (finish fn base x) (finish fn base y) := by
  intro r hr
  cases x with
  | none => simp [finish] at hr
  | some a => rw [h a rfl]; exact hr

theorem run_succ (n : Nat) : CLe (run T n) (run T (n + 1)) := by
  induction n with
  | zero => intro f a h r hr; simp [run] at hr
  | succ n ih =>
    intro f a h r hr
    rw [run] at hr ⊢
    cases hf : T f with
    | none => simp [hf] at hr
    | some fn =>
      simp only [hf] at hr ⊢
      exact finish_le fn h.length (execW_le ih (ILe_iter (Nat.le_succ n)) fn.body _) r hr

theorem run_le {n m : Nat} (h : n ≤ m) : CLe (run T n) (run T m) := by
  induction h with
  | refl => exact fun f a h => Lq.refl _
  | step _ ih => exact fun f a h => (ih f a h).trans (run_succ T _ f a h)

/-- A call, without fuel. -/
noncomputable def Run : Call := fun f args h => lim fun n => run T n f args h

theorem Run_some {f : Nat} {args : List V} {h : Heap} {r : V × Heap} : Run T f args h = some r ↔ ∃ n, run T n f args h = some r :=
  lim_some fun n a ha => run_succ T n f args h a ha

theorem run_Run (n : Nat) : CLe (run T n) (Run T) := fun f a h r hr => (Run_some T).2 ⟨n, hr⟩

/-- What a finite piece of work asks of calls, so much fuel answers. -/
theorem callV_fuel (e : Env) (h : Heap) (f : Nat) (rs : List Nat) (args : List V) (r : V × Heap) (hr : callV (Run T) e h f rs args = some r) :
    ∃ n, callV (run T n) e h f rs args = some r := by
  unfold callV at *
  cases rs with
  | nil =>
    simp only at hr ⊢
    by_cases ha : args.all (noHp 8) = true
    · simp only [if_pos ha] at hr ⊢
      cases hx : Run T f args [] with
      | none => simp [hx] at hr
      | some x =>
        obtain ⟨n, hn⟩ := (Run_some T).1 hx
        exact ⟨n, by rw [hn]; simpa [hx] using hr⟩
    · simp only [if_neg ha] at hr ⊢
      exact (Run_some T).1 hr
  | cons s rs =>
    simp only at hr ⊢
    cases hl : lendAll e (s :: rs) args with
    | none => simp [hl] at hr
    | some vs =>
      simp only [hl] at hr ⊢
      by_cases hn : vs.all (noHp 3) = true
      · simp only [hn, if_true] at hr ⊢
        cases hx : Run T f vs [] with
        | none => simp [hx] at hr
        | some x =>
          obtain ⟨n, hn⟩ := (Run_some T).1 hx
          exact ⟨n, by rw [hn]; simpa [hx] using hr⟩
      · simp [hn] at hr

theorem evalO_fuel (o : MOp) (e : Env) (h : Heap) (r : V × Heap) (hr : evalO (Run T) o e h = some r) : ∃ n, evalO (run T n) o e h = some r := by
  cases o <;> try exact ⟨0, hr⟩
  case call f rs args => exact callV_fuel T e h f rs _ r hr
  case callo f args => exact (Run_some T).1 hr
  case callp f args =>
    simp only [evalO] at *
    split at hr
    · rename_i hs
      cases hx : Run T f ((evAll e args).map san) [] with
      | none => simp [hx] at hr
      | some x =>
        obtain ⟨n, hn⟩ := (Run_some T).1 hx
        exact ⟨n, by rw [if_pos hs, hn]; simpa [hx] using hr⟩
    · simp at hr
  case cal g args =>
    simp only [evalO] at *
    cases hg : ev e g with
    | fn f a m => simp only [hg] at hr ⊢; exact callV_fuel T e h f [] _ r hr
    | _ => simp [hg] at hr

theorem doO_fuel (o : MO) (st st' : St) (hr : doO (Run T) o st = some st') : ∃ n, doO (run T n) o st = some st' := by
  have gen : ∀ op, (match evalO (Run T) op st.e st.h with | some (v, h) => some (⟨put o.d v st.e, h⟩ : St) | none => none) = some st' →
      ∃ n, (match evalO (run T n) op st.e st.h with | some (v, h) => some (⟨put o.d v st.e, h⟩ : St) | none => none) = some st' := by
    intro op hr
    cases hx : evalO (Run T) op st.e st.h with
    | none => simp [hx] at hr
    | some x =>
      obtain ⟨n, hn⟩ := evalO_fuel T op st.e st.h x hx
      exact ⟨n, by rw [hn]; simpa [hx] using hr⟩
  obtain ⟨d, g, op⟩ := o
  cases op <;> first | exact gen _ hr | exact ⟨0, hr⟩

theorem stepO_fuel (o : MO) (st st' : St) (hr : stepO (Run T) o st = some st') : ∃ n, stepO (run T n) o st = some st' := by
  obtain ⟨d, g, op⟩ := o
  cases g with
  | none => exact doO_fuel T _ st st' hr
  | some p =>
    obtain ⟨s, w⟩ := p
    simp only [stepO] at hr ⊢
    split at hr
    · rename_i x hx
      by_cases hxw : x = w
      · simp only [hxw, if_true] at hr ⊢
        exact doO_fuel T _ st st' hr
      · exact ⟨0, by simpa [hxw] using hr⟩
    · exact ⟨0, hr⟩
    · simp at hr

theorem execOps_fuel (l : List MO) : ∀ st st', execOps (Run T) l st = some st' → ∃ n, execOps (run T n) l st = some st' := by
  induction l with
  | nil => intro st st' h; exact ⟨0, h⟩
  | cons o l ih =>
    intro st st' hr
    simp only [execOps] at hr ⊢
    cases hx : stepO (Run T) o st with
    | none => simp [hx] at hr
    | some st1 =>
      simp only [hx] at hr
      obtain ⟨n, hn⟩ := stepO_fuel T o st st1 hx
      obtain ⟨m, hm⟩ := ih st1 st' hr
      refine ⟨max n m, ?_⟩
      rw [stepO_le (run_le T (Nat.le_max_left n m)) o st st1 hn]
      exact execOps_le (run_le T (Nat.le_max_right n m)) l st1 st' hm

theorem execW_fuel (s : Stm) : ∀ st r, execW (Run T) Iter s st = some r → ∃ n, execW (run T n) (iter n) s st = some r := by
  induction s with
  | reg ops keep =>
    intro st r hr
    simp only [execW] at hr ⊢
    cases hx : execOps (Run T) ops st with
    | none => simp [hx] at hr
    | some st' =>
      obtain ⟨n, hn⟩ := execOps_fuel T ops st st' hx
      exact ⟨n, by rw [hn]; simpa [hx] using hr⟩
  | seq a b iha ihb =>
    intro st r hr
    simp only [execW] at hr ⊢
    cases hx : execW (Run T) Iter a st with
    | none => simp [hx] at hr
    | some x =>
      obtain ⟨n, hn⟩ := iha st x hx
      obtain ⟨e, st'⟩ := x
      cases e with
      | norm =>
        simp only [hx] at hr
        obtain ⟨m, hm⟩ := ihb st' r hr
        refine ⟨max n m, ?_⟩
        rw [execW_le (run_le T (Nat.le_max_left n m)) (ILe_iter (Nat.le_max_left n m)) a st _ hn]
        exact execW_le (run_le T (Nat.le_max_right n m)) (ILe_iter (Nat.le_max_right n m)) b st' r hm
      | _ => exact ⟨n, by rw [hn]; simpa [hx] using hr⟩
  | cond o a b iha ihb =>
    intro st r hr
    simp only [execW] at hr ⊢
    split at hr
    · rename_i x hx
      cases x with
      | true => simp only [if_true] at hr ⊢; exact iha st r hr
      | false => simp only [Bool.false_eq_true, if_false] at hr ⊢; exact ihb st r hr
    · simp at hr
  | block id a ih =>
    intro st r hr
    simp only [execW] at hr ⊢
    cases hx : execW (Run T) Iter a st with
    | none => simp [hx] at hr
    | some x =>
      obtain ⟨n, hn⟩ := ih st x hx
      exact ⟨n, by rw [hn]; simpa [hx] using hr⟩
  | loop keep a ih =>
    intro st r hr
    simp only [execW] at hr ⊢
    obtain ⟨m, hm⟩ := Iter_some.1 hr
    have key : ∀ m st, iter m (execW (Run T) Iter a) st = some r → ∃ n, iter m (execW (run T n) (iter n) a) st = some r := by
      intro m
      induction m with
      | zero => intro st h; simp [iter] at h
      | succ m ihm =>
        intro st h
        rw [iter] at h
        cases hx : execW (Run T) Iter a st with
        | none => simp [hx] at h
        | some x =>
          obtain ⟨n, hn⟩ := ih st x hx
          obtain ⟨e, st'⟩ := x
          cases e with
          | norm =>
            simp only [hx] at h
            obtain ⟨k, hk⟩ := ihm st' h
            refine ⟨max n k, ?_⟩
            rw [iter, execW_le (run_le T (Nat.le_max_left n k)) (ILe_iter (Nat.le_max_left n k)) a st _ hn]
            exact iter_fun_le (execW_le (run_le T (Nat.le_max_right n k)) (ILe_iter (Nat.le_max_right n k)) a) m st' r hk
          | _ => exact ⟨n, by rw [iter, hn]; simpa [hx] using h⟩
    obtain ⟨n, hn⟩ := key m _ hm
    refine ⟨max n m, ?_⟩
    refine iter_le _ (Nat.le_max_right n m) _ r ?_
    exact iter_fun_le (execW_le (run_le T (Nat.le_max_left n m)) (ILe_iter (Nat.le_max_left n m)) a) m _ r hn
  | exit id keep => intro st r hr; exact ⟨0, hr⟩
  | ret => intro st r hr; exact ⟨0, hr⟩

/-- Statements, operations, calls without fuel. -/
noncomputable def Exec : Stm → St → Option (Ex × St) := execW (Run T) Iter

theorem Run_eq (f : Nat) (args : List V) (h : Heap) : Run T f args h = match T f with
    | some fn => finish fn h.length (Exec T fn.body ⟨zipE 0 args, h⟩)
    | none => none := by
  apply Option.ext
  intro r
  rw [Run_some]
  cases hf : T f with
  | none =>
    constructor
    · rintro ⟨n, hn⟩; cases n <;> simp [run, hf] at hn
    · intro h; simp at h
  | some fn =>
    constructor
    · rintro ⟨n, hn⟩
      cases n with
      | zero => simp [run] at hn
      | succ n =>
        simp only [run, hf] at hn
        exact finish_le fn h.length (execW_le (run_Run T n) (ILe_iter_Iter n) fn.body _) r hn
    · intro hr
      simp only at hr
      cases hx : Exec T fn.body ⟨zipE 0 args, h⟩ with
      | none => simp [hx, finish] at hr
      | some x =>
        obtain ⟨n, hn⟩ := execW_fuel T fn.body _ x hx
        exact ⟨n + 1, by simp only [run, hf]; rw [hn]; rw [← hx]; exact hr⟩

end
end Mir
