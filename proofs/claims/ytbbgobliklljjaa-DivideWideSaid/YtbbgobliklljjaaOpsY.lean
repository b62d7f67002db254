/- Operations that leave memory alone, all together. Conditions: none. -/
import Derived.Test.YtbbgobliklljjaaOpsX
set_option linter.unusedVariables false
set_option linter.unusedSimpArgs false
namespace Mir
open Go (Value Addr IntKind World Obj Act Program FuncId TypeId Operand Op Oper Code TypeDesc Sem Result)

section
variable {P : Program} {φ : Nat → Option FuncId} {ψ : Prim → FuncId → Bool} {B : Base} {n : Nat} {st : St} {a : Act} {w : World} {O : Nat → Prop} {loc : List (Nat × Nat)} {D : List Nat}

theorem chkXs_map {args : Array Operand} {xs : List Operand} (h : args.toList = xs) : args.map a.eval = (xs.map a.eval).toArray := by
  apply Array.ext'; simp [h]

/-- Many operands' values, none of them an address of a local variable. -/
theorem evAll_VR (hs : Sim φ B n st a w O loc D) {xs : List Operand} {ys : List Opd} (h : chkXs φ xs ys = true) (hp : (evAll st.e ys).all plainV = true) :
    VRs φ (CxOf w O loc) (evAll st.e ys) (xs.map a.eval) := by
  obtain ⟨h1, h2⟩ := evAll_ok hs xs ys h
  refine ⟨by simp [evAll, h1], fun j hj hj' => ?_⟩
  simp [evAll] at hj hj'
  have h3 := h2 j hj hj'
  simp only [evAll, List.getElem_map]
  refine VL_plainV h3 ?_
  rw [List.all_eq_true] at hp
  exact hp _ (by simp [evAll]; exact ⟨_, List.getElem_mem hj, rfl⟩)

variable (hs : Sim φ B n st a w O loc D) {o : Oper} {c : Call} {v : V} {h' : Heap}
include hs

theorem s2a_okR {k : Nat} {x : Opd} (hc : chkOp P φ ψ o.op (.s2a k x) = true) (he : evalO c (.s2a k x) st.e st.h = some (v, h')) : PureR P φ st a w O loc D (.s2a k x) o v h' := by
  simp only [chkOp] at hc
  split at hc
  · rename_i t x' ho
    simp only [Bool.and_eq_true] at hc
    obtain ⟨h1, hc⟩ := hc
    split at hc
    · rename_i k' e hk
      simp only [beq_iff_eq] at hc
      subst hc
      have hx := ev_VL hs h1
      have hL := LpIn_ev hs x (const_plain h1)
      simp only [evalO, Option.map_eq_some_iff, Prod.mk.injEq] at he
      obtain ⟨u, hu, rfl, rfl⟩ := he
      have run : ∀ (ad : Option Addr) (len cap : Nat) (A : Value), a.eval x' = A → A = .slice ad len cap → k' ≤ len → (Go.execOp a.eval o).run P w = .ok (.value (.pointer ad)) w := by
        rintro ad len cap A hA rfl hle
        have : ¬ len < k' := by omega
        simp [Go.execOp, ho, hA, Go.Instr.arrayAt, run_und (arrayT_und hk), this]
      generalize ev st.e x = X at *
      generalize hA : a.eval x' = A at *
      cases X <;> simp only [s2aV, reduceCtorEq] at hu <;> split at hu <;> simp only [Option.some.injEq, reduceCtorEq] at hu <;> subst hu <;> rename_i hle
      · cases hx with
        | vsn => omega
        | vs0 ad cap => omega
        | vs _ _ b o' cap y g0 g1 g2 g3 =>
          exact ⟨_, run _ _ _ _ rfl rfl hle.2, by simpa [VL] using (VR.vr _ 0 b o' y g1 g2 g3), rfl, LpIn.plain (by simp) (by simp)⟩
      · cases hx with
        | hs _ _ _ _ _ b δ cap' ad g1 g2 g3 g4 =>
          refine ⟨_, run _ _ _ _ rfl rfl hle.2, ?_, rfl, LpIn.plain (by simp) (by simp)⟩
          rw [(g4 (by omega)).1]
          exact VR.hp _ _ b δ g1
      · obtain ⟨b, ad, cap', hb, rfl, g2, g3, g4⟩ := hx
        refine ⟨_, run _ _ _ _ rfl rfl hle.2, ?_, rfl, ⟨fun s o e => ?_, fun z s o m k e => by simp at e⟩⟩
        · rw [g4 (by omega)]
          exact ⟨b, hb, rfl⟩
        · simp at e
          rw [← e.1]
          exact List.mem_append_left _ (hL.2 _ _ _ _ _ rfl)
    · simp at hc
  · simp at hc

omit hs in
theorem primV_add {E : List V} {u : V} (h : primV .add64 E = some u) : ∃ x y k, E = [.u 64 x, .u 64 y, .u 64 k] ∧ k ≤ 1 ∧ u = .tup [.u 64 ((x + y + k) % 2 ^ 64), .u 64 ((x + y + k) / 2 ^ 64)] := by
  unfold primV at h
  split at h
  · split at h
    · simp only [Option.some.injEq] at h; exact ⟨_, _, _, rfl, ‹_›, h.symm⟩
    · simp at h
  · rename_i heq; cases heq
  · simp at h

omit hs in
theorem primV_sub {E : List V} {u : V} (h : primV .sub64 E = some u) : ∃ x y k, E = [.u 64 x, .u 64 y, .u 64 k] ∧ k ≤ 1 ∧ u = .tup [.u 64 ((x + 2 ^ 64 - y - k) % 2 ^ 64), .u 64 (if x < y + k then 1 else 0)] := by
  unfold primV at h
  split at h
  · rename_i heq; cases heq
  · split at h
    · simp only [Option.some.injEq] at h; exact ⟨_, _, _, rfl, ‹_›, h.symm⟩
    · simp at h
  · simp at h

theorem prim_okR (hψ : ∀ p F, ψ p F = true → PrimOk P p F) {p : Prim} {args : List Opd} (hc : chkOp P φ ψ o.op (.prim p args) = true) (he : evalO c (.prim p args) st.e st.h = some (v, h')) :
    PureR P φ st a w O loc D (.prim p args) o v h' := by
  simp only [chkOp] at hc
  split at hc
  · rename_i F args' ts ho
    simp only [Bool.and_eq_true] at hc
    obtain ⟨hF, h1⟩ := hc
    have hp := hψ p F hF
    simp only [evalO, Option.map_eq_some_iff, Prod.mk.injEq] at he
    obtain ⟨u, hu, rfl, rfl⟩ := he
    have hpl : (evAll st.e args).all plainV = true := by
      generalize evAll st.e args = A at hu
      unfold primV at hu
      split at hu <;> simp [plainV] at hu ⊢
    have hv := evAll_VR hs h1 hpl
    have hm := chkXs_map (a := a) (args := args') rfl
    have hrun := run_call (P := P) (a := a) (w := w) ho
    rw [hm] at hrun
    generalize evAll st.e args = E at *
    generalize args'.toList.map a.eval = M at *
    have three : ∀ (x y k : Nat), E = [.u 64 x, .u 64 y, .u 64 k] → M = [.int .u64 x, .int .u64 y, .int .u64 k] ∧ x < 2 ^ 64 ∧ y < 2 ^ 64 := by
      rintro x y k rfl
      obtain ⟨l1, l2⟩ := hv
      match M, l1, l2 with
      | [m1, m2, m3], _, l2 =>
        have g1 := l2 0 (by simp) (by simp)
        have g2 := l2 1 (by simp) (by simp)
        have g3 := l2 2 (by simp) (by simp)
        simp only [List.getElem_cons_zero, List.getElem_cons_succ] at g1 g2 g3
        cases g1 with | u _ _ k1 e1 e2 => cases g2 with | u _ _ k2 e3 e4 => cases g3 with | u _ _ k3 e5 e6 =>
          simp [ukind] at e1 e3 e5
          subst e1; subst e3; subst e5
          exact ⟨rfl, e2, e4⟩
    have two : ∀ (x y : Nat), x < 2 ^ 64 → y < 2 ^ 64 → VR φ (CxOf w O loc) (.tup [.u 64 x, .u 64 y]) (.tuple #[.int .u64 x, .int .u64 y]) := by
      intro x y hx hy
      refine .tup _ _ rfl fun j h h' => ?_
      match j, h with
      | 0, _ => exact .u 64 x .u64 rfl hx
      | 1, _ => exact .u 64 y .u64 rfl hy
    cases p with
    | add64 =>
      obtain ⟨x, y, k, hE, hk, rfl⟩ := primV_add hu
      obtain ⟨hM, hx, hy⟩ := three x y k hE
      rw [hM] at hrun
      refine ⟨_, hrun.trans (hp x y k w hk), VL_of_VR (two _ _ (Nat.mod_lt _ (by decide)) ?_), rfl, LpIn.plain (by simp) (by simp)⟩
      have : (x + y + k) / 2 ^ 64 ≤ 1 := by omega
      omega
    | sub64 =>
      obtain ⟨x, y, k, hE, hk, rfl⟩ := primV_sub hu
      obtain ⟨hM, hx, hy⟩ := three x y k hE
      rw [hM] at hrun
      refine ⟨_, hrun.trans (hp x y k w hk), VL_of_VR (two _ _ (Nat.mod_lt _ (by decide)) ?_), rfl, LpIn.plain (by simp) (by simp)⟩
      split <;> omega
  · simp at hc

theorem fun_okR {f : Nat} {xs ys : List Opd} (hc : chkOp P φ ψ o.op (.fun_ f xs ys) = true) (he : evalO c (.fun_ f xs ys) st.e st.h = some (v, h')) : PureR P φ st a w O loc D (.fun_ f xs ys) o v h' := by
  simp only [chkOp] at hc
  split at hc
  · rename_i F a' c' ho
    simp only [Bool.and_eq_true, beq_iff_eq] at hc
    obtain ⟨⟨hF, h1⟩, h2⟩ := hc
    simp only [evalO] at he
    split at he
    · rename_i hpl
      simp only [Option.some.injEq, Prod.mk.injEq] at he
      obtain ⟨rfl, rfl⟩ := he
      simp only [Bool.and_eq_true] at hpl
      have hv1 := evAll_VR hs h1 hpl.1
      have hv2 := evAll_VR hs h2 hpl.2
      refine ⟨.func (.func F) (a'.map a.eval) (c'.map a.eval), ?_, VL_of_VR (.fn _ _ _ _ _ _ hF ?_ ?_ ?_ ?_), rfl, LpIn.plain (by simp) (by simp)⟩
      · simp [Go.execOp, ho, Go.Instr.makeFunc]
      · simpa using hv1.1
      · intro j h h'
        have := hv1.2 j h (by simpa using h')
        simpa using this
      · simpa using hv2.1
      · intro j h h'
        have := hv2.2 j h (by simpa using h')
        simpa using this
    · simp at he
  · simp at hc

omit hs in
theorem run_bi {b : Go.Builtin} {args : Array Operand} {ts : Array TypeId} (ho : o.op = .call { callee := .builtin b, args := args, argTypes := ts }) {xs : List Operand} (hxs : args.toList = xs) :
    ∃ ks, (Go.execOp a.eval o).run P w = (Go.builtin b ts o.type ks (xs.map a.eval).toArray).run P w := by
  rw [← chkXs_map hxs]
  simp only [Go.execOp, ho, Go.resolve, Go.Sem.run_bind, Go.Sem.run_pure, Result.andThen_ok, Go.invoke]
  exact ⟨_, rfl⟩

omit hs in
theorem chkXs_one {args : List Operand} {x : Opd} (h : chkXs φ args [x] = true) : ∃ x', args = [x'] ∧ chkX φ x' x = true := by
  match args, h with
  | [x'], h => simp only [chkXs, Bool.and_true] at h; exact ⟨x', rfl, h⟩
  | [], h => simp [chkXs] at h
  | _ :: _ :: _, h => simp [chkXs] at h

omit hs in
theorem chkXs_two {args : List Operand} {x y : Opd} (h : chkXs φ args [x, y] = true) : ∃ x' y', args = [x', y'] ∧ chkX φ x' x = true ∧ chkX φ y' y = true := by
  match args, h with
  | [x', y'], h => simp only [chkXs, Bool.and_true, Bool.and_eq_true] at h; exact ⟨x', y', rfl, h.1, h.2⟩
  | [], h => simp [chkXs] at h
  | [_], h => simp [chkXs] at h
  | _ :: _ :: _ :: _, h => simp [chkXs] at h

omit hs in
theorem ts0 {ts : Array TypeId} {t : TypeId} {rest : List TypeId} (h : ts.toList = t :: rest) : ts[0]? = some t := by
  have h2 : ts.toList[0]? = some t := by rw [h]; rfl
  simpa using h2

omit hs in
theorem len_slice {cx : Cx} {t : Array Value} {X : V} {A : Value} (hx : VL φ cx t X A) {m : Nat} (hm : lenV X = some m) : ∃ p q, A = .slice p m q := by
  cases X <;> simp only [lenV, Option.some.injEq, reduceCtorEq] at hm <;> subst hm
  · cases hx; exact ⟨_, _, rfl⟩
  · cases hx <;> exact ⟨_, _, rfl⟩
  · cases hx; exact ⟨_, _, rfl⟩
  · obtain ⟨b, ad, cap', _, rfl, _⟩ := hx; exact ⟨_, _, rfl⟩

theorem len_okR {x : Opd} (hc : chkOp P φ ψ o.op (.len x) = true) (he : evalO c (.len x) st.e st.h = some (v, h')) : PureR P φ st a w O loc D (.len x) o v h' := by
  simp only [chkOp] at hc
  split at hc
  · rename_i b args ts ho
    simp only [chkBuiltin, Bool.and_eq_true, beq_iff_eq] at hc
    obtain ⟨⟨rfl, h1⟩, ht⟩ := hc
    obtain ⟨x', hx', h1⟩ := chkXs_one h1
    simp only [evalO] at he
    split at he
    · rename_i m hm
      split at he
      · rename_i hlt
        simp only [Option.some.injEq, Prod.mk.injEq] at he
        obtain ⟨rfl, rfl⟩ := he
        obtain ⟨p, q, hA⟩ := len_slice (ev_VL hs h1) hm
        refine ⟨.int .i64 m, ?_, VL_of_VR (.i _ (by omega) (by omega)), rfl, LpIn.plain (by simp) (by simp)⟩
        obtain ⟨ks, hrun⟩ := run_bi (P := P) (a := a) (w := w) ho hx'
        rw [hrun]
        split at ht
        · rename_i t rest hts
          obtain ⟨e, he⟩ := Option.isSome_iff_exists.1 ht
          simp [Go.builtin, Go.Builtin.len_, ts0 hts, hA, run_und (sliceT_und he), Go.goInt]
        · simp at ht
      · simp at he
    · simp at he
  · simp at hc

theorem lens_okR {x : Opd} (hc : chkOp P φ ψ o.op (.lens x) = true) (he : evalO c (.lens x) st.e st.h = some (v, h')) : PureR P φ st a w O loc D (.lens x) o v h' := by
  simp only [chkOp] at hc
  split at hc
  · rename_i b args ts ho
    simp only [chkBuiltin, Bool.and_eq_true, beq_iff_eq] at hc
    obtain ⟨⟨rfl, h1⟩, ht⟩ := hc
    obtain ⟨x', hx', h1⟩ := chkXs_one h1
    have hx := ev_VL hs h1
    simp only [evalO] at he
    split at he
    · rename_i l hl
      split at he
      · rename_i hlt
        simp only [Option.some.injEq, Prod.mk.injEq] at he
        obtain ⟨rfl, rfl⟩ := he
        rw [hl] at hx
        generalize hA : a.eval x' = A at hx
        cases hx with
        | s _ ba hba =>
          have hsz := size_toNat hba
          refine ⟨.int .i64 l.length, ?_, VL_of_VR (.i _ (by omega) (by omega)), rfl, LpIn.plain (by simp) (by simp)⟩
          obtain ⟨ks, hrun⟩ := run_bi (P := P) (a := a) (w := w) ho hx'
          rw [hrun]
          split at ht
          · rename_i t rest hts
            simp [Go.builtin, Go.Builtin.len_, ts0 hts, hA, run_und (strT_und ht), Go.goInt, hsz]
          · simp at ht
      · simp at he
    · simp at he
  · simp at hc

theorem mn_okR {x y : Opd} (hc : chkOp P φ ψ o.op (.mn x y) = true) (he : evalO c (.mn x y) st.e st.h = some (v, h')) : PureR P φ st a w O loc D (.mn x y) o v h' := by
  simp only [chkOp] at hc
  split at hc
  · rename_i b args ts ho
    simp only [chkBuiltin, Bool.and_eq_true, beq_iff_eq] at hc
    obtain ⟨rfl, h1⟩ := hc
    obtain ⟨x', y', hx', h1, h2⟩ := chkXs_two h1
    have hx := ev_VL hs h1
    have hy := ev_VL hs h2
    simp only [evalO] at he
    split at he
    · rename_i p q hp hq
      simp only [Option.some.injEq, Prod.mk.injEq] at he
      obtain ⟨rfl, rfl⟩ := he
      rw [hp] at hx
      rw [hq] at hy
      generalize hA : a.eval x' = A at hx
      generalize hB : a.eval y' = B' at hy
      cases hx with
      | i _ e1 e2 => cases hy with
        | i _ e3 e4 =>
          refine ⟨.int .i64 (if q < p then q else p), ?_, VL_of_VR (.i _ (by split <;> omega) (by split <;> omega)), rfl, LpIn.plain (by simp) (by simp)⟩
          obtain ⟨ks, hrun⟩ := run_bi (P := P) (a := a) (w := w) ho hx'
          rw [hrun]
          simp [Go.builtin, Go.Builtin.min_, Go.Builtin.min2, hA, hB]
    · simp at he
  · simp at hc

theorem mx_okR {x y : Opd} (hc : chkOp P φ ψ o.op (.mx x y) = true) (he : evalO c (.mx x y) st.e st.h = some (v, h')) : PureR P φ st a w O loc D (.mx x y) o v h' := by
  simp only [chkOp] at hc
  split at hc
  · rename_i b args ts ho
    simp only [chkBuiltin, Bool.and_eq_true, beq_iff_eq] at hc
    obtain ⟨rfl, h1⟩ := hc
    obtain ⟨x', y', hx', h1, h2⟩ := chkXs_two h1
    have hx := ev_VL hs h1
    have hy := ev_VL hs h2
    simp only [evalO] at he
    split at he
    · rename_i p q hp hq
      simp only [Option.some.injEq, Prod.mk.injEq] at he
      obtain ⟨rfl, rfl⟩ := he
      rw [hp] at hx
      rw [hq] at hy
      generalize hA : a.eval x' = A at hx
      generalize hB : a.eval y' = B' at hy
      cases hx with
      | i _ e1 e2 => cases hy with
        | i _ e3 e4 =>
          refine ⟨.int .i64 (if p < q then q else p), ?_, VL_of_VR (.i _ (by split <;> omega) (by split <;> omega)), rfl, LpIn.plain (by simp) (by simp)⟩
          obtain ⟨ks, hrun⟩ := run_bi (P := P) (a := a) (w := w) ho hx'
          rw [hrun]
          simp [Go.builtin, Go.Builtin.max_, Go.Builtin.max2, hA, hB]
    · simp at he
  · simp at hc

end
end Mir
