/- Operations that leave memory alone: what the small language computes, the machine computes. Conditions: none. -/
import Derived.Test.YtbbgobliklljjaaEqs
set_option linter.unusedVariables false
set_option linter.unusedSimpArgs false
namespace Mir
open Go (Value Addr IntKind World Obj Act Program FuncId TypeId Operand Op Oper Code TypeDesc Sem Result)

theorem wp_val {P : Program} {o : Oper} {a : Act} {w w' : World} {x : Value} {K : Act → World → Prop} {Q : Go.Exit → Act → World → Prop}
    (h : (Go.execOp a.eval o).run P w = .ok (.value x) w') (hk : K (a.put o.dst x) w') : o.wp P a w K Q := by
  unfold Go.Oper.wp; rw [h]; exact hk

theorem wp_skip {P : Program} {o : Oper} {a : Act} {w w' : World} {K : Act → World → Prop} {Q : Go.Exit → Act → World → Prop}
    (h : (Go.execOp a.eval o).run P w = .ok .skip w') (hk : K (a.put o.dst Go.undef) w') : o.wp P a w K Q := by
  unfold Go.Oper.wp; rw [h]; exact hk

/-- Addresses of local variables that a value may be. -/
def LpIn (D : List Nat) (v : V) : Prop := (∀ s o, v = .lp s o → s ∈ D) ∧ (∀ z s o m k, v = .ls z s o m k → s ∈ D)

theorem LpIn.mono {D D' : List Nat} {v : V} (h : LpIn D v) (hd : ∀ s, s ∈ D → s ∈ D') : LpIn D' v := ⟨fun s o e => hd _ (h.1 s o e), fun z s o m k e => hd _ (h.2 z s o m k e)⟩

theorem LpIn.plain {D : List Nat} {v : V} (h1 : ∀ s o, v ≠ .lp s o) (h2 : ∀ z s o m k, v ≠ .ls z s o m k) : LpIn D v :=
  ⟨fun s o e => absurd e (h1 s o), fun z s o m k e => absurd e (h2 z s o m k)⟩

section
variable {P : Program} {φ : Nat → Option FuncId} {ψ : Prim → FuncId → Bool} {B : Base} {n : Nat} {st : St} {a : Act} {w : World} {O : Nat → Prop} {loc : List (Nat × Nat)} {D : List Nat}

theorem LpIn_ev (hs : Sim φ B n st a w O loc D) (y : Opd) (hy : ∀ v, y = .c v → (∀ s o, v ≠ .lp s o) ∧ (∀ z s o m k, v ≠ .ls z s o m k)) : LpIn D (ev st.e y) := by
  cases y with
  | c v => exact LpIn.plain (hy v rfl).1 (hy v rfl).2
  | t s =>
    simp only [ev]
    cases hg : get st.e s
    case lp s1 o1 => exact ⟨fun s' o e => by simp at e; rw [← e.1]; exact hs.lps _ _ _ hg, fun z s' o m k e => by simp at e⟩
    case ls z1 s1 o1 m1 k1 => exact ⟨fun s' o e => by simp at e, fun z s' o m k e => by simp at e; rw [← e.2.1]; exact hs.lss _ _ _ _ _ _ hg⟩
    all_goals exact LpIn.plain (by simp) (by simp)

theorem const_plain {x : Operand} {y : Opd} (h : chkX φ x y = true) : ∀ v, y = .c v → (∀ s o, v ≠ .lp s o) ∧ (∀ z s o m k, v ≠ .ls z s o m k) := by
  rintro v rfl
  constructor
  · rintro s o rfl
    cases x <;> simp [chkX] at h
    rename_i u; cases u <;> simp [chkV, chkC] at h
  · rintro z s o m k rfl
    cases x <;> simp [chkX] at h
    rename_i u; cases u <;> simp [chkV, chkC] at h

theorem LpIn_ea (hs : Sim φ B n st a w O loc D) {x : Operand} {y : Opd} (h : chkX φ x y = true) : LpIn (D ++ y.slots) (ea st.e y) := by
  cases y with
  | c v => exact LpIn.plain (const_plain h v rfl).1 (const_plain h v rfl).2
  | t s =>
    simp only [ea, Opd.slots]
    cases hg : get st.e s
    case loc l => exact ⟨fun s' o e => by simp at e; simp [e.1], fun z s' o m k e => by simp at e⟩
    case lp s1 o1 => exact ⟨fun s' o e => by simp at e; rw [← e.1]; exact List.mem_append_left _ (hs.lps _ _ _ hg), fun z s' o m k e => by simp at e⟩
    case ls z1 s1 o1 m1 k1 => exact ⟨fun s' o e => by simp at e, fun z s' o m k e => by simp at e; rw [← e.2.1]; exact List.mem_append_left _ (hs.lss _ _ _ _ _ _ hg)⟩
    all_goals exact LpIn.plain (by simp) (by simp)

/-- What a slot's value says once it is known to be no address of a local variable. -/
theorem VL_plain {c : Cx} {t : Array Value} {v : V} {x : Value} (h : VL φ c t v x) (h1 : ∀ s o, v ≠ .lp s o) (h2 : ∀ z s o m k, v ≠ .ls z s o m k) : VR φ c v x := by
  cases v <;> first
    | exact h
    | exact absurd rfl (h1 _ _)
    | exact absurd rfl (h2 _ _ _ _ _)
    | exact h.elim

theorem ixOf_ok {c : Cx} {t : Array Value} {v : V} {x : Value} (h : VL φ c t v x) {k j : Nat} (hj : ixOf k v = some j) : ∃ q z, x = .int q z ∧ 0 ≤ z ∧ z < k ∧ z.toNat = j := by
  cases v <;> simp only [ixOf, reduceCtorEq] at hj
  · split at hj
    · simp only [Option.some.injEq] at hj
      cases h
      exact ⟨_, _, rfl, by omega, by omega, hj⟩
    · simp at hj
  · split at hj
    · simp only [Option.some.injEq] at hj
      cases h
      exact ⟨_, _, rfl, by omega, by omega, by omega⟩
    · simp at hj

theorem run_asInt {x : Value} {q : IntKind} {z : Int} (h : x = .int q z) (w : World) : (Go.asIntOf x).run P w = .ok (q, z) w := by subst h; rfl

theorem addr_add (b o k : Nat) : (⟨b, o, none⟩ : Addr).add k = ⟨b, o + k, none⟩ := by
  unfold Addr.add; split <;> simp_all

/-- A pointer's value, moved. -/
theorem offV_ok {c : Cx} {t : Array Value} {v u : V} {x : Value} (h : VL φ c t v x) {k : Nat} (hu : offV k v = some u) :
    ∃ b o, x = .pointer (some ⟨b, o, none⟩) ∧ VL φ c t u (.pointer (some ⟨b, o + k, none⟩)) ∧ (∀ D, LpIn D v → LpIn D u) := by
  cases v <;> simp only [offV, Option.some.injEq, reduceCtorEq] at hu <;> subst hu
  · cases h
    exact ⟨_, _, rfl, by rw [Nat.add_assoc]; exact VR.vr _ _ _ _ _ ‹_› ‹_› ‹_›, fun D _ => LpIn.plain (by simp) (by simp)⟩
  · cases h
    exact ⟨_, _, rfl, by rw [Nat.add_assoc]; exact VR.hp _ _ _ _ ‹_›, fun D _ => LpIn.plain (by simp) (by simp)⟩
  · obtain ⟨b, hb, rfl⟩ := h
    refine ⟨b, _, rfl, ⟨b, hb, rfl⟩, fun D hD => ⟨fun s o e => ?_, fun z s o m k e => (by simp at e)⟩⟩
    simp at e; exact hD.1 _ _ (by rw [e.1])

/-- One cell or several of a row, as they lie in memory. -/
theorem run_loadVar {c : Cx} {t : TypeId} {q : Option Nat} (ht : partOk P t q = true) {l : List V} {o : Nat} {v : V} (hv : part l o q = some v) (w : World) {b δ : Nat} {y : Nat → Value}
    (hc : ∀ j, j < l.length → w.cell? ⟨b, δ + j, none⟩ = some (y j)) (hr : ∀ j (h : j < l.length), VR φ c l[j] (y j)) :
    ∃ x, (Go.loadVar t ⟨b, δ + o, none⟩).run P w = .ok x w ∧ VR φ c v x := by
  cases q with
  | none =>
    simp only [partOk, Bool.and_eq_true, Bool.not_eq_true', beq_iff_eq] at ht
    simp only [part] at hv
    obtain ⟨ho, hv⟩ := List.getElem?_eq_some_iff.1 hv
    refine ⟨y o, ?_, by rw [← hv]; exact hr o ho⟩
    simp only [Go.loadVar, Go.Sem.run_bind, run_isAgg ht.1.1, ht.1.2, Result.andThen_ok, Bool.false_eq_true, if_false, Go.run_load, hc o ho]
  | some k =>
    simp only [partOk, Bool.and_eq_true, beq_iff_eq] at ht
    have hu : (P.underlying t).isSome = true := by
      have := ht.1; unfold isAggT at this
      cases hu : P.underlying t with
      | none => simp [hu] at this
      | some _ => rfl
    simp only [part] at hv
    split at hv
    · rename_i hle
      simp only [Option.some.injEq] at hv
      subst hv
      refine ⟨.agg ((List.range k).map fun j => y (o + j)).toArray, ?_, .agg _ _ ?_ ?_⟩
      · simp only [Go.loadVar, Go.Sem.run_bind, run_isAgg hu, ht.1, Result.andThen_ok, if_true, run_size ht.2]
        rw [Go.run_loadCells w ⟨b, δ + o, none⟩ k (fun j => y (o + j)) (fun j hj => by rw [addr_add, Nat.add_assoc]; exact hc _ (by omega))]
        simp
      · simp; omega
      · intro j h h'
        simp at h h'
        simp only [List.getElem_take, List.getElem_drop, List.getElem_toArray, List.getElem_map, List.getElem_range]
        exact hr _ _
    · simp at hv

theorem cellH_cell {w : World} {b o : Nat} : cellH (fun b => w.heap[b]?) b o = w.cell? ⟨b, o, none⟩ := by
  simp only [cellH, World.cell?]
  cases w.heap[b]? with
  | none => rfl
  | some x => cases x <;> simp

theorem RowAt.cells {c : Cx} {l : List V} {b δ : Nat} {cs : Array Value} {T : Nat} {fz : Nat × Nat} {w : World} (h : RowAt φ c l b δ cs T fz) (hw : c.hp b = w.heap[b]?) :
    ∃ y : Nat → Value, (∀ j, j < l.length → w.cell? ⟨b, δ + j, none⟩ = some (y j)) ∧ (∀ j (h : j < l.length), VR φ c l[j] (y j)) := by
  refine ⟨fun j => cs[δ + j]?.getD Go.undef, fun j hj => ?_, fun j hj => ?_⟩
  · have hlt : δ + j < cs.size := by have := h.room; omega
    have hb := h.block
    rw [hw] at hb
    simp [World.cell?, hb, hlt]
  · have hlt : δ + j < cs.size := by have := h.room; omega
    simp only [hlt, Array.getElem?_eq_getElem, Option.getD_some]
    exact h.cell j hj hlt

/-- Bounds of a slice expression. -/
theorem bounds_ok (hs : Sim φ B n st a w O loc D) {lo' hi' : Option Operand} {lo hi : Option Opd} (h1 : chkO φ lo' lo = true) (h2 : chkO φ hi' hi = true) {len cap cap' p q : Nat} (isS : Bool)
    (hb : bounds len cap st.e lo hi = some (p, q)) (hcap : cap ≤ cap') :
    (Go.Instr.sliceBounds isS len cap' (lo'.map a.eval) (hi'.map a.eval) none).run P w = .ok (p, q, cap') w ∧ p ≤ q ∧ (q ≤ cap ∨ q = len) := by
  unfold bounds at hb
  cases hi with
  | none =>
    cases hi' with
    | some _ => simp [chkO] at h2
    | none =>
      simp only at hb
      cases lo with
      | none =>
        cases lo' with
        | some _ => simp [chkO] at h1
        | none =>
          simp only [Option.some.injEq, Prod.mk.injEq] at hb
          obtain ⟨rfl, rfl⟩ := hb
          exact ⟨by simp [Go.Instr.sliceBounds], Nat.zero_le _, .inr rfl⟩
      | some y =>
        cases lo' with
        | none => simp [chkO] at h1
        | some x =>
          simp only [chkO] at h1
          simp only at hb
          cases hj : ixOf (len + 1) (ev st.e y) with
          | none => simp [hj] at hb
          | some j =>
            simp only [hj, Option.some.injEq, Prod.mk.injEq] at hb
            obtain ⟨rfl, rfl⟩ := hb
            obtain ⟨qk, z, hx, hz0, hz1, hz⟩ := ixOf_ok (ev_VL hs h1) hj
            refine ⟨?_, by omega, .inr rfl⟩
            simp only [Go.Instr.sliceBounds, Go.Instr.sliceBound, Go.Sem.run_bind, Option.map_some, Option.map_none, Go.Sem.run_pure, Result.andThen_ok, run_asInt hx]
            rw [if_pos ⟨hz0, by omega⟩]
            simp [hz]
  | some y2 =>
    cases hi' with
    | none => simp [chkO] at h2
    | some x2 =>
      simp only [chkO] at h2
      simp only at hb
      cases hj2 : ixOf (cap + 1) (ev st.e y2) with
      | none => simp [hj2] at hb
      | some q' =>
        simp only [hj2] at hb
        obtain ⟨qk2, z2, hx2, hz20, hz21, hz2⟩ := ixOf_ok (ev_VL hs h2) hj2
        cases lo with
        | none =>
          cases lo' with
          | some _ => simp [chkO] at h1
          | none =>
            simp only [Option.some.injEq, Prod.mk.injEq] at hb
            obtain ⟨rfl, rfl⟩ := hb
            refine ⟨?_, Nat.zero_le _, .inl (by omega)⟩
            simp only [Go.Instr.sliceBounds, Go.Instr.sliceBound, Go.Sem.run_bind, Option.map_some, Option.map_none, Go.Sem.run_pure, Result.andThen_ok, run_asInt hx2]
            rw [if_pos ⟨hz20, by omega⟩]
            simp [hz2]
        | some y =>
          cases lo' with
          | none => simp [chkO] at h1
          | some x =>
            simp only [chkO] at h1
            simp only at hb
            cases hj : ixOf (q' + 1) (ev st.e y) with
            | none => simp [hj] at hb
            | some j =>
              simp only [hj, Option.some.injEq, Prod.mk.injEq] at hb
              obtain ⟨rfl, rfl⟩ := hb
              obtain ⟨qk, z, hx, hz0, hz1, hz⟩ := ixOf_ok (ev_VL hs h1) hj
              refine ⟨?_, by omega, .inl (by omega)⟩
              simp only [Go.Instr.sliceBounds, Go.Instr.sliceBound, Go.Sem.run_bind, Option.map_some, Option.map_none, Go.Sem.run_pure, Result.andThen_ok, run_asInt hx, run_asInt hx2]
              rw [if_pos ⟨hz20, by omega⟩]
              simp only [Go.Sem.run_pure, Result.andThen_ok, hz2]
              rw [if_pos ⟨hz0, by omega⟩]
              simp [hz]

end
end Mir
