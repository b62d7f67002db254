/- One module of several texts (Ops OpsV OpsW OpsX OpsY OpsZ). Conditions: none. -/
import Derived.Test.YtmfbmdbabebhmaaGreatEqs
import Derived.Test.YtmfbmdbabebhmaaGreatLim
set_option linter.unusedVariables false
set_option linter.unusedSimpArgs false
namespace Mir
open Go (Value Addr IntKind World Obj Act Program FuncId TypeId Operand Op Oper Code TypeDesc Sem Result)

theorem wp_val {P : Program} {o : Oper} {a : Act} {w w' : World} {x : Value} {K : Act → World → Prop} {Q : Go.Exit → Act → World → Prop}
    (h : (Go.execOp a.eval o).run P w = .ok (.value x) w') (hk : K (a.put o.dst x) w') : o.wp P a w K Q := by
  unfold Go.Oper.wp; rw [h]; exact hk

theorem wp_skip {P : Program} {o : Oper} {a : Act} {w w' : World} {K : Act → World → Prop} {Q : Go.Exit → Act → World → Prop}
    (h : (Go.execOp a.eval o).run P w = .ok .skip w') (hk : K (a.put o.dst Go.undef) w') : o.wp P a w K Q := by
  unfold Go.Oper.wp; rw [h]; exact hk

/-- Addresses of local variables that a value may be. -/
def LpIn (D : List Nat) (v : V) : Prop := (∀ s o, v = .lp s o → s ∈ D) ∧ (∀ z s o m k, v = .ls z s o m k → s ∈ D)

theorem LpIn.mono {D D' : List Nat} {v : V} (h : LpIn D v) (hd : ∀ s, s ∈ D → s ∈ D') : LpIn D' v := ⟨fun s o e => hd _ (h.1 s o e), fun z s o m k e => hd _ (h.2 z s o m k e)⟩

theorem LpIn.plain {D : List Nat} {v : V} (h1 : ∀ s o, v ≠ .lp s o) (h2 : ∀ z s o m k, v ≠ .ls z s o m k) : LpIn D v :=
  ⟨fun s o e => absurd e (h1 s o), fun z s o m k e => absurd e (h2 z s o m k)⟩

section
variable {P : Program} {φ : Nat → Option FuncId} {ψ : Prim → FuncId → Bool} {B : Base} {n : Nat} {st : St} {a : Act} {w : World} {O : Nat → Prop} {loc : List (Nat × Nat)} {D : List Nat}

theorem LpIn_ev (hs : Sim φ B n st a w O loc D) (y : Opd) (hy : ∀ v, y = .c v → (∀ s o, v ≠ .lp s o) ∧ (∀ z s o m k, v ≠ .ls z s o m k)) : LpIn D (ev st.e y) := by
  cases y with
  | c v => exact LpIn.plain (hy v rfl).1 (hy v rfl).2
  | t s =>
    simp only [ev]
    cases hg : get st.e s
    case lp s1 o1 => exact ⟨fun s' o e => by simp at e; rw [← e.1]; exact hs.lps _ _ _ hg, fun z s' o m k e => by simp at e⟩
    case ls z1 s1 o1 m1 k1 => exact ⟨fun s' o e => by simp at e, fun z s' o m k e => by simp at e; rw [← e.2.1]; exact hs.lss _ _ _ _ _ _ hg⟩
    all_goals exact LpIn.plain (by simp) (by simp)

theorem const_plain {x : Operand} {y : Opd} (h : chkX φ x y = true) : ∀ v, y = .c v → (∀ s o, v ≠ .lp s o) ∧ (∀ z s o m k, v ≠ .ls z s o m k) := by
  rintro v rfl
  constructor
  · rintro s o rfl
    cases x <;> simp [chkX] at h
    rename_i u; cases u <;> simp [chkV, chkC] at h
  · rintro z s o m k rfl
    cases x <;> simp [chkX] at h
    rename_i u; cases u <;> simp [chkV, chkC] at h

theorem LpIn_ea (hs : Sim φ B n st a w O loc D) {x : Operand} {y : Opd} (h : chkX φ x y = true) : LpIn (D ++ y.slots) (ea st.e y) := by
  cases y with
  | c v => exact LpIn.plain (const_plain h v rfl).1 (const_plain h v rfl).2
  | t s =>
    simp only [ea, Opd.slots]
    cases hg : get st.e s
    case loc l => exact ⟨fun s' o e => by simp at e; simp [e.1], fun z s' o m k e => by simp at e⟩
    case lp s1 o1 => exact ⟨fun s' o e => by simp at e; rw [← e.1]; exact List.mem_append_left _ (hs.lps _ _ _ hg), fun z s' o m k e => by simp at e⟩
    case ls z1 s1 o1 m1 k1 => exact ⟨fun s' o e => by simp at e, fun z s' o m k e => by simp at e; rw [← e.2.1]; exact List.mem_append_left _ (hs.lss _ _ _ _ _ _ hg)⟩
    all_goals exact LpIn.plain (by simp) (by simp)

/-- What a slot's value says once it is known to be no address of a local variable. -/
theorem VL_plain {c : Cx} {t : Array Value} {v : V} {x : Value} (h : VL φ c t v x) (h1 : ∀ s o, v ≠ .lp s o) (h2 : ∀ z s o m k, v ≠ .ls z s o m k) : VR φ c v x := by
  cases v <;> first
    | exact h
    | exact absurd rfl (h1 _ _)
    | exact absurd rfl (h2 _ _ _ _ _)
    | exact h.elim

theorem ixOf_ok {c : Cx} {t : Array Value} {v : V} {x : Value} (h : VL φ c t v x) {k j : Nat} (hj : ixOf k v = some j) : ∃ q z, x = .int q z ∧ 0 ≤ z ∧ z < k ∧ z.toNat = j := by
  cases v <;> simp only [ixOf, reduceCtorEq] at hj
  · split at hj
    · simp only [Option.some.injEq] at hj
      cases h
      exact ⟨_, _, rfl, by omega, by omega, hj⟩
    · simp at hj
  · split at hj
    · simp only [Option.some.injEq] at hj
      cases h
      exact ⟨_, _, rfl, by omega, by omega, by omega⟩
    · simp at hj

theorem run_asInt {x : Value} {q : IntKind} {z : Int} (h : x = .int q z) (w : World) : (Go.asIntOf x).run P w = .ok (q, z) w := by subst h; rfl

theorem addr_add (b o k : Nat) : (⟨b, o, none⟩ : Addr).add k = ⟨b, o + k, none⟩ := by
  unfold Addr.add; split <;> simp_all

/-- A pointer's value, moved. -/
theorem offV_ok {c : Cx} {t : Array Value} {v u : V} {x : Value} (h : VL φ c t v x) {k : Nat} (hu : offV k v = some u) :
    ∃ b o, x = .pointer (some ⟨b, o, none⟩) ∧ VL φ c t u (.pointer (some ⟨b, o + k, none⟩)) ∧ (∀ D, LpIn D v → LpIn D u) := by
  cases v <;> simp only [offV, Option.some.injEq, reduceCtorEq] at hu <;> subst hu
  · cases h
    exact ⟨_, _, rfl, by rw [Nat.add_assoc]; exact VR.vr _ _ _ _ _ ‹_› ‹_› ‹_›, fun D _ => LpIn.plain (by simp) (by simp)⟩
  · cases h
    exact ⟨_, _, rfl, by rw [Nat.add_assoc]; exact VR.hp _ _ _ _ ‹_›, fun D _ => LpIn.plain (by simp) (by simp)⟩
  · obtain ⟨b, hb, rfl⟩ := h
    refine ⟨b, _, rfl, ⟨b, hb, rfl⟩, fun D hD => ⟨fun s o e => ?_, fun z s o m k e => (by simp at e)⟩⟩
    simp at e; exact hD.1 _ _ (by rw [e.1])

/-- One cell or several of a row, as they lie in memory. -/
theorem run_loadVar {c : Cx} {t : TypeId} {q : Option Nat} (ht : partOk P t q = true) {l : List V} {o : Nat} {v : V} (hv : part l o q = some v) (w : World) {b δ : Nat} {y : Nat → Value}
    (hc : ∀ j, j < l.length → w.cell? ⟨b, δ + j, none⟩ = some (y j)) (hr : ∀ j (h : j < l.length), VR φ c l[j] (y j)) :
    ∃ x, (Go.loadVar t ⟨b, δ + o, none⟩).run P w = .ok x w ∧ VR φ c v x := by
  cases q with
  | none =>
    simp only [partOk, Bool.and_eq_true, Bool.not_eq_true', beq_iff_eq] at ht
    simp only [part] at hv
    obtain ⟨ho, hv⟩ := List.getElem?_eq_some_iff.1 hv
    refine ⟨y o, ?_, by rw [← hv]; exact hr o ho⟩
    simp only [Go.loadVar, Go.Sem.run_bind, run_isAgg ht.1.1, ht.1.2, Result.andThen_ok, Bool.false_eq_true, if_false, Go.run_load, hc o ho]
  | some k =>
    simp only [partOk, Bool.and_eq_true, beq_iff_eq] at ht
    have hu : (P.underlying t).isSome = true := by
      have := ht.1; unfold isAggT at this
      cases hu : P.underlying t with
      | none => simp [hu] at this
      | some _ => rfl
    simp only [part] at hv
    split at hv
    · rename_i hle
      simp only [Option.some.injEq] at hv
      subst hv
      refine ⟨.agg ((List.range k).map fun j => y (o + j)).toArray, ?_, .agg _ _ ?_ ?_⟩
      · simp only [Go.loadVar, Go.Sem.run_bind, run_isAgg hu, ht.1, Result.andThen_ok, if_true, run_size ht.2]
        rw [Go.run_loadCells w ⟨b, δ + o, none⟩ k (fun j => y (o + j)) (fun j hj => by rw [addr_add, Nat.add_assoc]; exact hc _ (by omega))]
        simp
      · simp; omega
      · intro j h h'
        simp at h h'
        simp only [List.getElem_take, List.getElem_drop, List.getElem_toArray, List.getElem_map, List.getElem_range]
        exact hr _ _
    · simp at hv

theorem cellH_cell {w : World} {b o : Nat} : cellH (fun b => w.heap[b]?) b o = w.cell? ⟨b, o, none⟩ := by
  simp only [cellH, World.cell?]
  cases w.heap[b]? with
  | none => rfl
  | some x => cases x <;> simp

theorem RowAt.cells {c : Cx} {l : List V} {b δ : Nat} {cs : Array Value} {T : Nat} {fz : Nat × Nat} {w : World} (h : RowAt φ c l b δ cs T fz) (hw : c.hp b = w.heap[b]?) :
    ∃ y : Nat → Value, (∀ j, j < l.length → w.cell? ⟨b, δ + j, none⟩ = some (y j)) ∧ (∀ j (h : j < l.length), VR φ c l[j] (y j)) := by
  refine ⟨fun j => cs[δ + j]?.getD Go.undef, fun j hj => ?_, fun j hj => ?_⟩
  · have hlt : δ + j < cs.size := by have := h.room; omega
    have hb := h.block
    rw [hw] at hb
    simp [World.cell?, hb, hlt]
  · have hlt : δ + j < cs.size := by have := h.room; omega
    simp only [hlt, Array.getElem?_eq_getElem, Option.getD_some]
    exact h.cell j hj hlt

/-- Bounds of a slice expression. -/
theorem bounds_ok (hs : Sim φ B n st a w O loc D) {lo' hi' : Option Operand} {lo hi : Option Opd} (h1 : chkO φ lo' lo = true) (h2 : chkO φ hi' hi = true) {len cap cap' p q : Nat} (isS : Bool)
    (hb : bounds len cap st.e lo hi = some (p, q)) (hcap : cap ≤ cap') :
    (Go.Instr.sliceBounds isS len cap' (lo'.map a.eval) (hi'.map a.eval) none).run P w = .ok (p, q, cap') w ∧ p ≤ q ∧ (q ≤ cap ∨ q = len) := by
  unfold bounds at hb
  cases hi with
  | none =>
    cases hi' with
    | some _ => simp [chkO] at h2
    | none =>
      simp only at hb
      cases lo with
      | none =>
        cases lo' with
        | some _ => simp [chkO] at h1
        | none =>
          simp only [Option.some.injEq, Prod.mk.injEq] at hb
          obtain ⟨rfl, rfl⟩ := hb
          exact ⟨by simp [Go.Instr.sliceBounds], Nat.zero_le _, .inr rfl⟩
      | some y =>
        cases lo' with
        | none => simp [chkO] at h1
        | some x =>
          simp only [chkO] at h1
          simp only at hb
          cases hj : ixOf (len + 1) (ev st.e y) with
          | none => simp [hj] at hb
          | some j =>
            simp only [hj, Option.some.injEq, Prod.mk.injEq] at hb
            obtain ⟨rfl, rfl⟩ := hb
            obtain ⟨qk, z, hx, hz0, hz1, hz⟩ := ixOf_ok (ev_VL hs h1) hj
            refine ⟨?_, by omega, .inr rfl⟩
            simp only [Go.Instr.sliceBounds, Go.Instr.sliceBound, Go.Sem.run_bind, Option.map_some, Option.map_none, Go.Sem.run_pure, Result.andThen_ok, run_asInt hx]
            rw [if_pos ⟨hz0, by omega⟩]
            simp [hz]
  | some y2 =>
    cases hi' with
    | none => simp [chkO] at h2
    | some x2 =>
      simp only [chkO] at h2
      simp only at hb
      cases hj2 : ixOf (cap + 1) (ev st.e y2) with
      | none => simp [hj2] at hb
      | some q' =>
        simp only [hj2] at hb
        obtain ⟨qk2, z2, hx2, hz20, hz21, hz2⟩ := ixOf_ok (ev_VL hs h2) hj2
        cases lo with
        | none =>
          cases lo' with
          | some _ => simp [chkO] at h1
          | none =>
            simp only [Option.some.injEq, Prod.mk.injEq] at hb
            obtain ⟨rfl, rfl⟩ := hb
            refine ⟨?_, Nat.zero_le _, .inl (by omega)⟩
            simp only [Go.Instr.sliceBounds, Go.Instr.sliceBound, Go.Sem.run_bind, Option.map_some, Option.map_none, Go.Sem.run_pure, Result.andThen_ok, run_asInt hx2]
            rw [if_pos ⟨hz20, by omega⟩]
            simp [hz2]
        | some y =>
          cases lo' with
          | none => simp [chkO] at h1
          | some x =>
            simp only [chkO] at h1
            simp only at hb
            cases hj : ixOf (q' + 1) (ev st.e y) with
            | none => simp [hj] at hb
            | some j =>
              simp only [hj, Option.some.injEq, Prod.mk.injEq] at hb
              obtain ⟨rfl, rfl⟩ := hb
              obtain ⟨qk, z, hx, hz0, hz1, hz⟩ := ixOf_ok (ev_VL hs h1) hj
              refine ⟨?_, by omega, .inl (by omega)⟩
              simp only [Go.Instr.sliceBounds, Go.Instr.sliceBound, Go.Sem.run_bind, Option.map_some, Option.map_none, Go.Sem.run_pure, Result.andThen_ok, run_asInt hx, run_asInt hx2]
              rw [if_pos ⟨hz20, by omega⟩]
              simp only [Go.Sem.run_pure, Result.andThen_ok, hz2]
              rw [if_pos ⟨hz0, by omega⟩]
              simp [hz]

end
end Mir

namespace Mir
open Go (Value Addr IntKind World Obj Act Program FuncId TypeId Operand Op Oper Code TypeDesc Sem Result)

theorem map_toNat_inj : ∀ (l m : List UInt8), l.map UInt8.toNat = m.map UInt8.toNat → l = m
  | [], [], _ => rfl
  | [], _ :: _, h => by simp at h
  | _ :: _, [], h => by simp at h
  | x :: l, y :: m, h => by
    simp only [List.map_cons, List.cons.injEq] at h
    rw [UInt8.toNat_inj.1 h.1, map_toNat_inj l m h.2]

theorem size_toNat {ba : ByteArray} {l : List Nat} (h : ba.data.toList.map UInt8.toNat = l) : ba.size = l.length := by
  subst h
  rw [List.length_map]
  rfl

section
variable {P : Program} {φ : Nat → Option FuncId} {ψ : Prim → FuncId → Bool} {B : Base} {n : Nat} {st : St} {a : Act} {w : World} {O : Nat → Prop} {loc : List (Nat × Nat)} {D : List Nat}

def PureR (P : Program) (φ : Nat → Option FuncId) (st : St) (a : Act) (w : World) (O : Nat → Prop) (loc : List (Nat × Nat)) (D : List Nat) (m : MOp) (o : Oper) (v : V) (h' : Heap) : Prop :=
  ∃ x, (Go.execOp a.eval o).run P w = .ok (.value x) w ∧ VL φ (CxOf w O loc) a.tmps v x ∧ h' = st.h ∧ LpIn (D ++ m.addrs) v

theorem LpIn_left {D D' : List Nat} {v : V} (h : LpIn D v) : LpIn (D ++ D') v := h.mono fun s hs => List.mem_append_left _ hs

theorem VRp {v : V} (h : ∃ (c : Cx) (x : Value), VR φ c v x) : LpIn D v := by
  obtain ⟨c, x, h⟩ := h
  cases h <;> exact LpIn.plain (by simp) (by simp)

theorem intT_und {t : TypeId} {k : IntKind} (h : intT P t = some k) : P.underlying t = some (.int k) := by
  unfold intT at h
  split at h <;> simp at h
  rename_i hh; rw [hh, h]

theorem sliceT_und {t e : TypeId} (h : sliceT P t = some e) : P.underlying t = some (.slice e) := by
  unfold sliceT at h
  split at h <;> simp at h
  rename_i hh; rw [hh, h]

theorem arrayT_und {t e : TypeId} {k : Nat} (h : arrayT P t = some (k, e)) : P.underlying t = some (.array k e) := by
  unfold arrayT at h
  split at h <;> simp at h
  rename_i hh; rw [hh, h.1, h.2]

theorem structT_und {t : TypeId} {fs : Array Go.Field} (h : structT P t = some fs) : P.underlying t = some (.struct fs) := by
  unfold structT at h
  split at h <;> simp at h
  rename_i hh; rw [hh, h]

theorem strT_und {t : TypeId} (h : strT P t = true) : P.underlying t = some .string := by
  unfold strT at h
  split at h <;> simp at h
  assumption

theorem toI_ok {cx : Cx} {t : Array Value} {X u : V} {A : Value} (hx : VL φ cx t X A) (hu : toI X = some u) : ∃ k z, A = .int k z ∧ VR φ cx u (.int .i64 (w64 z)) := by
  cases X <;> simp only [toI, Option.some.injEq, reduceCtorEq] at hu <;> subst hu
  · rename_i z
    cases hx with
    | i _ h1 h2 => exact ⟨_, z, rfl, by rw [show w64 z = z by unfold w64; omega]; exact .i z h1 h2⟩
  · cases hx
    exact ⟨_, _, rfl, .mkI _ _⟩

theorem toU_ok {cx : Cx} {t : Array Value} {X u : V} {A : Value} {wd : Nat} {kd : IntKind} (hk : ukind wd = some kd) (hx : VL φ cx t X A) (hu : toU wd X = some u) :
    ∃ k z, A = .int k z ∧ VR φ cx u (.int kd (kd.wrap z)) := by
  have hp := pow_pos wd
  cases X <;> simp only [toU, Option.some.injEq, reduceCtorEq] at hu <;> subst hu
  · rename_i z
    cases hx with
    | i _ h1 h2 =>
      refine ⟨_, z, rfl, ?_⟩
      rw [wrapU hk, show ((2 : Int) ^ wd) = ((2 ^ wd : Nat) : Int) by simp]
      have h3 : 0 ≤ z % ((2 ^ wd : Nat) : Int) := Int.emod_nonneg _ (by omega)
      have h4 : z % ((2 ^ wd : Nat) : Int) < ((2 ^ wd : Nat) : Int) := Int.emod_lt_of_pos _ (by omega)
      generalize z % ((2 ^ wd : Nat) : Int) = q at *
      have h5 : q = ((q.toNat : Nat) : Int) := by omega
      have := VR.u (φ := φ) (c := cx) wd q.toNat kd hk (by omega)
      rwa [← h5] at this
  · cases hx
    exact ⟨_, _, rfl, by rw [wrapU_nat hk]; exact .u _ _ _ hk (Nat.mod_lt _ hp)⟩

variable (hs : Sim φ B n st a w O loc D) {o : Oper} {c : Call} {v : V} {h' : Heap}
include hs

theorem mov_ok {y : Opd} (hc : chkOp P φ ψ o.op (.mov y) = true) (he : evalO c (.mov y) st.e st.h = some (v, h')) : PureR P φ st a w O loc D (.mov y) o v h' := by
  simp only [evalO, Option.some.injEq, Prod.mk.injEq] at he
  obtain ⟨rfl, rfl⟩ := he
  simp only [chkOp] at hc
  split at hc
  · rename_i x ho
    exact ⟨_, by simp [Go.execOp, ho], ev_VL hs hc, rfl, LpIn_left (LpIn_ev hs y (const_plain hc))⟩
  · rename_i x ho
    exact ⟨_, by simp [Go.execOp, ho], ev_VL hs hc, rfl, LpIn_left (LpIn_ev hs y (const_plain hc))⟩
  · rename_i b args ts ho
    unfold chkBuiltin at hc
    split at hc <;> rename_i heq <;> first | (simp only [reduceCtorEq] at heq; done) | (simp only [Bool.false_eq_true] at hc; done) | skip
    simp only [MOp.mov.injEq] at heq
    subst heq
    simp only [Bool.and_eq_true, beq_iff_eq] at hc
    obtain ⟨⟨rfl, hc⟩, hlen⟩ := hc
    obtain ⟨ax, hax⟩ := List.length_eq_one_iff.1 hlen
    split at hc
    · rename_i t rest hts
      cases hu : arrayT P t with
      | none => simp [hu] at hc
      | some q =>
        obtain ⟨k', e⟩ := q
        simp only [hu, Bool.and_eq_true, decide_eq_true_eq] at hc
        obtain ⟨rfl, hk⟩ := hc
        have hu' : P.underlying t = some (.array k' e) := by
          unfold arrayT at hu
          split at hu <;> simp at hu
          rename_i n' e' h1
          obtain ⟨rfl, rfl⟩ := hu; exact h1
        have hax' : args = #[ax] := by
          apply Array.ext'; simpa using hax
        have hts' : ts[0]? = some t := by
          have h2 : ts.toList[0]? = some t := by rw [hts]; rfl
          simpa using h2
        refine ⟨.int .i64 k', ?_, ?_, rfl, LpIn.plain (by simp [ev]) (by simp [ev])⟩
        · simp [Go.execOp, ho, Go.resolve, Go.invoke, Go.builtin, Go.Builtin.len_, hax', hts', run_und hu', Go.goInt]
        · exact VL_of_VR (.i _ (by omega) (by omega))
    · simp at hc
  · simp at hc

theorem pick_ok {x y z : Opd} (hc : chkOp P φ ψ o.op (.pick x y z) = true) (he : evalO c (.pick x y z) st.e st.h = some (v, h')) : PureR P φ st a w O loc D (.pick x y z) o v h' := by
  simp only [chkOp] at hc
  split at hc
  · rename_i x' y' z' ho
    simp only [Bool.and_eq_true] at hc
    obtain ⟨⟨h1, h2⟩, h3⟩ := hc
    have hx := ev_VL hs h1
    simp only [evalO] at he
    split at he
    · rename_i b hb
      rw [hb] at hx
      simp only [Option.some.injEq, Prod.mk.injEq] at he
      obtain ⟨rfl, rfl⟩ := he
      have hx : Value.bool b = a.eval x' := by
        generalize a.eval x' = A at hx
        cases hx; rfl
      refine ⟨if b then a.eval y' else a.eval z', ?_, ?_, rfl, ?_⟩
      · simp [Go.execOp, ho, ← hx, Go.asBool]
      · cases b
        · exact ev_VL hs h3
        · exact ev_VL hs h2
      · cases b
        · exact LpIn_left (LpIn_ev hs z (const_plain h3))
        · exact LpIn_left (LpIn_ev hs y (const_plain h2))
    · simp at he
  · simp at hc

theorem bin_ok {b : Bin} {x y : Opd} (hc : chkOp P φ ψ o.op (.bin b x y) = true) (he : evalO c (.bin b x y) st.e st.h = some (v, h')) : PureR P φ st a w O loc D (.bin b x y) o v h' := by
  simp only [chkOp] at hc
  split at hc
  · rename_i b' t x' y' t2 ho
    simp only [Bool.and_eq_true] at hc
    obtain ⟨⟨hb, h1⟩, h2⟩ := hc
    simp only [evalO, Option.map_eq_some_iff, Prod.mk.injEq] at he
    obtain ⟨u, hu, rfl, rfl⟩ := he
    have hx := ev_VL hs h1
    have hy := ev_VL hs h2
    generalize ev st.e x = X at *
    generalize ev st.e y = Y at *
    generalize hA : a.eval x' = A at *
    generalize hB : a.eval y' = Bv at *
    have run : ∀ (V : Value), (Go.eqGuard b' t x' y' A Bv).run P w = .ok () w → (Go.binOp b' t A Bv).run P w = .ok V w → (Go.execOp a.eval o).run P w = .ok (.value V) w := by
      intro V g1 g2
      simp [Go.execOp, ho, hA, hB, g1, g2]
    have fin : ∀ (V : Value), (Go.eqGuard b' t x' y' A Bv).run P w = .ok () w → (∃ V, (Go.binOp b' t A Bv).run P w = .ok V w ∧ VR φ (CxOf w O loc) u V) →
        PureR P φ st a w O loc D (.bin b x y) o u st.h := by
      rintro _ g1 ⟨V, g2, g3⟩
      exact ⟨V, run V g1 g2, VL_of_VR g3, rfl, VRp ⟨_, _, g3⟩⟩
    by_cases hsh : b = .shl ∨ b = .shr
    · have hxp : (∀ s o, X ≠ .lp s o) ∧ (∀ z s o m k, X ≠ .ls z s o m k) := by
        rcases hsh with rfl | rfl <;> cases X <;> simp [binV] at hu ⊢
      have hyp : (∀ s o, Y ≠ .lp s o) ∧ (∀ z s o m k, Y ≠ .ls z s o m k) := by
        rcases hsh with rfl | rfl <;> cases X <;> simp [binV] at hu <;> cases Y <;> simp [count] at hu ⊢
      have hX := VL_plain hx hxp.1 hxp.2
      have hY := VL_plain hy hyp.1 hyp.2
      refine fin Go.undef ?_ (shift_ok hb hsh hX hY hu t)
      rcases hsh with rfl | rfl <;> cases b' <;> first | (exact absurd hb (by decide)) | simp [Go.eqGuard]
    · have hns : b ≠ .shl ∧ b ≠ .shr := by simpa using hsh
      have hg : ∀ (k1 k2 : IntKind) (z1 z2 : Int), (Go.eqGuard b' t x' y' (.int k1 z1) (.int k2 z2)).run P w = .ok () w := by
        intro k1 k2 z1 z2; cases b' <;> simp [Go.eqGuard]
      cases X with
      | i m =>
        cases Y <;> (try (cases b <;> first | exact absurd rfl hns.1 | exact absurd rfl hns.2 | (simp [binV] at hu; done)))
        rename_i m2
        have hu' : arithI b m m2 = some u := by cases b <;> first | exact hu | exact absurd rfl hns.1 | exact absurd rfl hns.2
        cases hx with
        | i _ a1 a2 => cases hy with
          | i _ b1 b2 => exact fin Go.undef (hg _ _ _ _) (arithI_ok hb a1 a2 b1 b2 hns hu' t)
      | u wd m =>
        cases Y <;> (try (cases b <;> first | exact absurd rfl hns.1 | exact absurd rfl hns.2 | (simp [binV] at hu; done)))
        rename_i wd2 m2
        have hu' : (if wd = wd2 then arithU b wd m m2 else none) = some u := by cases b <;> first | exact hu | exact absurd rfl hns.1 | exact absurd rfl hns.2
        split at hu'
        · rename_i e
          subst e
          cases hx with
          | u _ _ k1 a1 a2 => cases hy with
            | u _ _ k2 b1 b2 =>
              rw [a1] at b1
              simp only [Option.some.injEq] at b1
              subst b1
              exact fin Go.undef (hg _ _ _ _) (arithU_ok hb a1 a2 b2 hns hu' t)
        · simp at hu'
      | s l =>
        cases Y <;> (try (cases b <;> first | exact absurd rfl hns.1 | exact absurd rfl hns.2 | (simp [binV] at hu; done)))
        rename_i l2
        cases hx with
        | s _ ba ha => cases hy with
          | s _ bb hbb =>
            have hgs : (Go.eqGuard b' t x' y' (.string ba) (.string bb)).run P w = .ok () w := by cases b' <;> simp [Go.eqGuard]
            have inj : (ba.toList == bb.toList) = (l == l2) := by
              rw [Go.ByteArray.toList_eq, Go.ByteArray.toList_eq, Bool.eq_iff_iff]
              simp only [beq_iff_eq]
              rw [← ha, ← hbb]
              constructor
              · intro e; rw [e]
              · intro e
                exact map_toNat_inj _ _ e
            cases b <;> simp only [binV, Option.some.injEq, reduceCtorEq] at hu <;> cases b' <;> first | (exact absurd hb (by decide)) | skip
            · split at hu
              · rename_i hlen
                simp only [Option.some.injEq] at hu
                subst hu
                have hsz : ba.size = l.length := size_toNat ha
                have hsz2 : bb.size = l2.length := size_toNat hbb
                refine fin Go.undef hgs ⟨.string (ba ++ bb), ?_, .s _ _ ?_⟩
                · simp only [Go.binOp, Go.Op.stringOp]
                  rw [if_neg (by rw [hsz, hsz2]; simp [IntKind.max, IntKind.signed, IntKind.bits]; omega)]
                  rfl
                · rw [ByteArray.data_append]; simp [ha, hbb]
              · simp at hu
            · refine fin Go.undef hgs ⟨_, rfl, ?_⟩
              subst hu; simp only [inj]; exact .b _
            · refine fin Go.undef hgs ⟨_, rfl, ?_⟩
              subst hu; simp only [inj]; exact .b _
      | _ => cases b <;> first | (exact absurd rfl hns.1) | (exact absurd rfl hns.2) | (simp [binV] at hu; done)
  · simp at hc


theorem eqv_okR {k : EqK} {neg : Bool} {x y : Opd} (hc : chkOp P φ ψ o.op (.eqv k neg x y) = true) (he : evalO c (.eqv k neg x y) st.e st.h = some (v, h')) :
    PureR P φ st a w O loc D (.eqv k neg x y) o v h' := by
  simp only [chkOp] at hc
  split at hc
  · rename_i b' t x' y' t2 ho
    simp only [Bool.and_eq_true, Bool.not_eq_true'] at hc
    obtain ⟨⟨⟨⟨hb, h1⟩, h2⟩, hg⟩, ht⟩ := hc
    simp only [evalO, Option.map_eq_some_iff, Prod.mk.injEq] at he
    obtain ⟨u, hu, rfl, rfl⟩ := he
    have hx := ev_VL hs h1
    have hy := ev_VL hs h2
    have hX := VL_plain hx (by intro s o e; rw [e] at hu; cases k <;> simp [eqV] at hu) (by intro z s o m k' e; rw [e] at hu; cases k <;> simp [eqV] at hu)
    have hY := VL_plain hy (by intro s o e; rw [e] at hu; cases k <;> cases hxx : ev st.e x <;> simp [eqV, hxx] at hu) (by intro z s o m k' e; rw [e] at hu; cases k <;> cases hxx : ev st.e x <;> simp [eqV, hxx] at hu)
    have h3 := eqv_ok hX hY hu hg ht x' y' b' neg hb w
    refine ⟨.bool (u != neg), ?_, VL_of_VR (.b _), rfl, LpIn.plain (by simp) (by simp)⟩
    simp only [Go.execOp, ho, Go.Sem.run_bind, h3, Result.andThen_ok, Go.Sem.run_pure]
  · simp at hc

theorem un_okR {k : Un} {x : Opd} (hc : chkOp P φ ψ o.op (.un k x) = true) (he : evalO c (.un k x) st.e st.h = some (v, h')) : PureR P φ st a w O loc D (.un k x) o v h' := by
  simp only [chkOp] at hc
  split at hc
  · rename_i u' t x' ho
    simp only [Bool.and_eq_true] at hc
    simp only [evalO, Option.map_eq_some_iff, Prod.mk.injEq] at he
    obtain ⟨u, hu, rfl, rfl⟩ := he
    have hX := VL_plain (ev_VL hs hc.2) (by intro s o e; rw [e] at hu; cases k <;> simp [unV] at hu) (by intro z s o m k' e; rw [e] at hu; cases k <;> simp [unV] at hu)
    obtain ⟨V, h1, h2⟩ := unV_ok (P := P) (w := w) hX hu hc.1
    exact ⟨V, by simp [Go.execOp, ho, h1], VL_of_VR h2, rfl, VRp ⟨_, _, h2⟩⟩
  · simp at hc

theorem cvi_okR {x : Opd} (hc : chkOp P φ ψ o.op (.cvi x) = true) (he : evalO c (.cvi x) st.e st.h = some (v, h')) : PureR P φ st a w O loc D (.cvi x) o v h' := by
  simp only [chkOp] at hc
  split at hc
  · rename_i s d x' ho
    simp only [Bool.and_eq_true, beq_iff_eq] at hc
    obtain ⟨⟨h1, hsrc⟩, hdst⟩ := hc
    obtain ⟨sd, hsd⟩ := Option.isSome_iff_exists.1 hsrc
    simp only [evalO, Option.map_eq_some_iff, Prod.mk.injEq] at he
    obtain ⟨u, hu, rfl, rfl⟩ := he
    obtain ⟨k, z, hA, hR⟩ := toI_ok (ev_VL hs h1) hu
    refine ⟨_, ?_, VL_of_VR hR, rfl, VRp ⟨_, _, hR⟩⟩
    simp only [Go.execOp, ho, hA, Go.convert, Go.Sem.run_bind, run_und hsd, run_und (intT_und hdst), Result.andThen_ok, Go.Conv.intToInt, Go.Sem.run_pure, wrapI]
  · simp at hc

theorem cvu_okR {wd : Nat} {x : Opd} (hc : chkOp P φ ψ o.op (.cvu wd x) = true) (he : evalO c (.cvu wd x) st.e st.h = some (v, h')) : PureR P φ st a w O loc D (.cvu wd x) o v h' := by
  simp only [chkOp] at hc
  split at hc
  · rename_i s d x' ho
    simp only [Bool.and_eq_true] at hc
    obtain ⟨⟨h1, hsrc⟩, hdst⟩ := hc
    split at hdst
    · rename_i k hk
      simp only [beq_iff_eq] at hdst
      obtain ⟨sd, hsd⟩ := Option.isSome_iff_exists.1 hsrc
      simp only [evalO, Option.map_eq_some_iff, Prod.mk.injEq] at he
      obtain ⟨u, hu, rfl, rfl⟩ := he
      obtain ⟨k', z, hA, hR⟩ := toU_ok hdst (ev_VL hs h1) hu
      refine ⟨_, ?_, VL_of_VR hR, rfl, VRp ⟨_, _, hR⟩⟩
      simp only [Go.execOp, ho, hA, Go.convert, Go.Sem.run_bind, run_und hsd, run_und (intT_und hk), Result.andThen_ok, Go.Conv.intToInt, Go.Sem.run_pure]
    · simp at hdst
  · simp at hc

/-- A slice's cells, as they lie in memory. -/
theorem sliceCells_ok {X : V} {A : Value} (hx : VL φ (CxOf w O loc) a.tmps X A) {h : Heap} (hh : h = st.h ∨ h = []) {l : List V} (hl : sliceCells h X = some l) :
    (A = .slice none 0 0 ∧ l = [] ∧ lenV X = some 0) ∨ ∃ ad len cap, A = .slice (some ad) len cap ∧ lenV X = some len ∧
      ((l = [] ∧ len = 0) ∨ ∃ b o, ad = ⟨b, o, none⟩ ∧ ∃ y : Nat → Value, (∀ j, j < l.length → w.cell? ⟨b, o + j, none⟩ = some (y j)) ∧ (∀ j (h : j < l.length), VR φ (CxOf w O loc) l[j] (y j))) := by
  cases X <;> simp only [sliceCells, Option.some.injEq, reduceCtorEq] at hl
  · subst hl
    cases hx
    exact .inl ⟨rfl, rfl, rfl⟩
  · subst hl
    cases hx with
    | vsn => exact .inl ⟨rfl, rfl, rfl⟩
    | vs0 ad cap => exact .inr ⟨ad, 0, cap, rfl, rfl, .inl ⟨rfl, rfl⟩⟩
    | vs _ _ b o cap y h0 h1 h2 h3 =>
      exact .inr ⟨_, _, cap, rfl, rfl, .inr ⟨b, o, rfl, y, fun j hj => by rw [← cellH_cell]; exact h2 j hj, h3⟩⟩
  · rename_i sz k off len cap
    cases hr : row h k with
    | none => simp [hr] at hl
    | some r =>
      simp only [hr] at hl
      split at hl
      · rename_i hle
        simp only [Option.some.injEq] at hl
        have hr' : row st.h k = some r := by
          rcases hh with rfl | rfl
          · exact hr
          · simp [row] at hr
        obtain ⟨b, δ, cs, T, fz, hloc, hown, hrow⟩ := hs.heap.rows k r hr'
        obtain ⟨y, hy1, hy2⟩ := hrow.cells (w := w) rfl
        cases hx with
        | hs _ _ _ _ _ b' δ' cap' ad e1 e2 e3 e4 =>
          have : (b', δ') = (b, δ) := by
            have := e1.symm.trans hloc
            simpa using this
          simp only [Prod.mk.injEq] at this
          obtain ⟨rfl, rfl⟩ := this
          rcases Nat.eq_zero_or_pos cap' with h0 | h0
          · have : len = 0 := by omega
            subst this
            exact .inr ⟨ad, 0, cap', rfl, rfl, .inl ⟨by rw [← hl]; simp, rfl⟩⟩
          · refine .inr ⟨ad, len, cap', rfl, rfl, .inr ⟨b', δ' + off, (e4 h0).1, fun j => y (off + j), ?_, ?_⟩⟩
            · intro j hj
              rw [← hl] at hj
              simp at hj
              rw [Nat.add_assoc]
              exact hy1 _ (by omega)
            · intro j hj
              have hj2 := hj
              rw [← hl] at hj2
              simp at hj2
              have : l[j] = r[off + j] := by
                subst hl
                simp
              rw [this]
              exact hy2 _ _
      · simp at hl

omit hs in
theorem byteOf_ok {cx : Cx} {v : V} {x : Value} (h : VR φ cx v x) {k : Nat} (hk : byteOf v = some k) : x = .int .u8 k ∧ k < 256 := by
  cases h <;> simp only [byteOf, reduceCtorEq] at hk
  rename_i wd m kk h1 h2
  split at hk <;> simp at hk
  rename_i heq
  simp at heq
  obtain ⟨rfl, rfl⟩ := heq
  subst hk
  simp [ukind] at h1
  subst h1
  exact ⟨rfl, h2⟩

omit hs in
theorem mapM_byteOf : ∀ (l : List V) (bs : List Nat), l.mapM byteOf = some bs → bs.length = l.length ∧ ∀ j (h : j < l.length) (h' : j < bs.length), byteOf l[j] = some bs[j]
  | [], bs, h => by simp at h; subst h; exact ⟨rfl, fun j h => absurd h (by simp)⟩
  | v :: l, bs, h => by
    simp only [List.mapM_cons, Option.bind_eq_bind, Option.pure_def, Option.bind_eq_some_iff] at h
    obtain ⟨k, hk, m, hm, he⟩ := h
    simp only [Option.some.injEq] at he
    subst he
    obtain ⟨h1, h2⟩ := mapM_byteOf l m hm
    refine ⟨by simp [h1], fun j hj hj' => ?_⟩
    cases j with
    | zero => exact hk
    | succ j => exact h2 j (by simpa using hj) (by simpa using hj')

omit hs in
theorem foldl_bytes : ∀ (ns : List Nat) (s : ByteArray), (∀ k ∈ ns, k < 256) →
    ((ns.map (fun k : Nat => (k : Int))).foldl (fun r n => r.push (UInt8.ofNat n.toNat)) s).data.toList.map UInt8.toNat = s.data.toList.map UInt8.toNat ++ ns
  | [], s, _ => by simp
  | k :: ns, s, h => by
    simp only [List.map_cons, List.foldl_cons]
    rw [foldl_bytes ns _ (fun q hq => h q (by simp [hq]))]
    have hk := h k (by simp)
    simp [ByteArray.push, UInt8.toNat_ofNat, Nat.mod_eq_of_lt hk]

theorem b2s_okR {imm : Bool} {x : Opd} (hc : chkOp P φ ψ o.op (.b2s imm x) = true) (he : evalO c (.b2s imm x) st.e st.h = some (v, h')) : PureR P φ st a w O loc D (.b2s imm x) o v h' := by
  simp only [chkOp] at hc
  split at hc
  · rename_i s d x' ho
    simp only [Bool.and_eq_true] at hc
    obtain ⟨⟨h1, hdst⟩, hsrc⟩ := hc
    split at hsrc
    · rename_i e hse
      simp only [beq_iff_eq] at hsrc
      have hx := ev_VL hs h1
      simp only [evalO] at he
      cases hl : sliceCells (if imm then [] else st.h) (ev st.e x) with
      | none => simp [hl] at he
      | some l =>
        simp only [hl] at he
        cases hm : l.mapM byteOf with
        | none => simp [hm] at he
        | some bs =>
          simp only [hm] at he
          split at he
          case isFalse => simp at he
          rename_i hlv
          simp only [Option.some.injEq, Prod.mk.injEq] at he
          obtain ⟨rfl, rfl⟩ := he
          obtain ⟨hb1, hb2⟩ := mapM_byteOf l bs hm
          have conv : ∀ A V, a.eval x' = A → (∃ p q r, A = .slice p q r) → (Go.Conv.bytesToString A).run P w = .ok V w → (Go.execOp a.eval o).run P w = .ok (.value V) w := by
            rintro A V hA ⟨p, q, r, rfl⟩ hV
            simp only [Go.execOp, ho, hA, Go.Sem.run_bind, Go.run_convert_bytes_string w s d e p q r (sliceT_und hse) (intT_und hsrc) (strT_und hdst), hV, Result.andThen_ok, Go.Sem.run_pure]
          rcases sliceCells_ok hs hx (by cases imm <;> simp) hl with ⟨hA, hl0, _⟩ | ⟨ad, len, cap, hA, hlen, hcells⟩
          · subst hl0
            simp at hm; subst hm
            exact ⟨_, conv _ _ hA ⟨_, _, _, rfl⟩ rfl, VL_of_VR (.s _ _ rfl), rfl, LpIn.plain (by simp) (by simp)⟩
          · have hll : l.length = len := by
              rw [hlen] at hlv
              simp only [Option.some.injEq] at hlv
              omega
            refine ⟨_, conv _ _ hA ⟨_, _, _, rfl⟩ (Go.run_bytesToString w ad len cap (bs.map fun k : Nat => (k : Int)) ?_), VL_of_VR (.s _ _ ?_), rfl, LpIn.plain (by simp) (by simp)⟩
            · rcases hcells with ⟨hl0, h0⟩ | ⟨b, off, rfl, y, hy1, hy2⟩
              · subst hl0; subst h0
                simp at hm; subst hm
                simp [Go.loadCells, Go.loadCellsFrom]
              · rw [← hll, Go.run_loadCells w ⟨b, off, none⟩ l.length y (fun j hj => by rw [addr_add]; exact hy1 j hj)]
                congr 2
                apply List.ext_getElem
                · simp [hb1]
                · intro j hj hj'
                  simp at hj hj'
                  have h3 := byteOf_ok (hy2 j hj) (hb2 j hj (by omega))
                  simp [h3.1]
            · rw [foldl_bytes]
              · rfl
              · intro k hk
                obtain ⟨j, hj, rfl⟩ := List.getElem_of_mem hk
                rcases hcells with ⟨hl0, h0⟩ | ⟨b, off, rfl, y, hy1, hy2⟩
                · subst hl0; simp at hm; subst hm; simp at hj
                · exact (byteOf_ok (hy2 j (by omega)) (hb2 j (by omega) hj)).2
    · simp at hsrc
  · simp at hc

end
end Mir

namespace Mir
open Go (Value Addr IntKind World Obj Act Program FuncId TypeId Operand Op Oper Code TypeDesc Sem Result)

section
variable {P : Program} {φ : Nat → Option FuncId} {ψ : Prim → FuncId → Bool} {B : Base} {n : Nat} {st : St} {a : Act} {w : World} {O : Nat → Prop} {loc : List (Nat × Nat)} {D : List Nat}

/-- What a pointer points to. -/
theorem deref_ok (hs : Sim φ B n st a w O loc D) {X : V} {A : Value} (hx : VL φ (CxOf w O loc) a.tmps X A) {h : Heap} (hh : h = st.h ∨ h = []) {l : List V} {o : Nat}
    (hl : X = .vr l o ∨ ∃ k, X = .hp k o ∧ row h k = some l) :
    ∃ b δ, A = .pointer (some ⟨b, δ + o, none⟩) ∧ ∃ y : Nat → Value, (∀ j, j < l.length → w.cell? ⟨b, δ + j, none⟩ = some (y j)) ∧ (∀ j (h : j < l.length), VR φ (CxOf w O loc) l[j] (y j)) := by
  rcases hl with rfl | ⟨k, rfl, hr⟩
  · cases hx with
    | vr _ _ b δ y h1 h2 h3 => exact ⟨b, δ, rfl, y, fun j hj => by rw [← cellH_cell]; exact h2 j hj, h3⟩
  · have hr' : row st.h k = some l := by
      rcases hh with rfl | rfl
      · exact hr
      · simp [row] at hr
    obtain ⟨b, δ, cs, T, fz, hloc, hown, hrow⟩ := hs.heap.rows k l hr'
    obtain ⟨y, hy1, hy2⟩ := hrow.cells (w := w) rfl
    cases hx with
    | hp _ _ b' δ' e1 =>
      have : (b', δ') = (b, δ) := by
        have := e1.symm.trans hloc
        simpa using this
      simp only [Prod.mk.injEq] at this
      obtain ⟨rfl, rfl⟩ := this
      exact ⟨b', δ', rfl, y, hy1, hy2⟩

/-- A value that no nil check stops at. -/
def nckOk : Value → Prop
  | .pointer (some _) => True
  | .func (.func _) _ _ => True
  | _ => False

theorem run_nck {o : Oper} {x' : Operand} (ho : o.op = .nilCheck x') {A : Value} (hA : a.eval x' = A) (hn : nckOk A) : (Go.execOp a.eval o).run P w = .ok (.value A) w := by
  simp only [Go.execOp, ho, hA]
  cases A <;> simp only [nckOk] at hn
  · rename_i p; cases p <;> simp only [nckOk] at hn; rfl
  · rename_i f p q; cases f <;> simp only [nckOk] at hn; rfl

variable (hs : Sim φ B n st a w O loc D) {o : Oper} {c : Call} {v : V} {h' : Heap}
include hs

theorem off_okR {k : Nat} {x : Opd} (hc : chkOp P φ ψ o.op (.off k x) = true) (he : evalO c (.off k x) st.e st.h = some (v, h')) : PureR P φ st a w O loc D (.off k x) o v h' := by
  simp only [chkOp] at hc
  split at hc
  · rename_i t x' f ho
    simp only [Bool.and_eq_true] at hc
    obtain ⟨h1, hc⟩ := hc
    split at hc
    · rename_i fs hfs
      split at hc
      · rename_i fd hfd
        simp only [Bool.and_eq_true, beq_iff_eq] at hc
        obtain ⟨hoff, hsz⟩ := hc
        split at hsz
        · rename_i m hm
          simp only [decide_eq_true_eq] at hsz
          simp only [evalO, Option.map_eq_some_iff, Prod.mk.injEq] at he
          obtain ⟨u, hu, rfl, rfl⟩ := he
          obtain ⟨b, q, hA, hV, hL⟩ := offV_ok (ea_VL hs h1) hu
          refine ⟨_, ?_, hV, rfl, hL _ (by simpa [MOp.addrs] using LpIn_ea hs h1)⟩
          have hz : ¬ m = 0 := by omega
          simp only [Go.execOp, ho, hA, Go.Instr.fieldAt, Go.Instr.sureAddr, Go.fieldPlace, Go.Sem.run_bind, run_und (structT_und hfs), Result.andThen_ok, hfd, Go.Sem.run_pure, run_size hm, hz, if_false, hoff, addr_add]
        · simp at hsz
      · simp at hc
    · simp at hc
  · simp at hc

theorem idx_okR {k sz : Nat} {x i : Opd} (hc : chkOp P φ ψ o.op (.idx k sz x i) = true) (he : evalO c (.idx k sz x i) st.e st.h = some (v, h')) : PureR P φ st a w O loc D (.idx k sz x i) o v h' := by
  simp only [chkOp] at hc
  split at hc
  · rename_i t x' i' ho
    simp only [Bool.and_eq_true] at hc
    obtain ⟨⟨h1, h2⟩, hc⟩ := hc
    split at hc
    · rename_i k' e hk
      simp only [Bool.and_eq_true, beq_iff_eq] at hc
      obtain ⟨rfl, hsz⟩ := hc
      simp only [evalO] at he
      split at he
      · rename_i j hj
        simp only [Option.map_eq_some_iff, Prod.mk.injEq] at he
        obtain ⟨u, hu, rfl, rfl⟩ := he
        obtain ⟨b, q, hA, hV, hL⟩ := offV_ok (ea_VL hs h1) hu
        obtain ⟨qk, z, hI, hz0, hz1, hz⟩ := ixOf_ok (ev_VL hs h2) hj
        refine ⟨_, ?_, hV, rfl, hL _ (by simpa [MOp.addrs] using LpIn_ea hs h1)⟩
        simp only [Go.execOp, ho, hA, hI, Go.Instr.indexAt, Go.Instr.sureAddr, Go.Sem.run_bind, Go.asIntOf, Go.Sem.run_pure, run_und (arrayT_und hk), Result.andThen_ok, run_size hsz, Go.Sem.run_ite]
        rw [if_pos ⟨hz0, hz1⟩]
        simp [hz, addr_add]
      · simp at he
    · simp at hc
  · simp at hc

theorem idxs_okR {sz : Nat} {x i : Opd} (hc : chkOp P φ ψ o.op (.idxs sz x i) = true) (he : evalO c (.idxs sz x i) st.e st.h = some (v, h')) : PureR P φ st a w O loc D (.idxs sz x i) o v h' := by
  simp only [chkOp] at hc
  split at hc
  · rename_i t x' i' ho
    simp only [Bool.and_eq_true] at hc
    obtain ⟨⟨h1, h2⟩, hc⟩ := hc
    split at hc
    · rename_i e hk
      simp only [beq_iff_eq] at hc
      simp only [evalO, Option.map_eq_some_iff, Prod.mk.injEq] at he
      obtain ⟨u, hu, rfl, rfl⟩ := he
      have hx := ea_VL hs h1
      have hL := LpIn_ea hs h1
      have hI := ev_VL hs h2
      have run : ∀ (ad : Addr) (len cap j : Nat) (A : Value), a.eval x' = A → A = .slice (some ad) len cap → ixOf len (ev st.e i) = some j →
          (Go.execOp a.eval o).run P w = .ok (.value (.pointer (some (ad.add (j * sz))))) w := by
        rintro ad len cap j A hA rfl hj
        obtain ⟨qk, z, hI, hz0, hz1, hz⟩ := ixOf_ok (ev_VL hs h2) hj
        simp only [Go.execOp, ho, hA, hI, Go.Instr.indexAt, Go.Sem.run_bind, Go.asIntOf, Go.Sem.run_pure, run_und (sliceT_und hk), Result.andThen_ok, run_size hc, Go.Sem.run_ite]
        rw [if_pos ⟨hz0, hz1⟩]
        simp [hz]
      generalize ea st.e x = X at *
      generalize hA : a.eval x' = A at *
      cases X <;> simp only [idxsV, reduceCtorEq] at hu
      · rename_i m l
        simp only [Option.map_eq_some_iff] at hu
        obtain ⟨j, hj, rfl⟩ := hu
        cases hx with
        | vsn => simp [ixOf] at hj; cases hi : ev st.e i <;> simp [ixOf, hi] at hj <;> omega
        | vs0 ad cap => cases hi : ev st.e i <;> simp [ixOf, hi] at hj <;> omega
        | vs _ _ b o' cap y g0 g1 g2 g3 =>
          refine ⟨_, run _ _ _ j _ rfl rfl hj, ?_, rfl, LpIn.plain (by simp) (by simp)⟩
          rw [addr_add]
          exact VR.vr l (j * sz) b o' y g1 g2 g3
      · split at hu
        · rename_i e1
          simp only [Option.map_eq_some_iff] at hu
          obtain ⟨j, hj, rfl⟩ := hu
          obtain ⟨_, _, _, _, _, _⟩ := ixOf_ok hI hj
          cases hx with
          | hs _ _ _ _ _ b δ cap' ad g1 g2 g3 g4 =>
            refine ⟨_, run _ _ _ j _ rfl rfl hj, ?_, rfl, LpIn.plain (by simp) (by simp)⟩
            rw [(g4 (by omega)).1, addr_add, Nat.add_assoc]
            exact VR.hp _ _ b δ g1
        · simp at hu
      · split at hu
        · rename_i e1
          simp only [Option.map_eq_some_iff] at hu
          obtain ⟨j, hj, rfl⟩ := hu
          obtain ⟨b, ad, cap', hb, rfl, g2, g3, g4⟩ := hx
          obtain ⟨_, _, _, _, _, _⟩ := ixOf_ok hI hj
          refine ⟨_, run _ _ _ j _ rfl rfl hj, ?_, rfl, ?_⟩
          · rw [g4 (by omega), addr_add]
            exact ⟨b, hb, rfl⟩
          · refine ⟨fun s o e => ?_, fun z s o m k e => by simp at e⟩
            simp at e
            rw [← e.1]
            exact hL.2 _ _ _ _ _ rfl
        · simp at hu
    · simp at hc
  · simp at hc

theorem ld_okR {imm : Bool} {q : Option Nat} {x : Opd} (hc : chkOp P φ ψ o.op (.ld imm q x) = true) (he : evalO c (.ld imm q x) st.e st.h = some (v, h')) : PureR P φ st a w O loc D (.ld imm q x) o v h' := by
  simp only [chkOp] at hc
  split at hc
  · rename_i t x' ho
    simp only [Bool.and_eq_true] at hc
    obtain ⟨h1, ht⟩ := hc
    have hx := ev_VL hs h1
    have fin : ∀ (l : List V) (k : Nat), (ev st.e x = .vr l k ∨ ∃ j, ev st.e x = .hp j k ∧ row (if imm then [] else st.h) j = some l) → (part l k q).map (fun v => (v, st.h)) = some (v, h') →
        PureR P φ st a w O loc D (.ld imm q x) o v h' := by
      intro l k hl hp
      simp only [Option.map_eq_some_iff, Prod.mk.injEq] at hp
      obtain ⟨u, hu, rfl, rfl⟩ := hp
      obtain ⟨b, δ, hA, y, hy1, hy2⟩ := deref_ok hs hx (by cases imm <;> simp) hl
      obtain ⟨V, hV1, hV2⟩ := run_loadVar (φ := φ) (c := CxOf w O loc) ht hu w hy1 hy2
      refine ⟨V, ?_, VL_of_VR hV2, rfl, VRp ⟨_, _, hV2⟩⟩
      simp only [Go.execOp, ho, hA, Go.Instr.loadAt, Go.Instr.sureAddr, Go.Sem.run_bind, Go.Sem.run_pure, Result.andThen_ok, hV1]
    simp only [evalO] at he
    split at he
    · rename_i l k hX
      exact fin l k (.inl hX) he
    · rename_i j k hX
      split at he
      · rename_i l hr
        exact fin l k (.inr ⟨j, hX, hr⟩) he
      · simp at he
    · simp at he
  · simp at hc

/-- A local variable's cells. -/
theorem loc_ok {s : Nat} {l : List V} (hg : get st.e s = .loc l) : ∃ b, a.tmps[s]? = some (ptrV b 0) ∧ O b ∧ ∃ cs T fz, w.heap[b]? = some (.cells cs T fz) ∧ l.length = cs.size ∧
    (∀ j, j < cs.size → ¬ (fz.1 ≤ j ∧ j < fz.2)) ∧ ∃ y : Nat → Value, (∀ j, j < l.length → w.cell? ⟨b, j, none⟩ = some (y j)) ∧ (∀ j (h : j < l.length), VR φ (CxOf w O loc) l[j] (y j)) := by
  have he := hs.env s
  simp only [hg, ER] at he
  obtain ⟨b, cs, T, fz, hx, ho, hl, hr⟩ := he
  obtain ⟨y, hy1, hy2⟩ := hr.cells (w := w) rfl
  exact ⟨b, hx, ho, cs, T, fz, hr.block, hl, hr.free, y, fun j hj => by have := hy1 j hj; rwa [Nat.zero_add] at this, hy2⟩

/-- An address of a local variable. -/
theorem lp_ok {x : Operand} {y : Opd} (h1 : chkX φ x y = true) {s o : Nat} (hg : ea st.e y = .lp s o) {b : Nat} (hb : a.tmps[s]? = some (ptrV b 0)) : a.eval x = ptrV b o := by
  have hx := ea_VL hs h1
  rw [hg] at hx
  obtain ⟨b', hb', he⟩ := hx
  rw [hb] at hb'
  simp at hb'
  rw [he, hb']

theorem ldl_okR {s : Nat} {q : Option Nat} {x : Opd} (hc : chkOp P φ ψ o.op (.ldl s q x) = true) (he : evalO c (.ldl s q x) st.e st.h = some (v, h')) : PureR P φ st a w O loc D (.ldl s q x) o v h' := by
  simp only [chkOp] at hc
  split at hc
  · rename_i t x' ho
    simp only [Bool.and_eq_true] at hc
    obtain ⟨h1, ht⟩ := hc
    simp only [evalO] at he
    split at he
    · rename_i s' k hX
      split at he
      · rename_i e
        subst e
        split at he
        · rename_i l hl
          simp only [Option.map_eq_some_iff, Prod.mk.injEq] at he
          obtain ⟨u, hu, rfl, rfl⟩ := he
          obtain ⟨b, hb, ho', cs, T, fz, hw, hlen, hfz, y, hy1, hy2⟩ := loc_ok hs hl
          have hA := lp_ok hs h1 hX hb
          obtain ⟨V, hV1, hV2⟩ := run_loadVar (φ := φ) (c := CxOf w O loc) (δ := 0) (b := b) ht hu w (fun j hj => by rw [Nat.zero_add]; exact hy1 j hj) hy2
          rw [Nat.zero_add] at hV1
          refine ⟨V, ?_, VL_of_VR hV2, rfl, VRp ⟨_, _, hV2⟩⟩
          simp only [Go.execOp, ho, hA, Go.Instr.loadAt, Go.Instr.sureAddr, Go.Sem.run_bind, Go.Sem.run_pure, Result.andThen_ok, hV1]
        · simp at he
      · simp at he
    · simp at he
  · simp at hc

theorem nck_okR {x : Opd} (hc : chkOp P φ ψ o.op (.nck x) = true) (he : evalO c (.nck x) st.e st.h = some (v, h')) : PureR P φ st a w O loc D (.nck x) o v h' := by
  simp only [chkOp] at hc
  split at hc
  · rename_i x' ho
    have hx := ea_VL hs hc
    have hL := LpIn_ea hs hc
    simp only [evalO] at he
    split at he
    · rename_i l k hX
      simp only [Option.some.injEq, Prod.mk.injEq] at he
      obtain ⟨rfl, rfl⟩ := he
      rw [hX] at hx
      refine ⟨_, run_nck ho rfl ?_, hx, rfl, LpIn.plain (by simp) (by simp)⟩
      generalize a.eval x' = A at hx; cases hx; trivial
    · rename_i l k hX
      simp only [Option.some.injEq, Prod.mk.injEq] at he
      obtain ⟨rfl, rfl⟩ := he
      rw [hX] at hx
      refine ⟨_, run_nck ho rfl ?_, hx, rfl, LpIn.plain (by simp) (by simp)⟩
      generalize a.eval x' = A at hx; cases hx; trivial
    · rename_i s k hX
      simp only [Option.some.injEq, Prod.mk.injEq] at he
      obtain ⟨rfl, rfl⟩ := he
      rw [hX] at hx hL
      refine ⟨_, run_nck ho rfl ?_, hx, rfl, hL⟩
      obtain ⟨b, _, e⟩ := hx
      rw [e]; trivial
    · rename_i f l m hX
      simp only [Option.some.injEq, Prod.mk.injEq] at he
      obtain ⟨rfl, rfl⟩ := he
      rw [hX] at hx
      refine ⟨_, run_nck ho rfl ?_, hx, rfl, LpIn.plain (by simp) (by simp)⟩
      generalize a.eval x' = A at hx; cases hx; trivial
    · simp at he
  · simp at hc

end
end Mir

namespace Mir
open Go (Value Addr IntKind World Obj Act Program FuncId TypeId Operand Op Oper Code TypeDesc Sem Result)

section
variable {P : Program} {φ : Nat → Option FuncId} {ψ : Prim → FuncId → Bool} {B : Base} {n : Nat} {st : St} {a : Act} {w : World} {O : Nat → Prop} {loc : List (Nat × Nat)} {D : List Nat}

theorem isAggT_some {t : TypeId} (h : isAggT P t = true) : (P.underlying t).isSome = true := by
  unfold isAggT at h
  cases hu : P.underlying t with
  | none => simp [hu] at h
  | some _ => rfl

theorem run_part {c : Cx} {t : TypeId} {q : Option Nat} (ht : partOk P t q = true) {l : List V} {cs : Array Value} (hr : VRa φ c l cs) {o : Nat} {v : V} (hv : part l o q = some v) (w : World) :
    ∃ x, (Go.part t cs o).run P w = .ok x w ∧ VR φ c v x := by
  have hl := hr.1
  cases q with
  | none =>
    simp only [partOk, Bool.and_eq_true, Bool.not_eq_true', beq_iff_eq] at ht
    simp only [part] at hv
    obtain ⟨ho, hv⟩ := List.getElem?_eq_some_iff.1 hv
    have hlt : o < cs.size := by omega
    exact ⟨cs[o], run_part_one w ht.1.2 ht.1.1 (by simp [hlt]), by rw [← hv]; exact hr.2 o ho hlt⟩
  | some k =>
    simp only [partOk, Bool.and_eq_true, beq_iff_eq] at ht
    simp only [part] at hv
    split at hv
    · rename_i hle
      simp only [Option.some.injEq] at hv
      subst hv
      have h1 := hr.slice hle
      exact ⟨_, run_part_agg w ht.1 (isAggT_some ht.1) ht.2 cs o, .agg _ _ h1.1 h1.2⟩
    · simp at hv

theorem evAll_ok (hs : Sim φ B n st a w O loc D) : ∀ (xs : List Operand) (ys : List Opd), chkXs φ xs ys = true → ys.length = xs.length ∧ ∀ j (h : j < ys.length) (h' : j < xs.length), VL φ (CxOf w O loc) a.tmps (ev st.e ys[j]) (a.eval xs[j])
  | [], [], _ => ⟨rfl, fun j h => absurd h (by simp)⟩
  | x :: xs, y :: ys, h => by
    simp only [chkXs, Bool.and_eq_true] at h
    obtain ⟨h1, h2⟩ := evAll_ok hs xs ys h.2
    refine ⟨by simp [h1], fun j hj hj' => ?_⟩
    cases j with
    | zero => exact ev_VL hs h.1
    | succ j => exact h2 j (by simpa using hj) (by simpa using hj')
  | [], _ :: _, h => by simp [chkXs] at h
  | _ :: _, [], h => by simp [chkXs] at h

theorem VL_plainV {c : Cx} {t : Array Value} {v : V} {x : Value} (h : VL φ c t v x) (hp : plainV v = true) : VR φ c v x :=
  VL_plain h (by rintro s o rfl; simp [plainV] at hp) (by rintro z s o m k rfl; simp [plainV] at hp)

/-- What the program's own functions of the processor do. -/
def PrimOk (P : Program) : Prim → FuncId → Prop
  | .add64, F => ∀ (x y k : Nat) (w : World), k ≤ 1 → (Go.callFunc F #[.int .u64 x, .int .u64 y, .int .u64 k]).run P w =
      .ok (.value (.tuple #[.int .u64 ((x + y + k) % 2 ^ 64 : Nat), .int .u64 ((x + y + k) / 2 ^ 64 : Nat)])) w
  | .sub64, F => ∀ (x y k : Nat) (w : World), k ≤ 1 → (Go.callFunc F #[.int .u64 x, .int .u64 y, .int .u64 k]).run P w =
      .ok (.value (.tuple #[.int .u64 ((x + 2 ^ 64 - y - k) % 2 ^ 64 : Nat), .int .u64 (if x < y + k then 1 else 0 : Nat)])) w

theorem run_call {o : Oper} {F : FuncId} {args : Array Operand} {ts : Array TypeId} (ho : o.op = .call { callee := .value (.func F), args := args, argTypes := ts }) :
    (Go.execOp a.eval o).run P w = (Go.callFunc F (args.map a.eval)).run P w := by
  simp [Go.execOp, ho, Go.resolve, Go.Deferred.ofValue, Go.invoke, Act.eval]

variable (hs : Sim φ B n st a w O loc D) {o : Oper} {c : Call} {v : V} {h' : Heap}
include hs

theorem fld_okR {q : Option Nat} {k : Nat} {x : Opd} (hc : chkOp P φ ψ o.op (.fld q k x) = true) (he : evalO c (.fld q k x) st.e st.h = some (v, h')) : PureR P φ st a w O loc D (.fld q k x) o v h' := by
  simp only [chkOp] at hc
  split at hc
  · rename_i t x' f ho
    simp only [Bool.and_eq_true] at hc
    obtain ⟨h1, hc⟩ := hc
    split at hc
    · rename_i fs hfs
      split at hc
      · rename_i fd hfd
        simp only [Bool.and_eq_true, beq_iff_eq] at hc
        have hx := ev_VL hs h1
        simp only [evalO] at he
        split at he
        · rename_i l hl
          rw [hl] at hx
          simp only [Option.map_eq_some_iff, Prod.mk.injEq] at he
          obtain ⟨u, hu, rfl, rfl⟩ := he
          generalize hA : a.eval x' = A at hx
          cases hx with
          | agg _ cs e1 e2 =>
            obtain ⟨V, hV1, hV2⟩ := run_part hc.2 ⟨e1, e2⟩ hu w
            refine ⟨V, ?_, VL_of_VR hV2, rfl, VRp ⟨_, _, hV2⟩⟩
            simp only [Go.execOp, ho, hA, Go.Instr.field, Go.Sem.run_bind, run_und (structT_und hfs), Result.andThen_ok, hfd, Go.asAgg, Go.Sem.run_pure, hc.1, hV1]
        · simp at he
      · simp at hc
    · simp at hc
  · simp at hc

theorem idxv_okR {k sz : Nat} {ag : Bool} {x i : Opd} (hc : chkOp P φ ψ o.op (.idxv k sz ag x i) = true) (he : evalO c (.idxv k sz ag x i) st.e st.h = some (v, h')) : PureR P φ st a w O loc D (.idxv k sz ag x i) o v h' := by
  simp only [chkOp] at hc
  split at hc
  · rename_i t x' i' ho
    simp only [Bool.and_eq_true] at hc
    obtain ⟨⟨h1, h2⟩, hc⟩ := hc
    split at hc
    · rename_i k' e hk
      simp only [Bool.and_eq_true, beq_iff_eq] at hc
      obtain ⟨⟨rfl, hsz⟩, hp⟩ := hc
      have hx := ev_VL hs h1
      simp only [evalO] at he
      split at he
      · rename_i l j hl hj
        rw [hl] at hx
        simp only [Option.map_eq_some_iff, Prod.mk.injEq] at he
        obtain ⟨u, hu, rfl, rfl⟩ := he
        obtain ⟨qk, z, hI, hz0, hz1, hz⟩ := ixOf_ok (ev_VL hs h2) hj
        generalize hA : a.eval x' = A at hx
        cases hx with
        | agg _ cs e1 e2 =>
          obtain ⟨V, hV1, hV2⟩ := run_part hp ⟨e1, e2⟩ hu w
          refine ⟨V, ?_, VL_of_VR hV2, rfl, VRp ⟨_, _, hV2⟩⟩
          simp only [Go.execOp, ho, hA, hI, Go.Instr.index, Go.Sem.run_bind, Go.asIntOf, Go.Sem.run_pure, run_und (arrayT_und hk), Result.andThen_ok, run_size hsz, Go.Sem.run_ite]
          rw [if_pos ⟨hz0, hz1⟩]
          simp [hz, hV1]
      · simp at he
    · simp at hc
  · simp at hc

theorem idxb_okR {x i : Opd} (hc : chkOp P φ ψ o.op (.idxb x i) = true) (he : evalO c (.idxb x i) st.e st.h = some (v, h')) : PureR P φ st a w O loc D (.idxb x i) o v h' := by
  simp only [chkOp] at hc
  split at hc
  · rename_i t x' i' ho
    simp only [Bool.and_eq_true] at hc
    obtain ⟨⟨h1, h2⟩, hc⟩ := hc
    have hx := ev_VL hs h1
    simp only [evalO] at he
    split at he
    · rename_i l hl
      rw [hl] at hx
      split at he
      · rename_i j hj
        simp only [Option.map_eq_some_iff, Prod.mk.injEq] at he
        obtain ⟨u, hu, rfl, rfl⟩ := he
        obtain ⟨qk, z, hI, hz0, hz1, hz⟩ := ixOf_ok (ev_VL hs h2) hj
        generalize hA : a.eval x' = A at hx
        cases hx with
        | s _ ba hba =>
          obtain ⟨hj2, hu⟩ := List.getElem?_eq_some_iff.1 hu
          have hsz := size_toNat hba
          have hlt : j < ba.data.toList.length := by
            have : ba.data.toList.length = ba.size := rfl
            omega
          have hval : u = (ba.data.toList[j]).toNat := by
            subst hba
            rw [← hu]; simp
          refine ⟨.int .u8 u, ?_, VL_of_VR (.u 8 u .u8 rfl ?_), rfl, LpIn.plain (by simp) (by simp)⟩
          · have hget : ba[z.toNat]? = some (ba.data.toList[j]) := by
              rw [hz]
              have hjs : j < ba.size := by omega
              rw [getElem?_pos ba j hjs]
              rfl
            simp only [Go.execOp, ho, hA, hI, Go.Instr.index, Go.Sem.run_bind, Go.asIntOf, Go.Sem.run_pure, run_und (strT_und hc), Result.andThen_ok]
            rw [if_pos hz0, hget]
            simp [hval]
          · rw [hval]; exact UInt8.toNat_lt _
      · simp at he
    · simp at he
  · simp at hc

theorem ext_okR {k : Nat} {x : Opd} (hc : chkOp P φ ψ o.op (.ext k x) = true) (he : evalO c (.ext k x) st.e st.h = some (v, h')) : PureR P φ st a w O loc D (.ext k x) o v h' := by
  simp only [chkOp] at hc
  split at hc
  · rename_i x' k' ho
    simp only [Bool.and_eq_true, beq_iff_eq] at hc
    obtain ⟨h1, rfl⟩ := hc
    have hx := ev_VL hs h1
    simp only [evalO] at he
    split at he
    · rename_i l hl
      rw [hl] at hx
      simp only [Option.map_eq_some_iff, Prod.mk.injEq] at he
      obtain ⟨u, hu, rfl, rfl⟩ := he
      generalize hA : a.eval x' = A at hx
      cases hx with
      | tup _ cs e1 e2 =>
        obtain ⟨hk, hu⟩ := List.getElem?_eq_some_iff.1 hu
        have hlt : k < cs.size := by omega
        have hV := e2 k hk hlt
        rw [hu] at hV
        refine ⟨cs[k], ?_, VL_of_VR hV, rfl, VRp ⟨_, _, hV⟩⟩
        simp [Go.execOp, ho, hA, Go.Instr.extract, hlt]
    · simp at he
  · simp at hc

theorem sls_okR {x : Opd} {lo hi : Option Opd} (hc : chkOp P φ ψ o.op (.sls x lo hi) = true) (he : evalO c (.sls x lo hi) st.e st.h = some (v, h')) : PureR P φ st a w O loc D (.sls x lo hi) o v h' := by
  simp only [chkOp] at hc
  split at hc
  · rename_i t x' lo' hi' mx ho
    simp only [Bool.and_eq_true, Option.isNone_iff_eq_none] at hc
    obtain ⟨⟨⟨⟨h1, h2⟩, h3⟩, rfl⟩, ht⟩ := hc
    have hx := ev_VL hs h1
    simp only [evalO] at he
    split at he
    · rename_i l hl
      rw [hl] at hx
      split at he
      · rename_i p q hb
        simp only [Option.some.injEq, Prod.mk.injEq] at he
        obtain ⟨rfl, rfl⟩ := he
        generalize hA : a.eval x' = A at hx
        cases hx with
        | s _ ba hba =>
          have hsz := size_toNat hba
          rw [← hsz] at hb
          obtain ⟨hrun, hpq, hq⟩ := bounds_ok (P := P) hs h2 h3 false hb (Nat.le_refl _)
          refine ⟨.string (ba.extract p q), ?_, VL_of_VR (.s _ _ ?_), rfl, LpIn.plain (by simp) (by simp)⟩
          · simp only [Go.execOp, ho, hA, Go.Instr.sliceAt, Go.Instr.slice, Go.Sem.run_bind, run_und (strT_und ht), Result.andThen_ok, Option.map_none, Option.isSome_none, Bool.false_eq_true, if_false, Go.Sem.run_pure, hrun]
          · rw [ByteArray.data_extract, ← hba]
            simp [Array.toList_extract, List.extract_eq_take_drop, List.map_drop, List.map_take, List.drop_take]
      · simp at he
    · simp at he
  · simp at hc

theorem slv_okR {sz : Nat} {x : Opd} {lo hi : Option Opd} (hc : chkOp P φ ψ o.op (.slv sz x lo hi) = true) (he : evalO c (.slv sz x lo hi) st.e st.h = some (v, h')) : PureR P φ st a w O loc D (.slv sz x lo hi) o v h' := by
  simp only [chkOp] at hc
  split at hc
  · rename_i t x' lo' hi' mx ho
    simp only [Bool.and_eq_true, Option.isNone_iff_eq_none] at hc
    obtain ⟨⟨⟨⟨h1, h2⟩, h3⟩, rfl⟩, ht⟩ := hc
    split at ht
    · rename_i e hse
      simp only [beq_iff_eq] at ht
      have hx := ev_VL hs h1
      simp only [evalO, Option.map_eq_some_iff, Prod.mk.injEq] at he
      obtain ⟨u, hu, rfl, rfl⟩ := he
      have run : ∀ (ad : Option Addr) (len cap p q : Nat) (A : Value), a.eval x' = A → A = .slice ad len cap → (Go.Instr.sliceBounds true len cap (lo'.map a.eval) (hi'.map a.eval) none).run P w = .ok (p, q, cap) w →
          (Go.execOp a.eval o).run P w = .ok (.value (.slice (if cap = p then ad else ad.map (·.add (p * sz))) (q - p) (cap - p))) w := by
        rintro ad len cap p q A hA rfl hb
        simp only [Go.execOp, ho, hA, Go.Instr.sliceAt, Go.Instr.slice, Go.Sem.run_bind, run_und (sliceT_und hse), Result.andThen_ok, Option.map_none, hb, run_size ht, Go.Sem.run_pure]
      generalize ev st.e x = X at *
      generalize hA : a.eval x' = A at *
      cases X <;> simp only [slcV, reduceCtorEq] at hu
      · cases hb : bounds 0 0 st.e lo hi with
        | none => simp [hb] at hu
        | some pq =>
          obtain ⟨p, q⟩ := pq
          simp only [hb, Option.some.injEq] at hu
          subst hu
          obtain ⟨hrun, hpq, hq⟩ := bounds_ok (P := P) hs h2 h3 true hb (Nat.le_refl _)
          cases hx
          refine ⟨_, run _ _ _ _ _ _ rfl rfl hrun, ?_, rfl, LpIn.plain (by simp) (by simp)⟩
          have hp0 : p = 0 := by omega
          have hq0 : q = 0 := by omega
          subst hp0; subst hq0
          exact VR.nils
      · rename_i m l
        cases hb : bounds m m st.e lo hi with
        | none => simp [hb] at hu
        | some pq =>
          obtain ⟨p, q⟩ := pq
          simp only [hb, Option.some.injEq] at hu
          subst hu
          cases hx with
          | vsn =>
            obtain ⟨hrun, hpq, hq⟩ := bounds_ok (P := P) hs h2 h3 true hb (Nat.le_refl _)
            refine ⟨_, run _ _ _ _ _ _ rfl rfl hrun, ?_, rfl, LpIn.plain (by simp) (by simp)⟩
            have hp0 : p = 0 := by omega
            have hq0 : q = 0 := by omega
            subst hp0; subst hq0
            have := (VR.vsn : VR φ (CxOf w O loc) _ _)
            simpa [VL] using this
          | vs0 ad cap =>
            obtain ⟨hrun, hpq, hq⟩ := bounds_ok (P := P) hs h2 h3 true hb (Nat.zero_le cap)
            refine ⟨_, run _ _ _ _ _ _ rfl rfl hrun, ?_, rfl, LpIn.plain (by simp) (by simp)⟩
            have hp0 : p = 0 := by omega
            have hq0 : q = 0 := by omega
            subst hp0; subst hq0
            simp only [Nat.zero_mul, List.drop_zero, List.take_nil, Nat.sub_self]
            split <;> exact VR.vs0 _ _
          | vs _ _ b o' cap y g0 g1 g2 g3 =>
            obtain ⟨hrun, hpq, hq⟩ := bounds_ok (P := P) hs h2 h3 true hb g0
            refine ⟨_, run _ _ _ _ _ _ rfl rfl hrun, ?_, rfl, LpIn.plain (by simp) (by simp)⟩
            by_cases hcp : cap = p
            · have hqp : q = p := by omega
              subst hqp
              simp only [hcp, if_true, Nat.sub_self, Nat.zero_mul, List.take_zero]
              exact VR.vs0 _ _
            · simp only [hcp, if_false, Option.map_some, addr_add]
              refine VR.vs _ _ b _ _ (fun j => y (p * sz + j)) (by omega) ?_ ?_ ?_
              · intro hne
                refine g1 ?_
                rintro rfl
                simp at hne
              · intro j hj
                simp at hj
                rw [Nat.add_assoc]
                exact g2 _ (by omega)
              · intro j hj
                have hj2 := hj
                simp at hj2
                simp only [List.getElem_take, List.getElem_drop]
                exact g3 _ _
      · split at hu
        · rename_i e1
          subst e1
          rename_i zz k off len cap
          cases hb : bounds len cap st.e lo hi with
          | none => simp [hb] at hu
          | some pq =>
            obtain ⟨p, q⟩ := pq
            simp only [hb, Option.some.injEq] at hu
            subst hu
            cases hx with
            | hs _ _ _ _ _ b δ cap' ad g1 g2 g3 g4 =>
              obtain ⟨hrun, hpq, hq⟩ := bounds_ok (P := P) hs h2 h3 true hb g3
              refine ⟨_, run _ _ _ _ _ _ rfl rfl hrun, ?_, rfl, LpIn.plain (by simp) (by simp)⟩
              by_cases hcp : cap' = p
              · simp only [hcp, if_true]
                exact VR.hs _ _ _ _ _ b δ _ _ g1 (by omega) (by omega) (fun h => absurd h (by omega))
              · simp only [hcp, if_false, Option.map_some]
                obtain ⟨g5, g6⟩ := g4 (by omega)
                refine VR.hs _ _ _ _ _ b δ _ _ g1 (by omega) (by omega) (fun h => ⟨?_, ?_⟩)
                · rw [g5, addr_add, Nat.add_assoc]
                · have : p * zz + (cap' - p) * zz = cap' * zz := by rw [← Nat.add_mul]; congr 1; omega
                  omega
        · simp at hu
    · simp at ht
  · simp at hc

theorem sla_okR {imm : Bool} {k sz : Nat} {x : Opd} {lo hi : Option Opd} (hc : chkOp P φ ψ o.op (.sla imm k sz x lo hi) = true) (he : evalO c (.sla imm k sz x lo hi) st.e st.h = some (v, h')) : PureR P φ st a w O loc D (.sla imm k sz x lo hi) o v h' := by
  simp only [chkOp] at hc
  split at hc
  · rename_i t x' lo' hi' mx ho
    simp only [Bool.and_eq_true, Option.isNone_iff_eq_none] at hc
    obtain ⟨⟨⟨⟨h1, h2⟩, h3⟩, rfl⟩, ht⟩ := hc
    split at ht
    · rename_i k' e hk
      simp only [Bool.and_eq_true, beq_iff_eq] at ht
      obtain ⟨rfl, hsz⟩ := ht
      have hx := ea_VL hs h1
      have hL := LpIn_ea hs h1
      simp only [evalO, Option.map_eq_some_iff, Prod.mk.injEq] at he
      obtain ⟨u, hu, rfl, rfl⟩ := he
      unfold slaV at hu
      cases hb : bounds k' k' st.e lo hi with
      | none => simp [hb] at hu
      | some pq =>
        obtain ⟨p, q⟩ := pq
        simp only [hb] at hu
        obtain ⟨hrun, hpq, hq⟩ := bounds_ok (P := P) hs h2 h3 false hb (Nat.le_refl _)
        have run : ∀ (b o' : Nat) (A : Value), a.eval x' = A → A = .pointer (some ⟨b, o', none⟩) →
            (Go.execOp a.eval o).run P w = .ok (.value (.slice (some (if k' = p then ⟨b, o', none⟩ else ⟨b, o' + p * sz, none⟩)) (q - p) (k' - p))) w := by
          rintro b o' A hA rfl
          simp only [Go.execOp, ho, hA, Go.Instr.sliceAt, Go.Sem.run_bind, run_und (arrayT_und hk), Result.andThen_ok, Option.map_none, Go.Instr.sureAddr, Go.Sem.run_pure, hrun, run_size hsz, addr_add]
        generalize ea st.e x = X at *
        generalize hA : a.eval x' = A at *
        cases X <;> simp only [reduceCtorEq] at hu
        · rename_i l off
          split at hu
          · rename_i hle
            simp only [Option.some.injEq] at hu
            subst hu
            cases hx with
            | vr _ _ b δ y g1 g2 g3 =>
              refine ⟨_, run _ _ _ rfl rfl, ?_, rfl, LpIn.plain (by simp) (by simp)⟩
              by_cases hkp : k' = p
              · have hqp : q = p := by omega
                subst hqp
                simp only [hkp, if_true, Nat.sub_self, Nat.zero_mul, List.take_zero]
                exact VR.vs0 _ _
              · simp only [hkp, if_false]
                refine VR.vs _ _ b _ _ (fun j => y (off + p * sz + j)) (by omega) ?_ ?_ ?_
                · intro hne
                  refine g1 ?_
                  rintro rfl
                  simp at hne
                · intro j hj
                  simp at hj
                  rw [show δ + off + p * sz + j = δ + (off + p * sz + j) by omega]
                  exact g2 _ (by omega)
                · intro j hj
                  have hj2 := hj
                  simp at hj2
                  simp only [List.getElem_take, List.getElem_drop]
                  exact g3 _ _
          · simp at hu
        · split at hu
          · rename_i r hr
            split at hu
            · rename_i hle
              simp only [Option.some.injEq] at hu
              subst hu
              rename_i kk oo _
              have hr' : row st.h kk = some r := by
                cases imm
                · exact hr
                · simp [row] at hr
              obtain ⟨b0, δ0, cs, T, fz, hloc, _, hrow⟩ := hs.heap.rows kk r hr'
              cases hx with
              | hp _ _ b δ g1 =>
                have : (b0, δ0) = (b, δ) := by
                  have := hloc.symm.trans g1
                  simpa using this
                simp only [Prod.mk.injEq] at this
                obtain ⟨rfl, rfl⟩ := this
                refine ⟨_, run _ _ _ rfl rfl, ?_, rfl, LpIn.plain (by simp) (by simp)⟩
                refine VR.hs _ _ _ _ _ b0 δ0 _ _ g1 (by omega) (Nat.le_refl _) (fun h => ⟨?_, ?_⟩)
                · rw [if_neg (by omega), Nat.add_assoc]
                · have h1 := hrow.block
                  have h2 := hrow.room
                  have h3 : p * sz + (k' - p) * sz = k' * sz := by rw [← Nat.add_mul]; congr 1; omega
                  simp only [bsize, h1]
                  omega
            · simp at hu
          · simp at hu
        · simp only [Option.some.injEq] at hu
          subst hu
          obtain ⟨b, hb', rfl⟩ := hx
          refine ⟨_, run _ _ _ rfl rfl, ?_, rfl, ?_⟩
          · refine ⟨b, _, _, hb', rfl, by omega, Nat.le_refl _, fun h => ?_⟩
            rw [if_neg (by omega)]
          · refine ⟨fun s o e => by simp at e, fun z s o m k e => ?_⟩
            simp at e
            rw [← e.2.1]
            exact hL.1 _ _ rfl
    · simp at ht
  · simp at hc

end
end Mir

namespace Mir
open Go (Value Addr IntKind World Obj Act Program FuncId TypeId Operand Op Oper Code TypeDesc Sem Result)

section
variable {P : Program} {φ : Nat → Option FuncId} {ψ : Prim → FuncId → Bool} {B : Base} {n : Nat} {st : St} {a : Act} {w : World} {O : Nat → Prop} {loc : List (Nat × Nat)} {D : List Nat}

theorem chkXs_map {args : Array Operand} {xs : List Operand} (h : args.toList = xs) : args.map a.eval = (xs.map a.eval).toArray := by
  apply Array.ext'; simp [h]

/-- Many operands' values, none of them an address of a local variable. -/
theorem evAll_VR (hs : Sim φ B n st a w O loc D) {xs : List Operand} {ys : List Opd} (h : chkXs φ xs ys = true) (hp : (evAll st.e ys).all plainV = true) :
    VRs φ (CxOf w O loc) (evAll st.e ys) (xs.map a.eval) := by
  obtain ⟨h1, h2⟩ := evAll_ok hs xs ys h
  refine ⟨by simp [evAll, h1], fun j hj hj' => ?_⟩
  simp [evAll] at hj hj'
  have h3 := h2 j hj hj'
  simp only [evAll, List.getElem_map]
  refine VL_plainV h3 ?_
  rw [List.all_eq_true] at hp
  exact hp _ (by simp [evAll]; exact ⟨_, List.getElem_mem hj, rfl⟩)

variable (hs : Sim φ B n st a w O loc D) {o : Oper} {c : Call} {v : V} {h' : Heap}
include hs

theorem s2a_okR {k : Nat} {x : Opd} (hc : chkOp P φ ψ o.op (.s2a k x) = true) (he : evalO c (.s2a k x) st.e st.h = some (v, h')) : PureR P φ st a w O loc D (.s2a k x) o v h' := by
  simp only [chkOp] at hc
  split at hc
  · rename_i t x' ho
    simp only [Bool.and_eq_true] at hc
    obtain ⟨h1, hc⟩ := hc
    split at hc
    · rename_i k' e hk
      simp only [beq_iff_eq] at hc
      subst hc
      have hx := ev_VL hs h1
      have hL := LpIn_ev hs x (const_plain h1)
      simp only [evalO, Option.map_eq_some_iff, Prod.mk.injEq] at he
      obtain ⟨u, hu, rfl, rfl⟩ := he
      have run : ∀ (ad : Option Addr) (len cap : Nat) (A : Value), a.eval x' = A → A = .slice ad len cap → k' ≤ len → (Go.execOp a.eval o).run P w = .ok (.value (.pointer ad)) w := by
        rintro ad len cap A hA rfl hle
        have : ¬ len < k' := by omega
        simp [Go.execOp, ho, hA, Go.Instr.arrayAt, run_und (arrayT_und hk), this]
      generalize ev st.e x = X at *
      generalize hA : a.eval x' = A at *
      cases X <;> simp only [s2aV, reduceCtorEq] at hu <;> split at hu <;> simp only [Option.some.injEq, reduceCtorEq] at hu <;> subst hu <;> rename_i hle
      · cases hx with
        | vsn => omega
        | vs0 ad cap => omega
        | vs _ _ b o' cap y g0 g1 g2 g3 =>
          exact ⟨_, run _ _ _ _ rfl rfl hle.2, by simpa [VL] using (VR.vr _ 0 b o' y g1 g2 g3), rfl, LpIn.plain (by simp) (by simp)⟩
      · cases hx with
        | hs _ _ _ _ _ b δ cap' ad g1 g2 g3 g4 =>
          refine ⟨_, run _ _ _ _ rfl rfl hle.2, ?_, rfl, LpIn.plain (by simp) (by simp)⟩
          rw [(g4 (by omega)).1]
          exact VR.hp _ _ b δ g1
      · obtain ⟨b, ad, cap', hb, rfl, g2, g3, g4⟩ := hx
        refine ⟨_, run _ _ _ _ rfl rfl hle.2, ?_, rfl, ⟨fun s o e => ?_, fun z s o m k e => by simp at e⟩⟩
        · rw [g4 (by omega)]
          exact ⟨b, hb, rfl⟩
        · simp at e
          rw [← e.1]
          exact List.mem_append_left _ (hL.2 _ _ _ _ _ rfl)
    · simp at hc
  · simp at hc

omit hs in
theorem primV_add {E : List V} {u : V} (h : primV .add64 E = some u) : ∃ x y k, E = [.u 64 x, .u 64 y, .u 64 k] ∧ k ≤ 1 ∧ u = .tup [.u 64 ((x + y + k) % 2 ^ 64), .u 64 ((x + y + k) / 2 ^ 64)] := by
  unfold primV at h
  split at h
  · split at h
    · simp only [Option.some.injEq] at h; exact ⟨_, _, _, rfl, ‹_›, h.symm⟩
    · simp at h
  · rename_i heq; cases heq
  · simp at h

omit hs in
theorem primV_sub {E : List V} {u : V} (h : primV .sub64 E = some u) : ∃ x y k, E = [.u 64 x, .u 64 y, .u 64 k] ∧ k ≤ 1 ∧ u = .tup [.u 64 ((x + 2 ^ 64 - y - k) % 2 ^ 64), .u 64 (if x < y + k then 1 else 0)] := by
  unfold primV at h
  split at h
  · rename_i heq; cases heq
  · split at h
    · simp only [Option.some.injEq] at h; exact ⟨_, _, _, rfl, ‹_›, h.symm⟩
    · simp at h
  · simp at h

theorem prim_okR (hψ : ∀ p F, ψ p F = true → PrimOk P p F) {p : Prim} {args : List Opd} (hc : chkOp P φ ψ o.op (.prim p args) = true) (he : evalO c (.prim p args) st.e st.h = some (v, h')) :
    PureR P φ st a w O loc D (.prim p args) o v h' := by
  simp only [chkOp] at hc
  split at hc
  · rename_i F args' ts ho
    simp only [Bool.and_eq_true] at hc
    obtain ⟨hF, h1⟩ := hc
    have hp := hψ p F hF
    simp only [evalO, Option.map_eq_some_iff, Prod.mk.injEq] at he
    obtain ⟨u, hu, rfl, rfl⟩ := he
    have hpl : (evAll st.e args).all plainV = true := by
      generalize evAll st.e args = A at hu
      unfold primV at hu
      split at hu <;> simp [plainV] at hu ⊢
    have hv := evAll_VR hs h1 hpl
    have hm := chkXs_map (a := a) (args := args') rfl
    have hrun := run_call (P := P) (a := a) (w := w) ho
    rw [hm] at hrun
    generalize evAll st.e args = E at *
    generalize args'.toList.map a.eval = M at *
    have three : ∀ (x y k : Nat), E = [.u 64 x, .u 64 y, .u 64 k] → M = [.int .u64 x, .int .u64 y, .int .u64 k] ∧ x < 2 ^ 64 ∧ y < 2 ^ 64 := by
      rintro x y k rfl
      obtain ⟨l1, l2⟩ := hv
      match M, l1, l2 with
      | [m1, m2, m3], _, l2 =>
        have g1 := l2 0 (by simp) (by simp)
        have g2 := l2 1 (by simp) (by simp)
        have g3 := l2 2 (by simp) (by simp)
        simp only [List.getElem_cons_zero, List.getElem_cons_succ] at g1 g2 g3
        cases g1 with | u _ _ k1 e1 e2 => cases g2 with | u _ _ k2 e3 e4 => cases g3 with | u _ _ k3 e5 e6 =>
          simp [ukind] at e1 e3 e5
          subst e1; subst e3; subst e5
          exact ⟨rfl, e2, e4⟩
    have two : ∀ (x y : Nat), x < 2 ^ 64 → y < 2 ^ 64 → VR φ (CxOf w O loc) (.tup [.u 64 x, .u 64 y]) (.tuple #[.int .u64 x, .int .u64 y]) := by
      intro x y hx hy
      refine .tup _ _ rfl fun j h h' => ?_
      match j, h with
      | 0, _ => exact .u 64 x .u64 rfl hx
      | 1, _ => exact .u 64 y .u64 rfl hy
    cases p with
    | add64 =>
      obtain ⟨x, y, k, hE, hk, rfl⟩ := primV_add hu
      obtain ⟨hM, hx, hy⟩ := three x y k hE
      rw [hM] at hrun
      refine ⟨_, hrun.trans (hp x y k w hk), VL_of_VR (two _ _ (Nat.mod_lt _ (by decide)) ?_), rfl, LpIn.plain (by simp) (by simp)⟩
      have : (x + y + k) / 2 ^ 64 ≤ 1 := by omega
      omega
    | sub64 =>
      obtain ⟨x, y, k, hE, hk, rfl⟩ := primV_sub hu
      obtain ⟨hM, hx, hy⟩ := three x y k hE
      rw [hM] at hrun
      refine ⟨_, hrun.trans (hp x y k w hk), VL_of_VR (two _ _ (Nat.mod_lt _ (by decide)) ?_), rfl, LpIn.plain (by simp) (by simp)⟩
      split <;> omega
  · simp at hc

theorem fun_okR {f : Nat} {xs ys : List Opd} (hc : chkOp P φ ψ o.op (.fun_ f xs ys) = true) (he : evalO c (.fun_ f xs ys) st.e st.h = some (v, h')) : PureR P φ st a w O loc D (.fun_ f xs ys) o v h' := by
  simp only [chkOp] at hc
  split at hc
  · rename_i F a' c' ho
    simp only [Bool.and_eq_true, beq_iff_eq] at hc
    obtain ⟨⟨hF, h1⟩, h2⟩ := hc
    simp only [evalO] at he
    split at he
    · rename_i hpl
      simp only [Option.some.injEq, Prod.mk.injEq] at he
      obtain ⟨rfl, rfl⟩ := he
      simp only [Bool.and_eq_true] at hpl
      have hv1 := evAll_VR hs h1 hpl.1
      have hv2 := evAll_VR hs h2 hpl.2
      refine ⟨.func (.func F) (a'.map a.eval) (c'.map a.eval), ?_, VL_of_VR (.fn _ _ _ _ _ _ hF ?_ ?_ ?_ ?_), rfl, LpIn.plain (by simp) (by simp)⟩
      · simp [Go.execOp, ho, Go.Instr.makeFunc]
      · simpa using hv1.1
      · intro j h h'
        have := hv1.2 j h (by simpa using h')
        simpa using this
      · simpa using hv2.1
      · intro j h h'
        have := hv2.2 j h (by simpa using h')
        simpa using this
    · simp at he
  · simp at hc

omit hs in
theorem run_bi {b : Go.Builtin} {args : Array Operand} {ts : Array TypeId} (ho : o.op = .call { callee := .builtin b, args := args, argTypes := ts }) {xs : List Operand} (hxs : args.toList = xs) :
    ∃ ks, (Go.execOp a.eval o).run P w = (Go.builtin b ts o.type ks (xs.map a.eval).toArray).run P w := by
  rw [← chkXs_map hxs]
  simp only [Go.execOp, ho, Go.resolve, Go.Sem.run_bind, Go.Sem.run_pure, Result.andThen_ok, Go.invoke]
  exact ⟨_, rfl⟩

omit hs in
theorem chkXs_one {args : List Operand} {x : Opd} (h : chkXs φ args [x] = true) : ∃ x', args = [x'] ∧ chkX φ x' x = true := by
  match args, h with
  | [x'], h => simp only [chkXs, Bool.and_true] at h; exact ⟨x', rfl, h⟩
  | [], h => simp [chkXs] at h
  | _ :: _ :: _, h => simp [chkXs] at h

omit hs in
theorem chkXs_two {args : List Operand} {x y : Opd} (h : chkXs φ args [x, y] = true) : ∃ x' y', args = [x', y'] ∧ chkX φ x' x = true ∧ chkX φ y' y = true := by
  match args, h with
  | [x', y'], h => simp only [chkXs, Bool.and_true, Bool.and_eq_true] at h; exact ⟨x', y', rfl, h.1, h.2⟩
  | [], h => simp [chkXs] at h
  | [_], h => simp [chkXs] at h
  | _ :: _ :: _ :: _, h => simp [chkXs] at h

omit hs in
theorem ts0 {ts : Array TypeId} {t : TypeId} {rest : List TypeId} (h : ts.toList = t :: rest) : ts[0]? = some t := by
  have h2 : ts.toList[0]? = some t := by rw [h]; rfl
  simpa using h2

omit hs in
theorem len_slice {cx : Cx} {t : Array Value} {X : V} {A : Value} (hx : VL φ cx t X A) {m : Nat} (hm : lenV X = some m) : ∃ p q, A = .slice p m q := by
  cases X <;> simp only [lenV, Option.some.injEq, reduceCtorEq] at hm <;> subst hm
  · cases hx; exact ⟨_, _, rfl⟩
  · cases hx <;> exact ⟨_, _, rfl⟩
  · cases hx; exact ⟨_, _, rfl⟩
  · obtain ⟨b, ad, cap', _, rfl, _⟩ := hx; exact ⟨_, _, rfl⟩

theorem len_okR {x : Opd} (hc : chkOp P φ ψ o.op (.len x) = true) (he : evalO c (.len x) st.e st.h = some (v, h')) : PureR P φ st a w O loc D (.len x) o v h' := by
  simp only [chkOp] at hc
  split at hc
  · rename_i b args ts ho
    simp only [chkBuiltin, Bool.and_eq_true, beq_iff_eq] at hc
    obtain ⟨⟨rfl, h1⟩, ht⟩ := hc
    obtain ⟨x', hx', h1⟩ := chkXs_one h1
    simp only [evalO] at he
    split at he
    · rename_i m hm
      split at he
      · rename_i hlt
        simp only [Option.some.injEq, Prod.mk.injEq] at he
        obtain ⟨rfl, rfl⟩ := he
        obtain ⟨p, q, hA⟩ := len_slice (ev_VL hs h1) hm
        refine ⟨.int .i64 m, ?_, VL_of_VR (.i _ (by omega) (by omega)), rfl, LpIn.plain (by simp) (by simp)⟩
        obtain ⟨ks, hrun⟩ := run_bi (P := P) (a := a) (w := w) ho hx'
        rw [hrun]
        split at ht
        · rename_i t rest hts
          obtain ⟨e, he⟩ := Option.isSome_iff_exists.1 ht
          simp [Go.builtin, Go.Builtin.len_, ts0 hts, hA, run_und (sliceT_und he), Go.goInt]
        · simp at ht
      · simp at he
    · simp at he
  · simp at hc

theorem lens_okR {x : Opd} (hc : chkOp P φ ψ o.op (.lens x) = true) (he : evalO c (.lens x) st.e st.h = some (v, h')) : PureR P φ st a w O loc D (.lens x) o v h' := by
  simp only [chkOp] at hc
  split at hc
  · rename_i b args ts ho
    simp only [chkBuiltin, Bool.and_eq_true, beq_iff_eq] at hc
    obtain ⟨⟨rfl, h1⟩, ht⟩ := hc
    obtain ⟨x', hx', h1⟩ := chkXs_one h1
    have hx := ev_VL hs h1
    simp only [evalO] at he
    split at he
    · rename_i l hl
      split at he
      · rename_i hlt
        simp only [Option.some.injEq, Prod.mk.injEq] at he
        obtain ⟨rfl, rfl⟩ := he
        rw [hl] at hx
        generalize hA : a.eval x' = A at hx
        cases hx with
        | s _ ba hba =>
          have hsz := size_toNat hba
          refine ⟨.int .i64 l.length, ?_, VL_of_VR (.i _ (by omega) (by omega)), rfl, LpIn.plain (by simp) (by simp)⟩
          obtain ⟨ks, hrun⟩ := run_bi (P := P) (a := a) (w := w) ho hx'
          rw [hrun]
          split at ht
          · rename_i t rest hts
            simp [Go.builtin, Go.Builtin.len_, ts0 hts, hA, run_und (strT_und ht), Go.goInt, hsz]
          · simp at ht
      · simp at he
    · simp at he
  · simp at hc

theorem mn_okR {x y : Opd} (hc : chkOp P φ ψ o.op (.mn x y) = true) (he : evalO c (.mn x y) st.e st.h = some (v, h')) : PureR P φ st a w O loc D (.mn x y) o v h' := by
  simp only [chkOp] at hc
  split at hc
  · rename_i b args ts ho
    simp only [chkBuiltin, Bool.and_eq_true, beq_iff_eq] at hc
    obtain ⟨rfl, h1⟩ := hc
    obtain ⟨x', y', hx', h1, h2⟩ := chkXs_two h1
    have hx := ev_VL hs h1
    have hy := ev_VL hs h2
    simp only [evalO] at he
    split at he
    · rename_i p q hp hq
      simp only [Option.some.injEq, Prod.mk.injEq] at he
      obtain ⟨rfl, rfl⟩ := he
      rw [hp] at hx
      rw [hq] at hy
      generalize hA : a.eval x' = A at hx
      generalize hB : a.eval y' = B' at hy
      cases hx with
      | i _ e1 e2 => cases hy with
        | i _ e3 e4 =>
          refine ⟨.int .i64 (if q < p then q else p), ?_, VL_of_VR (.i _ (by split <;> omega) (by split <;> omega)), rfl, LpIn.plain (by simp) (by simp)⟩
          obtain ⟨ks, hrun⟩ := run_bi (P := P) (a := a) (w := w) ho hx'
          rw [hrun]
          simp [Go.builtin, Go.Builtin.min_, Go.Builtin.min2, hA, hB]
    · simp at he
  · simp at hc

theorem mx_okR {x y : Opd} (hc : chkOp P φ ψ o.op (.mx x y) = true) (he : evalO c (.mx x y) st.e st.h = some (v, h')) : PureR P φ st a w O loc D (.mx x y) o v h' := by
  simp only [chkOp] at hc
  split at hc
  · rename_i b args ts ho
    simp only [chkBuiltin, Bool.and_eq_true, beq_iff_eq] at hc
    obtain ⟨rfl, h1⟩ := hc
    obtain ⟨x', y', hx', h1, h2⟩ := chkXs_two h1
    have hx := ev_VL hs h1
    have hy := ev_VL hs h2
    simp only [evalO] at he
    split at he
    · rename_i p q hp hq
      simp only [Option.some.injEq, Prod.mk.injEq] at he
      obtain ⟨rfl, rfl⟩ := he
      rw [hp] at hx
      rw [hq] at hy
      generalize hA : a.eval x' = A at hx
      generalize hB : a.eval y' = B' at hy
      cases hx with
      | i _ e1 e2 => cases hy with
        | i _ e3 e4 =>
          refine ⟨.int .i64 (if p < q then q else p), ?_, VL_of_VR (.i _ (by split <;> omega) (by split <;> omega)), rfl, LpIn.plain (by simp) (by simp)⟩
          obtain ⟨ks, hrun⟩ := run_bi (P := P) (a := a) (w := w) ho hx'
          rw [hrun]
          simp [Go.builtin, Go.Builtin.max_, Go.Builtin.max2, hA, hB]
    · simp at he
  · simp at hc

end
end Mir

namespace Mir
open Go (Value Addr IntKind World Obj Act Program FuncId TypeId Operand Op Oper Code TypeDesc Sem Result)

theorem splice_len (l : List V) (o : Nat) (cs : List V) (h : o + cs.length ≤ l.length) : (splice l o cs).length = l.length := by
  unfold splice
  split
  · simp
  · simp; omega

theorem splice_get (l : List V) (o : Nat) (cs : List V) (h : o + cs.length ≤ l.length) (k : Nat) :
    (splice l o cs)[k]? = if o ≤ k ∧ k < o + cs.length then cs[k - o]? else l[k]? := by
  unfold splice
  split
  · rename_i v
    simp only [List.length_cons, List.length_nil, Nat.zero_add] at h ⊢
    by_cases hk : o = k
    · subst hk
      rw [List.getElem?_set_self (by omega)]
      simp
    · rw [List.getElem?_set_ne hk, if_neg (by omega)]
  · by_cases h1 : k < o
    · rw [if_neg (by omega), List.append_assoc, List.getElem?_append_left (by simp; omega), List.getElem?_take_of_lt h1]
    · by_cases h2 : k < o + cs.length
      · rw [if_pos ⟨by omega, h2⟩, List.append_assoc, List.getElem?_append_right (by simp; omega), List.getElem?_append_left (by simp; omega)]
        congr 1; simp; omega
      · rw [if_neg (by omega), List.append_assoc, List.getElem?_append_right (by simp; omega), List.getElem?_append_right (by simp; omega), List.getElem?_drop]
        congr 1; simp; omega

section
variable {P : Program} {φ : Nat → Option FuncId} {ψ : Prim → FuncId → Bool} {B : Base} {n : Nat} {st : St} {a : Act} {w : World} {O : Nat → Prop} {loc : List (Nat × Nat)} {D : List Nat}

/-- VRa by the cells' places. -/
theorem VRa_iff {c : Cx} {l : List V} {cs : Array Value} : VRa φ c l cs ↔ l.length = cs.size ∧ ∀ (j : Nat) v x, l[j]? = some v → cs[j]? = some x → VR φ c v x := by
  constructor
  · rintro ⟨h1, h2⟩
    refine ⟨h1, fun j v x hv hx => ?_⟩
    obtain ⟨e1, rfl⟩ := List.getElem?_eq_some_iff.1 hv
    obtain ⟨e2, rfl⟩ := Array.getElem?_eq_some_iff.1 hx
    exact h2 j e1 e2
  · rintro ⟨h1, h2⟩
    exact ⟨h1, fun j e1 e2 => h2 j _ _ (List.getElem?_eq_getElem e1) (Array.getElem?_eq_getElem e2)⟩

theorem cells_ok {c : Cx} {v : V} {x : Value} (h : VR φ c v x) (hc : (cells v).all cellV = true) : VRa φ c (cells v) x.cells ∧ (∀ (j : Nat) y, x.cells[j]? = some y → y.oneCell' = true) := by
  have one : ∀ (h : VR φ c v x), cells v = [v] → x.cells = #[x] → x.oneCell' = true → VRa φ c (cells v) x.cells ∧ (∀ (j : Nat) y, x.cells[j]? = some y → y.oneCell' = true) := by
    intro h e1 e2 e3
    rw [e1, e2]
    refine ⟨⟨rfl, fun j h1 h2 => ?_⟩, fun j y hy => ?_⟩
    · have : j = 0 := by simp at h1; omega
      subst this; exact h
    · have : j = 0 := by
        obtain ⟨e, _⟩ := Array.getElem?_eq_some_iff.1 hy
        simp at e; omega
      subst this; simp at hy; rw [← hy]; exact e3
  have cellOne : ∀ (v : V) (x : Value), VR φ c v x → cellV v = true → x.oneCell' = true := by
    intro v x h hv
    cases h <;> first | rfl | (simp [cellV] at hv; done)
  cases h with
  | agg l cs h1 h2 =>
    refine ⟨⟨h1, h2⟩, fun j y hy => ?_⟩
    simp only [cells, List.all_eq_true] at hc
    obtain ⟨e1, rfl⟩ := Array.getElem?_eq_some_iff.1 hy
    have e2 : j < l.length := by rw [h1]; exact e1
    exact cellOne _ _ (h2 j e2 e1) (hc _ (List.getElem_mem e2))
  | tup l cs h1 h2 => simp [cells, cellV] at hc
  | undef x => simp [cells, cellV] at hc
  | i n h1 h2 => exact one (.i n h1 h2) rfl rfl rfl
  | u w n k h1 h2 => exact one (.u w n k h1 h2) rfl rfl rfl
  | b x => exact one (.b x) rfl rfl rfl
  | s l ba h => exact one (.s l ba h) rfl rfl rfl
  | nilp => exact one .nilp rfl rfl rfl
  | nilf => exact one .nilf rfl rfl rfl
  | vr l off b δ y h1 h2 h3 => exact one (.vr l off b δ y h1 h2 h3) rfl rfl rfl
  | hp k off b δ h => exact one (.hp k off b δ h) rfl rfl rfl
  | nils => exact one .nils rfl rfl rfl
  | vsn => exact one .vsn rfl rfl rfl
  | vs0 a cap => exact one (.vs0 a cap) rfl rfl rfl
  | vs n l b o cap y h0 h1 h2 h3 => exact one (.vs n l b o cap y h0 h1 h2 h3) rfl rfl rfl
  | hs sz k off len cap b δ cap' ad h1 h2 h3 h4 => exact one (.hs sz k off len cap b δ cap' ad h1 h2 h3 h4) rfl rfl rfl
  | fn f F l m xs ys h1 h2 h3 h4 h5 => exact one (.fn f F l m xs ys h1 h2 h3 h4 h5) rfl rfl rfl

/-- Cells written over, as the machine does it. -/
theorem fold_get (C : List Value) (Z : Array Value) (o : Nat) : ∀ (i : Nat), (((C.zipIdx i).foldl (fun cs p => cs.setIfInBounds (o + p.2) p.1) Z).size = Z.size) ∧
    ∀ k : Nat, ((C.zipIdx i).foldl (fun cs p => cs.setIfInBounds (o + p.2) p.1) Z)[k]? = if o + i ≤ k ∧ k < o + i + C.length ∧ k < Z.size then C[k - (o + i)]? else Z[k]? := by
  induction C generalizing Z with
  | nil => intro i; refine ⟨by simp, fun k => ?_⟩; simp; intro h1 h2; omega
  | cons x C ih =>
    intro i
    simp only [List.zipIdx_cons, List.foldl_cons]
    obtain ⟨h1, h2⟩ := ih (Z.setIfInBounds (o + i) x) (i + 1)
    refine ⟨by rw [h1]; simp, fun k => ?_⟩
    rw [h2]
    simp only [Array.size_setIfInBounds, List.length_cons]
    by_cases hk : o + i = k
    · subst hk
      rw [if_neg (by omega)]
      by_cases hz : o + i < Z.size
      · rw [if_pos (by omega)]
        simp [hz]
      · rw [if_neg (by omega)]
        simp [Array.getElem?_setIfInBounds, hz]
    · rw [Array.getElem?_setIfInBounds_ne hk]
      by_cases hc : o + (i + 1) ≤ k ∧ k < o + (i + 1) + C.length ∧ k < Z.size
      · rw [if_pos hc, if_pos (by omega), show k - (o + i) = (k - (o + (i + 1))) + 1 by omega, List.getElem?_cons_succ]
      · rw [if_neg hc, if_neg (by omega)]

theorem splice_VRa {c : Cx} {z : List V} {Z Z' : Array Value} (hz : VRa φ c z Z) {o : Nat} {l : List V} {C : Array Value} (hl : VRa φ c l C) (ho : o + l.length ≤ z.length)
    (hs : Z'.size = Z.size) (hg : ∀ k : Nat, Z'[k]? = if o ≤ k ∧ k < o + C.size then C[k - o]? else Z[k]?) : VRa φ c (splice z o l) Z' := by
  rw [VRa_iff] at hz hl ⊢
  refine ⟨by rw [splice_len _ _ _ ho, hs]; exact hz.1, fun j v x hv hx => ?_⟩
  rw [splice_get _ _ _ ho] at hv
  rw [hg] at hx
  rw [← hl.1] at hx
  split at hv
  · rename_i hj
    rw [if_pos hj] at hx
    exact hl.2 _ _ _ hv hx
  · rename_i hj
    rw [if_neg hj] at hx
    exact hz.2 _ _ _ hv hx

theorem zeroOk_VRa {c : Cx} {t : TypeId} {z : List V} (h : zeroOk P φ t z = true) : ∃ it zv, P.info? t = some it ∧ it.zero = some zv ∧ VRa φ c z zv.cells := by
  unfold zeroOk at h
  cases hi : P.info? t with
  | none => simp [hi] at h
  | some it =>
    cases hz : it.zero with
    | none => simp [hi, hz] at h
    | some zv =>
      simp only [hi, hz, Option.bind_some] at h
      obtain ⟨h1, h2⟩ := VRs_of_chkVs c _ _ h
      exact ⟨it, zv, rfl, hz, by simpa using h1, fun j e1 e2 => by have := h2 j e1 (by simpa using e2); rwa [Array.getElem_toList] at this⟩

theorem fill_ok (hs : Sim φ B n st a w O loc D) (place : Nat → Option (Nat × Nat)) : ∀ (ps' : List (Nat × Operand)) (ps : List (Nat × Nat × Opd)), chkParts φ place ps' ps = true →
    ∀ (z l : List V) (Z : Array Value), VRa φ (CxOf w O loc) z Z → fill z (parts st.e ps) = some l → ∃ L, Go.Instr.fill place Z (ps'.map fun p => (p.1, a.eval p.2)) = some L ∧ VRa φ (CxOf w O loc) l L
  | [], [], _, z, l, Z, hz, hf => by
    simp only [parts, List.map_nil, fill, Option.some.injEq] at hf
    subst hf
    exact ⟨Z, rfl, hz⟩
  | (i, x) :: ps', (o, m, y) :: ps, hc, z, l, Z, hz, hf => by
    simp only [chkParts, Bool.and_eq_true, beq_iff_eq] at hc
    obtain ⟨⟨h1, h2⟩, h3⟩ := hc
    simp only [parts, List.map_cons, fill] at hf
    split at hf
    · rename_i hcond
      obtain ⟨g1, g2, g3⟩ := hcond
      have hx := ev_VL hs h2
      have hpl : plainV (ev st.e y) = true := by
        cases hv : ev st.e y <;> simp [hv, cells, cellV, plainV] at g3 ⊢
      have hv := VL_plainV hx hpl
      obtain ⟨c1, c2⟩ := cells_ok hv g3
      have hsz : (a.eval x).cells.size = m := by rw [← c1.1]; exact g1
      have hZ : Z.size = z.length := hz.1.symm
      obtain ⟨f1, f2⟩ := fold_get (a.eval x).cells.toList Z o 0
      simp only [Nat.add_zero] at f1 f2
      have step : VRa φ (CxOf w O loc) (splice z o (cells (ev st.e y))) ((a.eval x).cells.zipIdx.foldl (fun cs (c, j) => cs.setIfInBounds (o + j) c) Z) := by
        rw [← Array.foldl_toList, Array.toList_zipIdx]
        refine splice_VRa hz c1 (by rw [g1]; exact g2) f1 (fun k => ?_)
        refine (f2 k).trans ?_
        simp only [Array.length_toList, Array.getElem?_toList]
        by_cases hk : o ≤ k ∧ k < o + (a.eval x).cells.size
        · rw [if_pos hk, if_pos ⟨hk.1, hk.2, by omega⟩]
        · rw [if_neg hk, if_neg (by omega)]
      obtain ⟨L, hL1, hL2⟩ := fill_ok hs place ps' ps h3 _ l _ step hf
      refine ⟨L, ?_, hL2⟩
      simp only [List.map_cons, Go.Instr.fill, h1]
      rw [if_neg (by simp [hsz]; omega)]
      exact hL1
    · simp at hf
  | [], _ :: _, hc, _, _, _, _, _ => by simp [chkParts] at hc
  | (_, _) :: _, [], hc, _, _, _, _, _ => by simp [chkParts] at hc

theorem build_okR (hs : Sim φ B n st a w O loc D) {o : Oper} {c : Call} {v : V} {h' : Heap} {z : List V} {ps : List (Nat × Nat × Opd)} (hc : chkOp P φ ψ o.op (.build z ps) = true)
    (he : evalO c (.build z ps) st.e st.h = some (v, h')) : PureR P φ st a w O loc D (.build z ps) o v h' := by
  simp only [chkOp] at hc
  split at hc
  · rename_i t ps' ho
    simp only [Bool.and_eq_true] at hc
    obtain ⟨hz, hc⟩ := hc
    simp only [evalO, Option.map_eq_some_iff, Prod.mk.injEq] at he
    obtain ⟨l, hl, rfl, rfl⟩ := he
    obtain ⟨it, zv, hi, hzv, hZ⟩ := zeroOk_VRa (c := CxOf w O loc) hz
    have fin : ∀ L, P.built t (ps'.map fun (i, x) => (i, a.eval x)).toList = some L → VRa φ (CxOf w O loc) l L → PureR P φ st a w O loc D (.build z ps) o (.agg l) st.h := by
      intro L hL hV
      refine ⟨.agg L, ?_, VL_of_VR (.agg _ _ hV.1 hV.2), rfl, LpIn.plain (by simp) (by simp)⟩
      simp only [Go.execOp, ho, Go.Sem.run_bind, Go.run_build w t _ L hL, Result.andThen_ok, Go.Sem.run_pure]
    split at hc
    · rename_i fs hu
      split at hc
      · rename_i pl hpl
        obtain ⟨L, hL1, hL2⟩ := fill_ok hs _ _ _ hc z l zv.cells hZ hl
        refine fin L ?_ hL2
        simp only [Go.Program.built, hi, hu, hzv]
        have : fs.toList.mapM (fun f => (P.info? f.type).map fun i => (f.offset, i.size)) = some pl := hpl
        simp only [this]
        simpa using hL1
      · simp at hc
    · rename_i m e hu
      split at hc
      · rename_i k hk
        obtain ⟨L, hL1, hL2⟩ := fill_ok hs _ _ _ hc z l zv.cells hZ hl
        refine fin L ?_ hL2
        unfold sizeT at hk
        cases hie : P.info? e with
        | none => simp [hie] at hk
        | some ie =>
          simp [hie] at hk
          simp only [Go.Program.built, hi, hu, hzv, hie, hk]
          simpa using hL1
      · simp at hc
    · simp at hc
  · simp at hc

end
end Mir

