/- More operations that leave memory alone. Conditions: none. -/
import Derived.Test.YtbbgobliklljjaaOpsV
set_option linter.unusedVariables false
set_option linter.unusedSimpArgs false
namespace Mir
open Go (Value Addr IntKind World Obj Act Program FuncId TypeId Operand Op Oper Code TypeDesc Sem Result)

section
variable {P : Program} {φ : Nat → Option FuncId} {ψ : Prim → FuncId → Bool} {B : Base} {n : Nat} {st : St} {a : Act} {w : World} {O : Nat → Prop} {loc : List (Nat × Nat)} {D : List Nat}

theorem addr_addr (ad : Addr) (h : ad.spot = none) (k : Nat) : ad.add k = ⟨ad.block, ad.off + k, none⟩ := by
  obtain ⟨b, o, s⟩ := ad
  simp only at h
  subst h
  exact addr_add b o k

/-- What a pointer points to. -/
theorem deref_ok (hs : Sim φ B n st a w O loc D) {X : V} {A : Value} (hx : VL φ (CxOf w O loc) a.tmps X A) {h : Heap} (hh : h = st.h ∨ h = []) {l : List V} {o : Nat}
    (hl : X = .vr l o ∨ ∃ k, X = .hp k o ∧ row h k = some l) :
    ∃ b δ, A = .pointer (some ⟨b, δ + o, none⟩) ∧ ∃ y : Nat → Value, (∀ j, j < l.length → w.cell? ⟨b, δ + j, none⟩ = some (y j)) ∧ (∀ j (h : j < l.length), VR φ (CxOf w O loc) l[j] (y j)) := by
  rcases hl with rfl | ⟨k, rfl, hr⟩
  · cases hx with
    | vr _ _ b δ y h1 h2 h3 => exact ⟨b, δ, rfl, y, fun j hj => by rw [← cellH_cell]; exact h2 j hj, h3⟩
  · have hr' : row st.h k = some l := by
      rcases hh with rfl | rfl
      · exact hr
      · simp [row] at hr
    obtain ⟨b, δ, cs, T, fz, hloc, hown, hrow⟩ := hs.heap.rows k l hr'
    obtain ⟨y, hy1, hy2⟩ := hrow.cells (w := w) rfl
    cases hx with
    | hp _ _ b' δ' e1 =>
      have : (b', δ') = (b, δ) := by
        have := e1.symm.trans hloc
        simpa using this
      simp only [Prod.mk.injEq] at this
      obtain ⟨rfl, rfl⟩ := this
      exact ⟨b', δ', rfl, y, hy1, hy2⟩

/-- A value that no nil check stops at. -/
def nckOk : Value → Prop
  | .pointer (some _) => True
  | .func (.func _) _ _ => True
  | _ => False

theorem run_nck {o : Oper} {x' : Operand} (ho : o.op = .nilCheck x') {A : Value} (hA : a.eval x' = A) (hn : nckOk A) : (Go.execOp a.eval o).run P w = .ok (.value A) w := by
  simp only [Go.execOp, ho, hA]
  cases A <;> simp only [nckOk] at hn
  · rename_i p; cases p <;> simp only [nckOk] at hn; rfl
  · rename_i f p q; cases f <;> simp only [nckOk] at hn; rfl

variable (hs : Sim φ B n st a w O loc D) {o : Oper} {c : Call} {v : V} {h' : Heap}
include hs

theorem off_okR {k : Nat} {x : Opd} (hc : chkOp P φ ψ o.op (.off k x) = true) (he : evalO c (.off k x) st.e st.h = some (v, h')) : PureR P φ st a w O loc D (.off k x) o v h' := by
  simp only [chkOp] at hc
  split at hc
  · rename_i t x' f ho
    simp only [Bool.and_eq_true] at hc
    obtain ⟨h1, hc⟩ := hc
    split at hc
    · rename_i fs hfs
      split at hc
      · rename_i fd hfd
        simp only [Bool.and_eq_true, beq_iff_eq] at hc
        obtain ⟨hoff, hsz⟩ := hc
        split at hsz
        · rename_i m hm
          simp only [decide_eq_true_eq] at hsz
          simp only [evalO, Option.map_eq_some_iff, Prod.mk.injEq] at he
          obtain ⟨u, hu, rfl, rfl⟩ := he
          obtain ⟨b, q, hA, hV, hL⟩ := offV_ok (ea_VL hs h1) hu
          refine ⟨_, ?_, hV, rfl, hL _ (by simpa [MOp.addrs] using LpIn_ea hs h1)⟩
          have hz : ¬ m = 0 := by omega
          simp only [Go.execOp, ho, hA, Go.Instr.fieldAt, Go.Instr.sureAddr, Go.fieldPlace, Go.Sem.run_bind, run_und (structT_und hfs), Result.andThen_ok, hfd, Go.Sem.run_pure, run_size hm, hz, if_false, hoff, addr_add]
        · simp at hsz
      · simp at hc
    · simp at hc
  · simp at hc

theorem idx_okR {k sz : Nat} {x i : Opd} (hc : chkOp P φ ψ o.op (.idx k sz x i) = true) (he : evalO c (.idx k sz x i) st.e st.h = some (v, h')) : PureR P φ st a w O loc D (.idx k sz x i) o v h' := by
  simp only [chkOp] at hc
  split at hc
  · rename_i t x' i' ho
    simp only [Bool.and_eq_true] at hc
    obtain ⟨⟨h1, h2⟩, hc⟩ := hc
    split at hc
    · rename_i k' e hk
      simp only [Bool.and_eq_true, beq_iff_eq] at hc
      obtain ⟨rfl, hsz⟩ := hc
      simp only [evalO] at he
      split at he
      · rename_i j hj
        simp only [Option.map_eq_some_iff, Prod.mk.injEq] at he
        obtain ⟨u, hu, rfl, rfl⟩ := he
        obtain ⟨b, q, hA, hV, hL⟩ := offV_ok (ea_VL hs h1) hu
        obtain ⟨qk, z, hI, hz0, hz1, hz⟩ := ixOf_ok (ev_VL hs h2) hj
        refine ⟨_, ?_, hV, rfl, hL _ (by simpa [MOp.addrs] using LpIn_ea hs h1)⟩
        simp only [Go.execOp, ho, hA, hI, Go.Instr.indexAt, Go.Instr.sureAddr, Go.Sem.run_bind, Go.asIntOf, Go.Sem.run_pure, run_und (arrayT_und hk), Result.andThen_ok, run_size hsz, Go.Sem.run_ite]
        rw [if_pos ⟨hz0, hz1⟩]
        simp [hz, addr_add]
      · simp at he
    · simp at hc
  · simp at hc

theorem idxs_okR {sz : Nat} {x i : Opd} (hc : chkOp P φ ψ o.op (.idxs sz x i) = true) (he : evalO c (.idxs sz x i) st.e st.h = some (v, h')) : PureR P φ st a w O loc D (.idxs sz x i) o v h' := by
  simp only [chkOp] at hc
  split at hc
  · rename_i t x' i' ho
    simp only [Bool.and_eq_true] at hc
    obtain ⟨⟨h1, h2⟩, hc⟩ := hc
    split at hc
    · rename_i e hk
      simp only [beq_iff_eq] at hc
      simp only [evalO, Option.map_eq_some_iff, Prod.mk.injEq] at he
      obtain ⟨u, hu, rfl, rfl⟩ := he
      have hx := ea_VL hs h1
      have hL := LpIn_ea hs h1
      have hI := ev_VL hs h2
      have run : ∀ (ad : Addr) (len cap j : Nat) (A : Value), a.eval x' = A → A = .slice (some ad) len cap → ixOf len (ev st.e i) = some j →
          (Go.execOp a.eval o).run P w = .ok (.value (.pointer (some (ad.add (j * sz))))) w := by
        rintro ad len cap j A hA rfl hj
        obtain ⟨qk, z, hI, hz0, hz1, hz⟩ := ixOf_ok (ev_VL hs h2) hj
        simp only [Go.execOp, ho, hA, hI, Go.Instr.indexAt, Go.Sem.run_bind, Go.asIntOf, Go.Sem.run_pure, run_und (sliceT_und hk), Result.andThen_ok, run_size hc, Go.Sem.run_ite]
        rw [if_pos ⟨hz0, hz1⟩]
        simp [hz]
      generalize ea st.e x = X at *
      generalize hA : a.eval x' = A at *
      cases X <;> simp only [idxsV, reduceCtorEq] at hu
      · rename_i m l
        simp only [Option.map_eq_some_iff] at hu
        obtain ⟨j, hj, rfl⟩ := hu
        cases hx with
        | vsn => simp [ixOf] at hj; cases hi : ev st.e i <;> simp [ixOf, hi] at hj <;> omega
        | vs0 ad cap => cases hi : ev st.e i <;> simp [ixOf, hi] at hj <;> omega
        | vs _ _ b o' cap y g0 g1 g2 g3 =>
          refine ⟨_, run _ _ _ j _ rfl rfl hj, ?_, rfl, LpIn.plain (by simp) (by simp)⟩
          rw [addr_add]
          exact VR.vr l (j * sz) b o' y g1 g2 g3
      · split at hu
        · rename_i e1
          simp only [Option.map_eq_some_iff] at hu
          obtain ⟨j, hj, rfl⟩ := hu
          obtain ⟨_, _, _, _, _, _⟩ := ixOf_ok hI hj
          cases hx with
          | hs _ _ _ _ _ b δ cap' ad g1 g2 g3 g4 =>
            refine ⟨_, run _ _ _ j _ rfl rfl hj, ?_, rfl, LpIn.plain (by simp) (by simp)⟩
            rw [(g4 (by omega)).1, addr_add, Nat.add_assoc]
            exact VR.hp _ _ b δ g1
        · simp at hu
      · split at hu
        · rename_i e1
          simp only [Option.map_eq_some_iff] at hu
          obtain ⟨j, hj, rfl⟩ := hu
          obtain ⟨b, ad, cap', hb, rfl, g2, g3, g4⟩ := hx
          obtain ⟨_, _, _, _, _, _⟩ := ixOf_ok hI hj
          refine ⟨_, run _ _ _ j _ rfl rfl hj, ?_, rfl, ?_⟩
          · rw [g4 (by omega), addr_add]
            exact ⟨b, hb, rfl⟩
          · refine ⟨fun s o e => ?_, fun z s o m k e => by simp at e⟩
            simp at e
            rw [← e.1]
            exact hL.2 _ _ _ _ _ rfl
        · simp at hu
    · simp at hc
  · simp at hc

theorem ld_okR {imm : Bool} {q : Option Nat} {x : Opd} (hc : chkOp P φ ψ o.op (.ld imm q x) = true) (he : evalO c (.ld imm q x) st.e st.h = some (v, h')) : PureR P φ st a w O loc D (.ld imm q x) o v h' := by
  simp only [chkOp] at hc
  split at hc
  · rename_i t x' ho
    simp only [Bool.and_eq_true] at hc
    obtain ⟨h1, ht⟩ := hc
    have hx := ev_VL hs h1
    have fin : ∀ (l : List V) (k : Nat), (ev st.e x = .vr l k ∨ ∃ j, ev st.e x = .hp j k ∧ row (if imm then [] else st.h) j = some l) → (part l k q).map (fun v => (v, st.h)) = some (v, h') →
        PureR P φ st a w O loc D (.ld imm q x) o v h' := by
      intro l k hl hp
      simp only [Option.map_eq_some_iff, Prod.mk.injEq] at hp
      obtain ⟨u, hu, rfl, rfl⟩ := hp
      obtain ⟨b, δ, hA, y, hy1, hy2⟩ := deref_ok hs hx (by cases imm <;> simp) hl
      obtain ⟨V, hV1, hV2⟩ := run_loadVar (φ := φ) (c := CxOf w O loc) ht hu w hy1 hy2
      refine ⟨V, ?_, VL_of_VR hV2, rfl, VRp ⟨_, _, hV2⟩⟩
      simp only [Go.execOp, ho, hA, Go.Instr.loadAt, Go.Instr.sureAddr, Go.Sem.run_bind, Go.Sem.run_pure, Result.andThen_ok, hV1]
    simp only [evalO] at he
    split at he
    · rename_i l k hX
      exact fin l k (.inl hX) he
    · rename_i j k hX
      split at he
      · rename_i l hr
        exact fin l k (.inr ⟨j, hX, hr⟩) he
      · simp at he
    · simp at he
  · simp at hc

/-- A local variable's cells. -/
theorem loc_ok {s : Nat} {l : List V} (hg : get st.e s = .loc l) : ∃ b, a.tmps[s]? = some (ptrV b 0) ∧ O b ∧ ∃ cs T fz, w.heap[b]? = some (.cells cs T fz) ∧ l.length = cs.size ∧
    (∀ j, j < cs.size → ¬ (fz.1 ≤ j ∧ j < fz.2)) ∧ ∃ y : Nat → Value, (∀ j, j < l.length → w.cell? ⟨b, j, none⟩ = some (y j)) ∧ (∀ j (h : j < l.length), VR φ (CxOf w O loc) l[j] (y j)) := by
  have he := hs.env s
  simp only [hg, ER] at he
  obtain ⟨b, cs, T, fz, hx, ho, hl, hr⟩ := he
  obtain ⟨y, hy1, hy2⟩ := hr.cells (w := w) rfl
  exact ⟨b, hx, ho, cs, T, fz, hr.block, hl, hr.free, y, fun j hj => by have := hy1 j hj; rwa [Nat.zero_add] at this, hy2⟩

/-- An address of a local variable. -/
theorem lp_ok {x : Operand} {y : Opd} (h1 : chkX φ x y = true) {s o : Nat} (hg : ea st.e y = .lp s o) {b : Nat} (hb : a.tmps[s]? = some (ptrV b 0)) : a.eval x = ptrV b o := by
  have hx := ea_VL hs h1
  rw [hg] at hx
  obtain ⟨b', hb', he⟩ := hx
  rw [hb] at hb'
  simp at hb'
  rw [he, hb']

theorem ldl_okR {s : Nat} {q : Option Nat} {x : Opd} (hc : chkOp P φ ψ o.op (.ldl s q x) = true) (he : evalO c (.ldl s q x) st.e st.h = some (v, h')) : PureR P φ st a w O loc D (.ldl s q x) o v h' := by
  simp only [chkOp] at hc
  split at hc
  · rename_i t x' ho
    simp only [Bool.and_eq_true] at hc
    obtain ⟨h1, ht⟩ := hc
    simp only [evalO] at he
    split at he
    · rename_i s' k hX
      split at he
      · rename_i e
        subst e
        split at he
        · rename_i l hl
          simp only [Option.map_eq_some_iff, Prod.mk.injEq] at he
          obtain ⟨u, hu, rfl, rfl⟩ := he
          obtain ⟨b, hb, ho', cs, T, fz, hw, hlen, hfz, y, hy1, hy2⟩ := loc_ok hs hl
          have hA := lp_ok hs h1 hX hb
          obtain ⟨V, hV1, hV2⟩ := run_loadVar (φ := φ) (c := CxOf w O loc) (δ := 0) (b := b) ht hu w (fun j hj => by rw [Nat.zero_add]; exact hy1 j hj) hy2
          rw [Nat.zero_add] at hV1
          refine ⟨V, ?_, VL_of_VR hV2, rfl, VRp ⟨_, _, hV2⟩⟩
          simp only [Go.execOp, ho, hA, Go.Instr.loadAt, Go.Instr.sureAddr, Go.Sem.run_bind, Go.Sem.run_pure, Result.andThen_ok, hV1]
        · simp at he
      · simp at he
    · simp at he
  · simp at hc

theorem nck_okR {x : Opd} (hc : chkOp P φ ψ o.op (.nck x) = true) (he : evalO c (.nck x) st.e st.h = some (v, h')) : PureR P φ st a w O loc D (.nck x) o v h' := by
  simp only [chkOp] at hc
  split at hc
  · rename_i x' ho
    have hx := ea_VL hs hc
    have hL := LpIn_ea hs hc
    simp only [evalO] at he
    split at he
    · rename_i l k hX
      simp only [Option.some.injEq, Prod.mk.injEq] at he
      obtain ⟨rfl, rfl⟩ := he
      rw [hX] at hx
      refine ⟨_, run_nck ho rfl ?_, hx, rfl, LpIn.plain (by simp) (by simp)⟩
      generalize a.eval x' = A at hx; cases hx; trivial
    · rename_i l k hX
      simp only [Option.some.injEq, Prod.mk.injEq] at he
      obtain ⟨rfl, rfl⟩ := he
      rw [hX] at hx
      refine ⟨_, run_nck ho rfl ?_, hx, rfl, LpIn.plain (by simp) (by simp)⟩
      generalize a.eval x' = A at hx; cases hx; trivial
    · rename_i s k hX
      simp only [Option.some.injEq, Prod.mk.injEq] at he
      obtain ⟨rfl, rfl⟩ := he
      rw [hX] at hx hL
      refine ⟨_, run_nck ho rfl ?_, hx, rfl, hL⟩
      obtain ⟨b, _, e⟩ := hx
      rw [e]; trivial
    · rename_i f l m hX
      simp only [Option.some.injEq, Prod.mk.injEq] at he
      obtain ⟨rfl, rfl⟩ := he
      rw [hX] at hx
      refine ⟨_, run_nck ho rfl ?_, hx, rfl, LpIn.plain (by simp) (by simp)⟩
      generalize a.eval x' = A at hx; cases hx; trivial
    · simp at he
  · simp at hc

end
end Mir
