/- Stores, copies and appends. Conditions: none. -/
import Derived.Test.YtbbgobliklljjaaOpsN
set_option linter.unusedVariables false
set_option linter.unusedSimpArgs false
namespace Mir
open Go (Value Addr IntKind World Obj Act Program FuncId TypeId Operand Op Oper Code TypeDesc Sem Result)

section
variable {P : Program} {φ : Nat → Option FuncId} {ψ : Prim → FuncId → Bool} {B : Base} {n : Nat} {st : St} {a : Act} {w : World} {O : Nat → Prop} {loc : List (Nat × Nat)} {D : List Nat}

/-- A row's cells with some written over (the list form is the copy's, too). -/
theorem write_cells {c : Cx} {l : List V} {b δ : Nat} {cs : Array Value} {T : Nat} {fz : Nat × Nat} (hr : RowAt φ c l b δ cs T fz) {C : List V} {X : List Value} (hlen : C.length = X.length)
    (hC : ∀ (j : Nat) v x, C[j]? = some v → X[j]? = some x → VR φ c v x) {o : Nat} (ho : o + C.length ≤ l.length) {l' : List V}
    (hl' : l'.length = l.length ∧ ∀ k : Nat, l'[k]? = if o ≤ k ∧ k < o + C.length then C[k - o]? else l[k]?) :
    ∃ cs' : Array Value, cs' = (cs.toList.take (δ + o) ++ X ++ cs.toList.drop (δ + o + X.length)).toArray ∧ cs'.size = cs.size ∧ (∀ (j : Nat) v x, l'[j]? = some v → cs'[δ + j]? = some x → VR φ c v x) := by
  have hroom := hr.room
  obtain ⟨h1, h2⟩ := seg_get cs (δ + o) X (by omega)
  refine ⟨_, rfl, h1, fun j v x hv hx => ?_⟩
  rw [hl'.2] at hv
  rw [h2] at hx
  split at hv
  · rename_i hj
    rw [if_pos (by omega), show δ + j - (δ + o) = j - o by omega] at hx
    exact hC _ _ _ hv hx
  · rename_i hj
    obtain ⟨hjl, rfl⟩ := List.getElem?_eq_some_iff.1 hv
    rw [if_neg (by omega)] at hx
    obtain ⟨hjc, rfl⟩ := Array.getElem?_eq_some_iff.1 hx
    exact hr.cell j hjl hjc

theorem VRa_list {c : Cx} {C : List V} {X : Array Value} (h : VRa φ c C X) : C.length = X.toList.length ∧ ∀ (j : Nat) v x, C[j]? = some v → X.toList[j]? = some x → VR φ c v x := by
  rw [VRa_iff] at h
  exact ⟨by simpa using h.1, fun j v x hv hx => h.2 j v x hv (by simpa using hx)⟩

theorem one_list {X : Array Value} (h : ∀ (j : Nat) y, X[j]? = some y → y.oneCell' = true) : ∀ v ∈ X.toList, v.oneCell' = true := by
  intro v hv
  obtain ⟨j, hj, rfl⟩ := List.getElem_of_mem hv
  exact h j _ (by simp at hj; simp [hj])

/-- A slice's value and its cells, as they lie in memory. -/
def Src (φ : Nat → Option FuncId) (c : Cx) (w : World) (ml : List V) (len : Nat) (A : Value) : Prop :=
  (A = .slice none 0 0 ∧ ml = [] ∧ len = 0) ∨ ∃ ad cap, A = .slice (some ad) len cap ∧
      ((ml = [] ∧ len = 0) ∨ ∃ b o, ad = ⟨b, o, none⟩ ∧ ∃ y : Nat → Value, (∀ j, j < ml.length → w.cell? ⟨b, o + j, none⟩ = some (y j)) ∧ (∀ j (h : j < ml.length), VR φ c ml[j] (y j)))

variable (hs : Sim φ B n st a w O loc D) {o : Oper} {c : Call} {v : V} {h' : Heap}
include hs

omit hs in
theorem run_store_at {t : TypeId} {x' v' : Operand} (ho : o.op = .store t x' v') {m b q : Nat} (hsz : sizeT P t = some m) (hA : a.eval x' = .pointer (some ⟨b, q, none⟩)) (hm : (a.eval v').cells.size = m)
    {w' : World} (hst : (Go.storeCells ⟨b, q, none⟩ (a.eval v').cells.toList 0).run P w = .ok () w') : (Go.execOp a.eval o).run P w = .ok .skip w' := by
  have hne : ¬ (a.eval v').cells.size ≠ m := by simp [hm]
  simp only [Go.execOp, ho, hA, Go.Instr.storeAt, Go.Instr.sureAddr, Go.storeVar, Go.Sem.run_bind, Go.Sem.run_pure, Result.andThen_ok, run_size hsz, Go.Sem.run_ite, hne, if_false, hst]

theorem st_step {m : Nat} {x y : Opd} (hc : chkOp P φ ψ o.op (.st m x y) = true) (he : evalO c (.st m x y) st.e st.h = some (v, h')) (hd : o.dst = none) :
    StepOk P φ B n o a w ⟨st.e, h'⟩ (D ++ []) := by
  intro K Q hK
  simp only [chkOp] at hc
  split at hc
  · rename_i t x' y' ho
    simp only [Bool.and_eq_true, beq_iff_eq] at hc
    obtain ⟨⟨h1, h2⟩, hsz⟩ := hc
    have hx := ev_VL hs h1
    have hy := ev_VL hs h2
    simp only [evalO] at he
    split at he
    · rename_i k q hX
      split at he
      · rename_i l hl
        split at he
        · rename_i hcond
          obtain ⟨g1, g2, g3⟩ := hcond
          simp only [Option.some.injEq, Prod.mk.injEq] at he
          obtain ⟨_, rfl⟩ := he
          rw [hX] at hx
          have hpl : plainV (ev st.e y) = true := by
            cases hv : ev st.e y <;> simp [hv, cells, cellV, plainV] at g2 ⊢
          obtain ⟨c1, c2⟩ := cells_ok (VL_plainV hy hpl) g2
          obtain ⟨b, δ, cs, T, fz, hloc, hown, hrow⟩ := hs.heap.rows k l hl
          simp only [CxOf] at hloc hown
          have hA : a.eval x' = .pointer (some ⟨b, δ + q, none⟩) := by
            generalize a.eval x' = A at hx
            cases hx with
            | hp _ _ b' δ' e1 =>
              simp only [CxOf] at e1
              rw [hloc] at e1; simp at e1
              rw [e1.1, e1.2]
          obtain ⟨l1, l2⟩ := VRa_list c1
          obtain ⟨cs', hcs', hs1, hs2⟩ := write_cells hrow l1 l2 (o := q) (by omega) ⟨splice_len _ _ _ (by omega), splice_get l q _ (by omega)⟩
          have hst := storeCells_ok (P := P) b (δ + q) T fz (a.eval y').cells.toList 0 cs w hrow.block (by have := hrow.room; omega) hrow.free (one_list c2)
          simp only [Nat.add_zero] at hst
          rw [← hcs'] at hst
          refine wp_skip (run_store_at ho hsz hA (by rw [← c1.1]; exact g1) hst) ?_
          rw [hd]
          exact hK _ _ _ _ ((hs.store_row hl hloc hrow hown hs1 (splice_len _ _ _ (by omega)) hs2).more _ (fun s h => List.mem_append_left _ h))
        · simp at he
      · simp at he
    · simp at he
  · simp at hc

theorem stl_step {s m : Nat} {x y : Opd} (hc : chkOp P φ ψ o.op (.stl s m x y) = true) {k : Nat} (hX : ea st.e x = .lp s k) {l : List V} (hl : get st.e s = .loc l)
    (hcond : (cells (ev st.e y)).length = m ∧ (cells (ev st.e y)).all cellV ∧ k + m ≤ l.length) (hd : o.dst = none) :
    StepOk P φ B n o a w ⟨(s, .loc (splice l k (cells (ev st.e y)))) :: st.e, st.h⟩ D := by
  intro K Q hK
  simp only [chkOp] at hc
  split at hc
  · rename_i t x' y' ho
    simp only [Bool.and_eq_true, beq_iff_eq] at hc
    obtain ⟨⟨h1, h2⟩, hsz⟩ := hc
    have hy := ev_VL hs h2
    obtain ⟨g1, g2, g3⟩ := hcond
    have hpl : plainV (ev st.e y) = true := by
      cases hv : ev st.e y <;> simp [hv, cells, cellV, plainV] at g2 ⊢
    obtain ⟨c1, c2⟩ := cells_ok (VL_plainV hy hpl) g2
    have he := hs.env s
    simp only [hl, ER] at he
    obtain ⟨b, cs, T, fz, hb, hown, hlen, hrow⟩ := he
    have hA : a.eval x' = .pointer (some ⟨b, 0 + k, none⟩) := by rw [Nat.zero_add]; exact lp_ok hs h1 hX hb
    obtain ⟨l1, l2⟩ := VRa_list c1
    obtain ⟨cs', hcs', hs1, hs2⟩ := write_cells hrow l1 l2 (o := k) (by omega) ⟨splice_len _ _ _ (by omega), splice_get l k _ (by omega)⟩
    have hst := storeCells_ok (P := P) b (0 + k) T fz (a.eval y').cells.toList 0 cs w hrow.block (by have := hrow.room; omega) hrow.free (one_list c2)
    simp only [Nat.add_zero] at hst
    rw [← hcs'] at hst
    refine wp_skip (run_store_at ho hsz hA (by rw [← c1.1]; exact g1) hst) ?_
    rw [hd]
    refine hK _ _ _ _ (hs.store_loc hl hb hrow.block hrow.free hs1 ?_)
    rw [VRa_iff]
    refine ⟨by rw [splice_len _ _ _ (by omega), hs1]; exact hlen, fun j v x hv hx => hs2 j v x hv (by rw [Nat.zero_add]; exact hx)⟩
  · simp at hc

omit hs in
/-- The cells that a copy takes, as they lie in memory. -/
theorem firstCells_ok {sz : Nat} {A : Value} {ml : List V} {len : Nat} (h : Src φ (CxOf w O loc) w ml len A)
    (hl : ml.length = len * sz) {q : Nat} (hq : q ≤ len) :
    ∃ X : Array Value, (Go.Builtin.firstCells sz q A).run P w = .ok X w ∧ VRa φ (CxOf w O loc) (ml.take (q * sz)) X := by
  rcases h with ⟨rfl, rfl, rfl⟩ | ⟨ad, cap, rfl, ⟨rfl, rfl⟩ | ⟨b, o, rfl, y, hy1, hy2⟩⟩
  · exact ⟨#[], by simp [Go.Builtin.firstCells], by simp [VRa]⟩
  · have : q = 0 := by omega
    subst this
    exact ⟨#[], by simp [Go.Builtin.firstCells, Go.loadCells, Go.loadCellsFrom], by simp [VRa]⟩
  · have hle : q * sz ≤ len * sz := Nat.mul_le_mul_right sz hq
    refine ⟨((List.range (q * sz)).map y).toArray, ?_, ?_⟩
    · simp only [Go.Builtin.firstCells]
      exact Go.run_loadCells w ⟨b, o, none⟩ (q * sz) y (fun j hj => by rw [addr_add]; exact hy1 j (by omega))
    · refine ⟨by simp; omega, fun j h1 h2 => ?_⟩
      simp at h1 h2
      simp only [List.getElem_take, List.getElem_toArray, List.getElem_map, List.getElem_range]
      exact hy2 _ _

omit hs in
theorem all_cellV_one {c : Cx} {ml : List V} {X : Array Value} (h : VRa φ c ml X) (hc : ml.all cellV = true) : ∀ v ∈ X.toList, v.oneCell' = true := by
  intro v hv
  obtain ⟨j, hj, rfl⟩ := List.getElem_of_mem hv
  simp at hj
  have hjl : j < ml.length := by rw [h.1]; exact hj
  rw [List.all_eq_true] at hc
  have h1 := hc _ (List.getElem_mem hjl)
  have h2 := h.2 j hjl hj
  rw [Array.getElem_toList]
  generalize X[j] = x at h2
  generalize ml[j] = u at h1 h2
  cases h2 <;> first | rfl | (simp [cellV] at h1; done)

omit hs in
theorem splice_copy (l m : List V) (o : Nat) (h : o + m.length ≤ l.length) : (l.take o ++ m ++ l.drop (o + m.length)).length = l.length ∧
    ∀ k : Nat, (l.take o ++ m ++ l.drop (o + m.length))[k]? = if o ≤ k ∧ k < o + m.length then m[k - o]? else l[k]? := by
  refine ⟨by simp; omega, fun k => ?_⟩
  by_cases h1 : k < o
  · rw [if_neg (by omega), List.append_assoc, List.getElem?_append_left (by simp; omega), List.getElem?_take_of_lt h1]
  · by_cases h2 : k < o + m.length
    · rw [if_pos ⟨by omega, h2⟩, List.append_assoc, List.getElem?_append_right (by simp; omega), List.getElem?_append_left (by simp; omega)]
      congr 1; simp; omega
    · rw [if_neg (by omega), List.append_assoc, List.getElem?_append_right (by simp; omega), List.getElem?_append_right (by simp; omega), List.getElem?_drop]
      congr 1; simp; omega

end
end Mir
