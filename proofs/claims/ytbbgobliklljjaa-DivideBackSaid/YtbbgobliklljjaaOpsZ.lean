/- Building aggregates; cells that are written over. Conditions: none. -/
import Derived.Test.YtbbgobliklljjaaOpsY
set_option linter.unusedVariables false
set_option linter.unusedSimpArgs false
namespace Mir
open Go (Value Addr IntKind World Obj Act Program FuncId TypeId Operand Op Oper Code TypeDesc Sem Result)

theorem splice_len (l : List V) (o : Nat) (cs : List V) (h : o + cs.length ≤ l.length) : (splice l o cs).length = l.length := by
  unfold splice
  split
  · simp
  · simp; omega

theorem splice_get (l : List V) (o : Nat) (cs : List V) (h : o + cs.length ≤ l.length) (k : Nat) :
    (splice l o cs)[k]? = if o ≤ k ∧ k < o + cs.length then cs[k - o]? else l[k]? := by
  unfold splice
  split
  · rename_i v
    simp only [List.length_cons, List.length_nil, Nat.zero_add] at h ⊢
    by_cases hk : o = k
    · subst hk
      rw [List.getElem?_set_self (by omega)]
      simp
    · rw [List.getElem?_set_ne hk, if_neg (by omega)]
  · by_cases h1 : k < o
    · rw [if_neg (by omega), List.append_assoc, List.getElem?_append_left (by simp; omega), List.getElem?_take_of_lt h1]
    · by_cases h2 : k < o + cs.length
      · rw [if_pos ⟨by omega, h2⟩, List.append_assoc, List.getElem?_append_right (by simp; omega), List.getElem?_append_left (by simp; omega)]
        congr 1; simp; omega
      · rw [if_neg (by omega), List.append_assoc, List.getElem?_append_right (by simp; omega), List.getElem?_append_right (by simp; omega), List.getElem?_drop]
        congr 1; simp; omega

section
variable {P : Program} {φ : Nat → Option FuncId} {ψ : Prim → FuncId → Bool} {B : Base} {n : Nat} {st : St} {a : Act} {w : World} {O : Nat → Prop} {loc : List (Nat × Nat)} {D : List Nat}

/-- VRa by the cells' places. -/
theorem VRa_iff {c : Cx} {l : List V} {cs : Array Value} : VRa φ c l cs ↔ l.length = cs.size ∧ ∀ (j : Nat) v x, l[j]? = some v → cs[j]? = some x → VR φ c v x := by
  constructor
  · rintro ⟨h1, h2⟩
    refine ⟨h1, fun j v x hv hx => ?_⟩
    obtain ⟨e1, rfl⟩ := List.getElem?_eq_some_iff.1 hv
    obtain ⟨e2, rfl⟩ := Array.getElem?_eq_some_iff.1 hx
    exact h2 j e1 e2
  · rintro ⟨h1, h2⟩
    exact ⟨h1, fun j e1 e2 => h2 j _ _ (List.getElem?_eq_getElem e1) (Array.getElem?_eq_getElem e2)⟩

theorem cells_ok {c : Cx} {v : V} {x : Value} (h : VR φ c v x) (hc : (cells v).all cellV = true) : VRa φ c (cells v) x.cells ∧ (∀ (j : Nat) y, x.cells[j]? = some y → y.oneCell' = true) := by
  have one : ∀ (h : VR φ c v x), cells v = [v] → x.cells = #[x] → x.oneCell' = true → VRa φ c (cells v) x.cells ∧ (∀ (j : Nat) y, x.cells[j]? = some y → y.oneCell' = true) := by
    intro h e1 e2 e3
    rw [e1, e2]
    refine ⟨⟨rfl, fun j h1 h2 => ?_⟩, fun j y hy => ?_⟩
    · have : j = 0 := by simp at h1; omega
      subst this; exact h
    · have : j = 0 := by
        obtain ⟨e, _⟩ := Array.getElem?_eq_some_iff.1 hy
        simp at e; omega
      subst this; simp at hy; rw [← hy]; exact e3
  have cellOne : ∀ (v : V) (x : Value), VR φ c v x → cellV v = true → x.oneCell' = true := by
    intro v x h hv
    cases h <;> first | rfl | (simp [cellV] at hv; done)
  cases h with
  | agg l cs h1 h2 =>
    refine ⟨⟨h1, h2⟩, fun j y hy => ?_⟩
    simp only [cells, List.all_eq_true] at hc
    obtain ⟨e1, rfl⟩ := Array.getElem?_eq_some_iff.1 hy
    have e2 : j < l.length := by rw [h1]; exact e1
    exact cellOne _ _ (h2 j e2 e1) (hc _ (List.getElem_mem e2))
  | tup l cs h1 h2 => simp [cells, cellV] at hc
  | undef x => simp [cells, cellV] at hc
  | i n h1 h2 => exact one (.i n h1 h2) rfl rfl rfl
  | u w n k h1 h2 => exact one (.u w n k h1 h2) rfl rfl rfl
  | b x => exact one (.b x) rfl rfl rfl
  | s l ba h => exact one (.s l ba h) rfl rfl rfl
  | nilp => exact one .nilp rfl rfl rfl
  | vr l off b δ y h1 h2 h3 => exact one (.vr l off b δ y h1 h2 h3) rfl rfl rfl
  | hp k off b δ h => exact one (.hp k off b δ h) rfl rfl rfl
  | nils => exact one .nils rfl rfl rfl
  | vsn => exact one .vsn rfl rfl rfl
  | vs0 a cap => exact one (.vs0 a cap) rfl rfl rfl
  | vs n l b o cap y h0 h1 h2 h3 => exact one (.vs n l b o cap y h0 h1 h2 h3) rfl rfl rfl
  | hs sz k off len cap b δ cap' ad h1 h2 h3 h4 => exact one (.hs sz k off len cap b δ cap' ad h1 h2 h3 h4) rfl rfl rfl
  | fn f F l m xs ys h1 h2 h3 h4 h5 => exact one (.fn f F l m xs ys h1 h2 h3 h4 h5) rfl rfl rfl

/-- Cells written over, as the machine does it. -/
theorem fold_get (C : List Value) (Z : Array Value) (o : Nat) : ∀ (i : Nat), (((C.zipIdx i).foldl (fun cs p => cs.setIfInBounds (o + p.2) p.1) Z).size = Z.size) ∧
    ∀ k : Nat, ((C.zipIdx i).foldl (fun cs p => cs.setIfInBounds (o + p.2) p.1) Z)[k]? = if o + i ≤ k ∧ k < o + i + C.length ∧ k < Z.size then C[k - (o + i)]? else Z[k]? := by
  induction C generalizing Z with
  | nil => intro i; refine ⟨by simp, fun k => ?_⟩; simp; intro h1 h2; omega
  | cons x C ih =>
    intro i
    simp only [List.zipIdx_cons, List.foldl_cons]
    obtain ⟨h1, h2⟩ := ih (Z.setIfInBounds (o + i) x) (i + 1)
    refine ⟨by rw [h1]; simp, fun k => ?_⟩
    rw [h2]
    simp only [Array.size_setIfInBounds, List.length_cons]
    by_cases hk : o + i = k
    · subst hk
      rw [if_neg (by omega)]
      by_cases hz : o + i < Z.size
      · rw [if_pos (by omega)]
        simp [hz]
      · rw [if_neg (by omega)]
        simp [Array.getElem?_setIfInBounds, hz]
    · rw [Array.getElem?_setIfInBounds_ne hk]
      by_cases hc : o + (i + 1) ≤ k ∧ k < o + (i + 1) + C.length ∧ k < Z.size
      · rw [if_pos hc, if_pos (by omega), show k - (o + i) = (k - (o + (i + 1))) + 1 by omega, List.getElem?_cons_succ]
      · rw [if_neg hc, if_neg (by omega)]

theorem splice_VRa {c : Cx} {z : List V} {Z Z' : Array Value} (hz : VRa φ c z Z) {o : Nat} {l : List V} {C : Array Value} (hl : VRa φ c l C) (ho : o + l.length ≤ z.length)
    (hs : Z'.size = Z.size) (hg : ∀ k : Nat, Z'[k]? = if o ≤ k ∧ k < o + C.size then C[k - o]? else Z[k]?) : VRa φ c (splice z o l) Z' := by
  rw [VRa_iff] at hz hl ⊢
  refine ⟨by rw [splice_len _ _ _ ho, hs]; exact hz.1, fun j v x hv hx => ?_⟩
  rw [splice_get _ _ _ ho] at hv
  rw [hg] at hx
  rw [← hl.1] at hx
  split at hv
  · rename_i hj
    rw [if_pos hj] at hx
    exact hl.2 _ _ _ hv hx
  · rename_i hj
    rw [if_neg hj] at hx
    exact hz.2 _ _ _ hv hx

theorem zeroOk_VRa {c : Cx} {t : TypeId} {z : List V} (h : zeroOk P φ t z = true) : ∃ it zv, P.info? t = some it ∧ it.zero = some zv ∧ VRa φ c z zv.cells := by
  unfold zeroOk at h
  cases hi : P.info? t with
  | none => simp [hi] at h
  | some it =>
    cases hz : it.zero with
    | none => simp [hi, hz] at h
    | some zv =>
      simp only [hi, hz, Option.bind_some] at h
      obtain ⟨h1, h2⟩ := VRs_of_chkVs c _ _ h
      exact ⟨it, zv, rfl, hz, by simpa using h1, fun j e1 e2 => by have := h2 j e1 (by simpa using e2); rwa [Array.getElem_toList] at this⟩

theorem fill_ok (hs : Sim φ B n st a w O loc D) (place : Nat → Option (Nat × Nat)) : ∀ (ps' : List (Nat × Operand)) (ps : List (Nat × Nat × Opd)), chkParts φ place ps' ps = true →
    ∀ (z l : List V) (Z : Array Value), VRa φ (CxOf w O loc) z Z → fill z (parts st.e ps) = some l → ∃ L, Go.Instr.fill place Z (ps'.map fun p => (p.1, a.eval p.2)) = some L ∧ VRa φ (CxOf w O loc) l L
  | [], [], _, z, l, Z, hz, hf => by
    simp only [parts, List.map_nil, fill, Option.some.injEq] at hf
    subst hf
    exact ⟨Z, rfl, hz⟩
  | (i, x) :: ps', (o, m, y) :: ps, hc, z, l, Z, hz, hf => by
    simp only [chkParts, Bool.and_eq_true, beq_iff_eq] at hc
    obtain ⟨⟨h1, h2⟩, h3⟩ := hc
    simp only [parts, List.map_cons, fill] at hf
    split at hf
    · rename_i hcond
      obtain ⟨g1, g2, g3⟩ := hcond
      have hx := ev_VL hs h2
      have hpl : plainV (ev st.e y) = true := by
        cases hv : ev st.e y <;> simp [hv, cells, cellV, plainV] at g3 ⊢
      have hv := VL_plainV hx hpl
      obtain ⟨c1, c2⟩ := cells_ok hv g3
      have hsz : (a.eval x).cells.size = m := by rw [← c1.1]; exact g1
      have hZ : Z.size = z.length := hz.1.symm
      obtain ⟨f1, f2⟩ := fold_get (a.eval x).cells.toList Z o 0
      simp only [Nat.add_zero] at f1 f2
      have step : VRa φ (CxOf w O loc) (splice z o (cells (ev st.e y))) ((a.eval x).cells.zipIdx.foldl (fun cs (c, j) => cs.setIfInBounds (o + j) c) Z) := by
        rw [← Array.foldl_toList, Array.toList_zipIdx]
        refine splice_VRa hz c1 (by rw [g1]; exact g2) f1 (fun k => ?_)
        refine (f2 k).trans ?_
        simp only [Array.length_toList, Array.getElem?_toList]
        by_cases hk : o ≤ k ∧ k < o + (a.eval x).cells.size
        · rw [if_pos hk, if_pos ⟨hk.1, hk.2, by omega⟩]
        · rw [if_neg hk, if_neg (by omega)]
      obtain ⟨L, hL1, hL2⟩ := fill_ok hs place ps' ps h3 _ l _ step hf
      refine ⟨L, ?_, hL2⟩
      simp only [List.map_cons, Go.Instr.fill, h1]
      rw [if_neg (by simp [hsz]; omega)]
      exact hL1
    · simp at hf
  | [], _ :: _, hc, _, _, _, _, _ => by simp [chkParts] at hc
  | (_, _) :: _, [], hc, _, _, _, _, _ => by simp [chkParts] at hc

theorem build_okR (hs : Sim φ B n st a w O loc D) {o : Oper} {c : Call} {v : V} {h' : Heap} {z : List V} {ps : List (Nat × Nat × Opd)} (hc : chkOp P φ ψ o.op (.build z ps) = true)
    (he : evalO c (.build z ps) st.e st.h = some (v, h')) : PureR P φ st a w O loc D (.build z ps) o v h' := by
  simp only [chkOp] at hc
  split at hc
  · rename_i t ps' ho
    simp only [Bool.and_eq_true] at hc
    obtain ⟨hz, hc⟩ := hc
    simp only [evalO, Option.map_eq_some_iff, Prod.mk.injEq] at he
    obtain ⟨l, hl, rfl, rfl⟩ := he
    obtain ⟨it, zv, hi, hzv, hZ⟩ := zeroOk_VRa (c := CxOf w O loc) hz
    have fin : ∀ L, P.built t (ps'.map fun (i, x) => (i, a.eval x)).toList = some L → VRa φ (CxOf w O loc) l L → PureR P φ st a w O loc D (.build z ps) o (.agg l) st.h := by
      intro L hL hV
      refine ⟨.agg L, ?_, VL_of_VR (.agg _ _ hV.1 hV.2), rfl, LpIn.plain (by simp) (by simp)⟩
      simp only [Go.execOp, ho, Go.Sem.run_bind, Go.run_build w t _ L hL, Result.andThen_ok, Go.Sem.run_pure]
    split at hc
    · rename_i fs hu
      split at hc
      · rename_i pl hpl
        obtain ⟨L, hL1, hL2⟩ := fill_ok hs _ _ _ hc z l zv.cells hZ hl
        refine fin L ?_ hL2
        simp only [Go.Program.built, hi, hu, hzv]
        have : fs.toList.mapM (fun f => (P.info? f.type).map fun i => (f.offset, i.size)) = some pl := hpl
        simp only [this]
        simpa using hL1
      · simp at hc
    · rename_i m e hu
      split at hc
      · rename_i k hk
        obtain ⟨L, hL1, hL2⟩ := fill_ok hs _ _ _ hc z l zv.cells hZ hl
        refine fin L ?_ hL2
        unfold sizeT at hk
        cases hie : P.info? e with
        | none => simp [hie] at hk
        | some ie =>
          simp [hie] at hk
          simp only [Go.Program.built, hi, hu, hzv, hie, hk]
          simpa using hL1
      · simp at hc
    · simp at hc
  · simp at hc

end
end Mir
