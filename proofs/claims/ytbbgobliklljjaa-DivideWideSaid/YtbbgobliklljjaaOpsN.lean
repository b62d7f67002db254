/- Slices that are made, stores, copies, appends. Conditions: none. -/
import Derived.Test.YtbbgobliklljjaaOpsM
set_option linter.unusedVariables false
set_option linter.unusedSimpArgs false
namespace Mir
open Go (Value Addr IntKind World Obj Act Program FuncId TypeId Operand Op Oper Code TypeDesc Sem Result)

theorem flatten_get (z : List V) : ∀ (k j : Nat), j < k * z.length → (List.replicate k z).flatten[j]? = z[j % z.length]?
  | 0, j, h => by simp at h
  | k + 1, j, h => by
    rw [List.replicate_succ, List.flatten_cons]
    by_cases hj : j < z.length
    · rw [List.getElem?_append_left hj, Nat.mod_eq_of_lt hj]
    · rw [List.getElem?_append_right (by omega), flatten_get z k (j - z.length) (by rw [Nat.add_mul, Nat.one_mul] at h; omega)]
      rw [← Nat.mod_eq_sub_mod (by omega)]

theorem flatten_len (z : List V) (k : Nat) : (List.replicate k z).flatten.length = k * z.length := by
  simp [List.length_flatten, List.map_replicate, List.sum_replicate_nat]

theorem fill_len : ∀ (ps : List (Nat × Nat × V)) (z l : List V), fill z ps = some l → l.length = z.length
  | [], z, l, h => by simp only [fill, Option.some.injEq] at h; rw [h]
  | (o, n, v) :: ps, z, l, h => by
    simp only [fill] at h
    split at h
    · rename_i hc
      rw [fill_len ps _ l h, splice_len _ _ _ (by omega)]
    · simp at h

section
variable {P : Program} {φ : Nat → Option FuncId} {ψ : Prim → FuncId → Bool} {B : Base} {n : Nat} {st : St} {a : Act} {w : World} {O : Nat → Prop} {loc : List (Nat × Nat)} {D : List Nat}

theorem sizeT_info {t : TypeId} {k : Nat} (h : sizeT P t = some k) : ∃ it, P.info? t = some it ∧ it.size = k := by
  unfold sizeT at h
  cases hi : P.info? t with
  | none => simp [hi] at h
  | some it => simp [hi] at h; exact ⟨it, rfl, h⟩

theorem bytesT_info {t : TypeId} {k : Nat} (h : bytesT P t = some k) : ∃ it, P.info? t = some it ∧ it.bytes = k := by
  unfold bytesT at h
  cases hi : P.info? t with
  | none => simp [hi] at h
  | some it => simp [hi] at h; exact ⟨it, rfl, h⟩

variable (hs : Sim φ B n st a w O loc D) {o : Oper} {c : Call} {v : V} {h' : Heap}
include hs

theorem mks_step {sz bytes : Nat} {z : List V} {x y : Opd} (hc : chkOp P φ ψ o.op (.mks sz bytes z x y) = true) (he : evalO c (.mks sz bytes z x y) st.e st.h = some (v, h')) (hd : ∀ d, o.dst = some d → d < n ∧ d ∉ D ++ []) :
    StepOk P φ B n o a w ⟨put o.dst v st.e, h'⟩ (D ++ []) := by
  intro K Q hK
  simp only [chkOp] at hc
  split at hc
  · rename_i t x' y' ho
    simp only [Bool.and_eq_true] at hc
    obtain ⟨⟨h1, h2⟩, hc⟩ := hc
    split at hc
    · rename_i e hse
      simp only [Bool.and_eq_true, beq_iff_eq, decide_eq_true_eq] at hc
      obtain ⟨⟨⟨⟨⟨hsz, hby⟩, hb0⟩, hs0⟩, hz⟩, hzl⟩ := hc
      simp only [evalO] at he
      split at he
      · rename_i k hk
        split at he
        · rename_i m hm
          split at he
          · rename_i hroom
            simp only [Option.some.injEq, Prod.mk.injEq] at he
            obtain ⟨rfl, rfl⟩ := he
            obtain ⟨q1, c1, hC, hc0, hc1, hc2⟩ := ixOf_ok (ev_VL hs h2) hk
            obtain ⟨q2, c2, hN, hn0, hn1, hn2⟩ := ixOf_ok (ev_VL hs h1) hm
            obtain ⟨it, hi, his⟩ := sizeT_info hsz
            obtain ⟨it', hi', hib⟩ := bytesT_info hby
            rw [hi] at hi'; simp at hi'; subst hi'
            obtain ⟨it2, zv, hi2, hzv, hZ⟩ := zeroOk_VRa (c := CxOf w O loc) hz
            rw [hi] at hi2; simp at hi2; subst hi2
            simp only [roomOk, decide_eq_true_eq] at hroom
            have hbytes : (it.bytes : Int) * c1 ≤ 281474976710656 := by
              rw [hib]
              have : c1 = (k : Int) := by omega
              rw [this]
              have h3 : ((bytes * k : Nat) : Int) ≤ 281474976710656 := by
                have : bytes * k ≤ 140737488355328 := by rw [Nat.mul_comm]; exact hroom
                omega
              rwa [Int.natCast_mul] at h3
            have hrun := Go.run_make (P := P) w t e it zv (sliceT_und hse) hi hzv q2 q1 c2 c1 hn0 (by omega) hbytes (by omega)
            have hcell : ∀ (j : Nat) v x, (List.replicate k z).flatten[j]? = some v → (Go.madeCells zv.cells (c1.toNat * it.size))[j]? = some x → VR φ (CxOf w O loc) v x := by
              intro j v x hv hx
              have hjl : j < k * z.length := by
                have := (List.getElem?_eq_some_iff.1 hv).1
                rwa [flatten_len] at this
              rw [flatten_get z k j hjl] at hv
              have hzs : z.length = zv.cells.size := hZ.1
              have hmod : j % z.length < z.length := Nat.mod_lt _ (by omega)
              have hx2 : x = zv.cells[j % zv.cells.size]! := by
                unfold Go.madeCells at hx
                obtain ⟨hj2, hx⟩ := Array.getElem?_eq_some_iff.1 hx
                rw [← hx]; simp
              have hlt : j % zv.cells.size < zv.cells.size := by rw [← hzs]; exact hmod
              rw [hx2, getElem!_pos zv.cells _ hlt]
              have := (VRa_iff.1 hZ).2 (j % z.length) v (zv.cells[j % zv.cells.size]) hv (by rw [hzs]; simp [hlt])
              exact this
            have hms : (Go.madeCells zv.cells (c1.toNat * it.size)).size = k * sz := by rw [Go.size_madeCells, his, hc2]
            have h1' := hs.alloc_row (l := (List.replicate k z).flatten) (cs := Go.madeCells zv.cells (c1.toNat * it.size)) (T := e) (fz := (0, 0)) (by rw [flatten_len, hms, hzl]; exact Nat.le_refl _) hcell (fun j _ h => by simp at h)
            have hrun2 : (Go.execOp a.eval o).run P w = .ok (.value (.slice (some ⟨w.heap.size, 0, none⟩) m k)) (w.alloc (.cells (Go.madeCells zv.cells (c1.toNat * it.size)) e)) := by
              simp only [Go.execOp, ho, hN, hC, Go.Sem.run_bind, hrun, Result.andThen_ok, Go.Sem.run_pure, hn2, hc2]
            refine wp_val hrun2 (hK _ _ _ _ (put_step h1' (VL_of_VR ?_) [] (LpIn.plain (by simp) (by simp)) hd))
            exact VR.hs_new hs _ e (0, 0) sz m k k (by omega) (Nat.le_refl _) (by rw [hms]; exact Nat.le_refl _)
          · simp at he
        · simp at he
      · simp at he
    · simp at hc
  · simp at hc

theorem lit_step {imm : Bool} {sz k : Nat} {z : List V} {ps : List (Nat × Nat × Opd)} (hc : chkOp P φ ψ o.op (.lit imm sz k z ps) = true) (he : evalO c (.lit imm sz k z ps) st.e st.h = some (v, h')) (hd : ∀ d, o.dst = some d → d < n ∧ d ∉ D ++ []) :
    StepOk P φ B n o a w ⟨put o.dst v st.e, h'⟩ (D ++ []) := by
  intro K Q hK
  simp only [chkOp] at hc
  split at hc
  · rename_i t k' ps' ho
    simp only [Bool.and_eq_true, beq_iff_eq] at hc
    obtain ⟨rfl, hc⟩ := hc
    split at hc
    · rename_i e hse
      simp only [Bool.and_eq_true, beq_iff_eq, decide_eq_true_eq] at hc
      obtain ⟨⟨⟨⟨⟨hsz, hsmall⟩, hzl⟩, hz0⟩, hzall⟩, hps⟩ := hc
      obtain ⟨it, hi, his⟩ := sizeT_info hsz
      simp only [evalO] at he
      split at he
      · rename_i l hl
        have hsm : ¬ 16777216 < k * sz := by omega
        have key : ∀ (Z : Array Value), VRa φ (CxOf w O loc) z Z → (∀ L, Go.Instr.fill (fun i => some (i * sz, sz)) Z (ps'.map fun (i, x) => (i, a.eval x)).toList = some L →
            (Go.execOp a.eval o).run P w = .ok (.value (.slice (some ⟨w.heap.size, 0, none⟩) k k)) (w.alloc (.cells L e))) → o.wp P a w K Q := by
          intro Z hZ hrun
          obtain ⟨L, hL1, hL2⟩ := fill_ok hs _ _ _ hps z l Z hZ hl
          have hrun := hrun L (by simpa using hL1)
          have hLs : L.size = k * sz := by rw [← hL2.1, fill_len _ _ _ hl, hzl]
          by_cases himm : imm = true
          · subst himm
            simp only [if_true, Option.some.injEq, Prod.mk.injEq] at he
            obtain ⟨rfl, rfl⟩ := he
            exact wp_val hrun (hK _ _ _ _ (put_step (hs.alloc_imm _) (VL_of_VR (VR.vs_new hs.own hL2 e k)) [] (LpIn.plain (by simp) (by simp)) hd))
          · simp only [himm, Bool.false_eq_true, if_false, Option.some.injEq, Prod.mk.injEq] at he
            obtain ⟨rfl, rfl⟩ := he
            have h1' := hs.alloc_row (l := l) (cs := L) (T := e) (fz := (0, 0)) (by rw [hL2.1]; exact Nat.le_refl _) (VRa_iff.1 hL2).2 (fun j _ h => by simp at h)
            exact wp_val hrun (hK _ _ _ _ (put_step h1' (VL_of_VR (VR.hs_new hs _ e (0, 0) sz k k k (Nat.le_refl _) (Nat.le_refl _) (by rw [hLs]; exact Nat.le_refl _))) [] (LpIn.plain (by simp) (by simp)) hd))
        by_cases h0 : k * sz = 0
        · refine key #[] ⟨by rw [hzl, h0]; rfl, fun j hj => by rw [hzl, h0] at hj; simp at hj⟩ (fun L hL => ?_)
          simp only [Go.execOp, ho, Go.Instr.buildSlice, Go.Sem.run_bind, run_und (sliceT_und hse), Result.andThen_ok, run_size hsz, Go.Sem.run_ite, Nat.reducePow, gt_iff_lt, if_false, h0, if_true, Go.Sem.run_pure, Go.Array.range_zero', show ¬ (16777216 < 0) by decide]
          have hL' := hL
          simp only [Array.map_empty, hL', Go.newRow, Go.Sem.run_bind, Go.run_newObj, Result.andThen_ok, Go.Sem.run_pure, World.alloc_eq]
        · simp only [h0, beq_iff_eq, Bool.or_eq_true, false_or] at hz0
          obtain ⟨it2, zv, hi2, hzv, hZ⟩ := zeroOk_VRa (c := CxOf w O loc) hz0
          rw [hi] at hi2; simp at hi2; subst hi2
          have hk0 : 0 < k := Nat.pos_of_ne_zero (by rintro rfl; simp at h0)
          have hs0 : 0 < sz := Nat.pos_of_ne_zero (by rintro rfl; simp at h0)
          have hksz : sz ≤ k * sz := Nat.le_mul_of_pos_left sz hk0
          have hzs : zv.cells.size = sz := by rw [← hZ.1, List.length_take, hzl]; omega
          let Z : Array Value := (Array.range (k * sz)).map (zv.cells[· % zv.cells.size]!)
          have hZs : Z.size = k * sz := by simp [Z]
          have hZZ : VRa φ (CxOf w O loc) z Z := by
            rw [VRa_iff]
            refine ⟨by rw [hzl, hZs], fun j v x hv hx => ?_⟩
            obtain ⟨hj, hv⟩ := List.getElem?_eq_some_iff.1 hv
            obtain ⟨hj2, hx⟩ := Array.getElem?_eq_some_iff.1 hx
            rw [hzl] at hj
            rw [List.all_eq_true] at hzall
            have h3 := hzall j (List.mem_range.2 hj)
            have hmod : j % sz < sz := Nat.mod_lt _ hs0
            have e1 : z[j]? = some v := by rw [List.getElem?_eq_getElem (by omega), hv]
            have e2 : z[j % sz]? = some z[j % sz] := List.getElem?_eq_getElem (by omega)
            have e3 : zv.cells[j % sz]? = some zv.cells[j % sz] := by simp [hzs, hmod]
            simp only [e1, e2, hi, Option.bind_some, hzv, e3] at h3
            have hx2 : x = zv.cells[j % sz] := by
              rw [← hx]
              simp only [Z, Array.getElem_map, Array.getElem_range, hzs]
              rw [getElem!_pos zv.cells _ (by rw [hzs]; exact hmod)]
            rw [hx2]
            exact VR_of_chkV _ _ _ h3
          refine key Z hZZ (fun L hL => ?_)
          simp only [Go.execOp, ho, Go.Instr.buildSlice, Go.Sem.run_bind, run_und (sliceT_und hse), Result.andThen_ok, run_size hsz, Go.Sem.run_ite, Nat.reducePow, gt_iff_lt, hsm, if_false, h0, Go.Sem.run_pure, Go.zeroValue, Go.typeInfo, Go.run_program, hi, hzv]
          have hL' : Go.Instr.fill (fun i => some (i * sz, sz)) ((Array.range (k * sz)).map (zv.cells[· % zv.cells.size]!)) (ps'.map fun (i, x) => (i, a.eval x)).toList = some L := hL
          simp only [hL', Go.newRow, Go.Sem.run_bind, Go.run_newObj, Result.andThen_ok, Go.Sem.run_pure, World.alloc_eq]
      · simp at he
    · simp at hc
  · simp at hc

end
end Mir
