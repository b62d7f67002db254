/- Copies and appends. Conditions: none. -/
import Derived.Test.YtbbgobliklljjaaOpsS
set_option linter.unusedVariables false
set_option linter.unusedSimpArgs false
namespace Mir
open Go (Value Addr IntKind World Obj Act Program FuncId TypeId Operand Op Oper Code TypeDesc Sem Result)

section
variable {P : Program} {φ : Nat → Option FuncId} {ψ : Prim → FuncId → Bool} {B : Base} {n : Nat} {st : St} {a : Act} {w : World} {O : Nat → Prop} {loc : List (Nat × Nat)} {D : List Nat}
variable (hs : Sim φ B n st a w O loc D) {o : Oper} {c : Call} {v : V} {h' : Heap}
include hs

/-- What a copy or an append reads: of a slice (of a local variable too) its cells. -/
theorem source_ok {X : V} {A : Value} (hx : VL φ (CxOf w O loc) a.tmps X A) {rs : List Nat} {ml : List V} (hl : sliceCellsL st.e st.h rs X = some ml) {len : Nat} (hlen : lenV X = some len) :
    Src φ (CxOf w O loc) w ml len A := by
  have gen : sliceCells st.h X = some ml → Src φ (CxOf w O loc) w ml len A := fun hl => by
    rcases sliceCells_ok hs hx (.inl rfl) hl with ⟨h1, h2, h3⟩ | ⟨ad, len', cap, h1, h2, h3⟩
    · rw [hlen] at h3; simp at h3
      exact .inl ⟨h1, h2, h3⟩
    · rw [hlen] at h2; simp at h2; subst h2
      exact .inr ⟨ad, cap, h1, h3⟩
  cases X <;> first | exact gen hl | skip
  rename_i sz s off m cap
  simp only [sliceCellsL] at hl
  split at hl
  · split at hl
    · rename_i l hg
      split at hl
      · rename_i hle
        simp only [Option.some.injEq] at hl
        simp only [lenV, Option.some.injEq] at hlen
        subst hlen
        obtain ⟨b, ad, cap', hb, rfl, g2, g3, g4⟩ := hx
        obtain ⟨b', hb', _, cs, T, fz, _, _, _, y, hy1, hy2⟩ := loc_ok hs hg
        rw [hb] at hb'; simp at hb'; subst hb'
        rcases Nat.eq_zero_or_pos cap' with h0 | h0
        · have : m = 0 := by omega
          subst this
          exact .inr ⟨ad, cap', rfl, .inl ⟨by rw [← hl]; simp, rfl⟩⟩
        · refine .inr ⟨ad, cap', rfl, .inr ⟨b, off, g4 h0, fun j => y (off + j), fun j hj => ?_, fun j hj => ?_⟩⟩
          · rw [← hl] at hj
            simp at hj
            exact hy1 _ (by omega)
          · have hj2 := hj
            rw [← hl] at hj2
            simp at hj2
            have : ml[j] = l[off + j] := by subst hl; simp
            rw [this]
            exact hy2 _ _
      · simp at hl
    · simp at hl
  · simp at hl

omit hs in
theorem run_copy {args : Array Operand} {ts : Array TypeId} (ho : o.op = .call { callee := .builtin .copy, args := args, argTypes := ts }) {x' y' : Operand} (hargs : args.toList = [x', y'])
    {s : TypeId} {rest : List TypeId} (hts : ts.toList = s :: rest) {e : TypeId} (hse : sliceT P s = some e) {sz : Nat} (hsz : sizeT P e = some sz) {ad : Addr} {dLen dCap : Nat} (hA : a.eval x' = .slice (some ad) dLen dCap)
    {sLen : Nat} (hB : (a.eval y' = .slice none 0 0 ∧ sLen = 0) ∨ ∃ ad cap, a.eval y' = .slice (some ad) sLen cap) {X : Array Value} (hX : (Go.Builtin.firstCells sz (min sLen dLen) (a.eval y')).run P w = .ok X w)
    {w' : World} (hst : (Go.storeCells ad X.toList 0).run P w = .ok () w') : (Go.execOp a.eval o).run P w = .ok (.value (.int .i64 (min sLen dLen : Nat))) w' := by
  obtain ⟨ks, hrun⟩ := run_bi (P := P) (a := a) (w := w) ho hargs
  rw [hrun]
  have hlen : ∀ w, (Go.Builtin.lenOf (a.eval y')).run P w = .ok sLen w := by
    intro w
    rcases hB with ⟨hB, rfl⟩ | ⟨ad, cap, hB⟩ <;> rw [hB] <;> rfl
  simp only [Go.builtin, Go.Builtin.copy_, List.map_cons, List.map_nil, List.getElem?_toArray, List.getElem?_cons_zero, List.getElem?_cons_succ, ts0 hts, hA, Go.Sem.run_bind, run_und (sliceT_und hse), Result.andThen_ok, run_size hsz, hlen]
  have hX' : (Go.Builtin.firstCells sz (Nat.min sLen dLen) (a.eval y')).run P w = .ok X w := hX
  simp only [hX', Result.andThen_ok, hst, Go.Sem.run_pure, Go.goInt]

theorem cpy_step {sz : Nat} {x y : Opd} (hc : chkOp P φ ψ o.op (.cpy sz x y) = true) (he : evalO c (.cpy sz x y) st.e st.h = some (v, h')) (hd : ∀ d, o.dst = some d → d < n ∧ d ∉ D ++ []) :
    StepOk P φ B n o a w ⟨put o.dst v st.e, h'⟩ (D ++ []) := by
  intro K Q hK
  simp only [chkOp] at hc
  split at hc
  · rename_i bi args ts ho
    simp only [chkBuiltin, Bool.and_eq_true, beq_iff_eq] at hc
    obtain ⟨⟨rfl, h1⟩, ht⟩ := hc
    obtain ⟨x', y', hargs, h1, h2⟩ := chkXs_two h1
    split at ht
    · rename_i s rest hts
      split at ht
      · rename_i e hse
        simp only [beq_iff_eq] at ht
        have hx := ev_VL hs h1
        have hy := ev_VL hs h2
        simp only [evalO] at he
        split at he
        · rename_i sz' k off len cap m b hX hm hb
          split at he
          · rename_i hcond
            obtain ⟨rfl, hml, hmc, hb63⟩ := hcond
            split at he
            · rename_i l hl
              split at he
              · rename_i hle
                simp only [Option.some.injEq, Prod.mk.injEq] at he
                obtain ⟨rfl, rfl⟩ := he
                rw [hX] at hx
                obtain ⟨b0, δ, cs, T, fz, hloc, hown, hrow⟩ := hs.heap.rows k l hl
                simp only [CxOf] at hloc hown
                have hsrc := source_ok hs hy (rs := []) (ml := m) (len := b) (by
                  have : sliceCellsL st.e st.h [] (ev st.e y) = sliceCells st.h (ev st.e y) := by
                    cases hv : ev st.e y <;> simp [sliceCellsL, sliceCells]
                  rw [this]; exact hm) hb
                obtain ⟨X, hX1, hX2⟩ := firstCells_ok (P := P) hsrc hml (q := min b len) (Nat.min_le_left _ _)
                generalize hA : a.eval x' = A at hx
                cases hx with
                | hs _ _ _ _ _ b' δ' cap' ad g1 g2 g3 g4 =>
                  simp only [CxOf] at g1
                  rw [hloc] at g1; simp at g1
                  obtain ⟨rfl, rfl⟩ := g1
                  have hmin : min b len * sz' ≤ len * sz' := Nat.mul_le_mul_right sz' (Nat.min_le_right _ _)
                  have hminb : min b len * sz' ≤ b * sz' := Nat.mul_le_mul_right sz' (Nat.min_le_left _ _)
                  have htl : (m.take (min b len * sz')).length = min b len * sz' := by rw [List.length_take]; omega
                  obtain ⟨l1, l2⟩ := VRa_list hX2
                  have hone := all_cellV_one hX2 (by rw [List.all_eq_true] at hmc ⊢; exact fun z hz => hmc z (List.mem_of_mem_take hz))
                  obtain ⟨sp1, sp2⟩ := splice_copy l (m.take (min b len * sz')) off (by omega)
                  rw [htl] at sp1 sp2
                  have fin : (∃ cs' : Array Value, (Go.storeCells ad X.toList 0).run P w = .ok () (w.setRow b0 cs') ∧ cs'.size = cs.size ∧
                      (∀ (j : Nat) v x, (l.take off ++ m.take (min b len * sz') ++ l.drop (off + min b len * sz'))[j]? = some v → cs'[δ + j]? = some x → VR φ (CxOf w O loc) v x)) → o.wp P a w K Q := by
                    rintro ⟨cs', hst, hz1, hz2⟩
                    have hrun := run_copy (P := P) ho hargs hts hse ht hA (by
                      rcases hsrc with ⟨e1, _, e2⟩ | ⟨ad, cap, e1, _⟩
                      · exact .inl ⟨e1, e2⟩
                      · exact .inr ⟨ad, cap, e1⟩) hX1 hst
                    exact wp_val hrun (hK _ _ _ _ (put_step (hs.store_row hl hloc hrow hown hz1 sp1 hz2) (VL_of_VR (.i _ (by omega) (by omega))) [] (LpIn.plain (by simp) (by simp)) hd))
                  rcases Nat.eq_zero_or_pos cap' with h0 | h0
                  · have hlen0 : len = 0 := by omega
                    subst hlen0
                    refine fin ⟨cs, ?_, rfl, ?_⟩
                    · have hXe : X.toList = [] := by
                        have := l1; rw [htl] at this
                        simp at this
                        simpa using (Array.size_eq_zero_iff.1 this.symm)
                      rw [hXe, Go.setRow_self w b0 cs T fz hrow.block]
                      rfl
                    · intro j v x hv hx
                      simp at hv
                      obtain ⟨hj, rfl⟩ := List.getElem?_eq_some_iff.1 hv
                      obtain ⟨hj2, rfl⟩ := Array.getElem?_eq_some_iff.1 hx
                      exact hrow.cell j hj hj2
                  · refine fin ?_
                    rw [(g4 h0).1]
                    obtain ⟨cs', hcs', hz1, hz2⟩ := write_cells hrow (C := m.take (min b len * sz')) l1 l2 (o := off) (l' := l.take off ++ m.take (min b len * sz') ++ l.drop (off + min b len * sz')) (by omega) (by rw [htl]; exact ⟨sp1, sp2⟩)
                    have hst := storeCells_ok (P := P) b0 (δ + off) T fz X.toList 0 cs w hrow.block (by have := hrow.room; omega) hrow.free hone
                    simp only [Nat.add_zero] at hst
                    rw [← hcs'] at hst
                    exact ⟨cs', hst, hz1, hz2⟩
              · simp at he
            · simp at he
          · simp at he
        · simp at he
      · simp at ht
    · simp at ht
  · simp at hc

theorem cpyl_step {s sz : Nat} {rs : List Nat} {x y : Opd} (hc : chkOp P φ ψ o.op (.cpyl s sz rs x y) = true) {off len cap : Nat} (hX : ev st.e x = .ls sz s off len cap) {l m : List V} {b : Nat}
    (hg : get st.e s = .loc l) (hm : sliceCellsL st.e st.h rs (ev st.e y) = some m) (hb : lenV (ev st.e y) = some b) (hcond : m.length = b * sz ∧ m.all cellV ∧ off + len * sz ≤ l.length ∧ b < 9223372036854775808)
    (hd : ∀ d, o.dst = some d → d < n ∧ d ∉ D ++ []) :
    StepOk P φ B n o a w ⟨put o.dst (.i (min b len : Nat)) ((s, .loc (l.take off ++ m.take (min b len * sz) ++ l.drop (off + min b len * sz))) :: st.e), st.h⟩ (D ++ []) := by
  intro K Q hK
  simp only [chkOp] at hc
  split at hc
  · rename_i bi args ts ho
    simp only [chkBuiltin, Bool.and_eq_true, beq_iff_eq] at hc
    obtain ⟨⟨rfl, h1⟩, ht⟩ := hc
    obtain ⟨x', y', hargs, h1, h2⟩ := chkXs_two h1
    split at ht
    · rename_i s' rest hts
      split at ht
      · rename_i e hse
        simp only [beq_iff_eq] at ht
        have hx := ev_VL hs h1
        have hy := ev_VL hs h2
        obtain ⟨hml, hmc, hle, hb63⟩ := hcond
        rw [hX] at hx
        obtain ⟨b0, ad, cap', hb0, hA, g2, g3, g4⟩ := hx
        have he := hs.env s
        simp only [hg, ER] at he
        obtain ⟨b1, cs, T, fz, hb1, hown, hlen, hrow⟩ := he
        rw [hb0] at hb1; simp at hb1; subst hb1
        have hsrc := source_ok hs hy hm hb
        obtain ⟨X, hX1, hX2⟩ := firstCells_ok (P := P) hsrc hml (q := min b len) (Nat.min_le_left _ _)
        have hmin : min b len * sz ≤ len * sz := Nat.mul_le_mul_right sz (Nat.min_le_right _ _)
        have hminb : min b len * sz ≤ b * sz := Nat.mul_le_mul_right sz (Nat.min_le_left _ _)
        have htl : (m.take (min b len * sz)).length = min b len * sz := by rw [List.length_take]; omega
        obtain ⟨l1, l2⟩ := VRa_list hX2
        have hone := all_cellV_one hX2 (by rw [List.all_eq_true] at hmc ⊢; exact fun z hz => hmc z (List.mem_of_mem_take hz))
        obtain ⟨sp1, sp2⟩ := splice_copy l (m.take (min b len * sz)) off (by omega)
        rw [htl] at sp1 sp2
        have fin : (∃ cs' : Array Value, (Go.storeCells ad X.toList 0).run P w = .ok () (w.setRow b0 cs') ∧ cs'.size = cs.size ∧
            (∀ (j : Nat) v x, (l.take off ++ m.take (min b len * sz) ++ l.drop (off + min b len * sz))[j]? = some v → cs'[0 + j]? = some x → VR φ (CxOf w O loc) v x)) → o.wp P a w K Q := by
          rintro ⟨cs', hst, hz1, hz2⟩
          have hrun := run_copy (P := P) ho hargs hts hse ht hA (by
            rcases hsrc with ⟨e1, _, e2⟩ | ⟨ad, cap, e1, _⟩
            · exact .inl ⟨e1, e2⟩
            · exact .inr ⟨ad, cap, e1⟩) hX1 hst
          have hs' := hs.store_loc (l' := l.take off ++ m.take (min b len * sz) ++ l.drop (off + min b len * sz)) hg hb0 hrow.block hrow.free hz1 (by
            rw [VRa_iff]
            exact ⟨by rw [sp1, hz1]; exact hlen, fun j v x hv hx => hz2 j v x hv (by rw [Nat.zero_add]; exact hx)⟩)
          exact wp_val hrun (hK _ _ _ _ (put_step hs' (VL_of_VR (.i _ (by omega) (by omega))) [] (LpIn.plain (by simp) (by simp)) hd))
        rcases Nat.eq_zero_or_pos cap' with h0 | h0
        · have hlen0 : len = 0 := by omega
          subst hlen0
          refine fin ⟨cs, ?_, rfl, ?_⟩
          · have hXe : X.toList = [] := by
              have := l1; rw [htl] at this
              simp at this
              simpa using (Array.size_eq_zero_iff.1 this.symm)
            rw [hXe, Go.setRow_self w b0 cs T fz hrow.block]
            rfl
          · intro j v x hv hx
            simp at hv
            obtain ⟨hj, rfl⟩ := List.getElem?_eq_some_iff.1 hv
            obtain ⟨hj2, rfl⟩ := Array.getElem?_eq_some_iff.1 hx
            exact hrow.cell j hj hj2
        · refine fin ?_
          rw [g4 h0]
          obtain ⟨cs', hcs', hz1, hz2⟩ := write_cells hrow (C := m.take (min b len * sz)) l1 l2 (o := off) (l' := l.take off ++ m.take (min b len * sz) ++ l.drop (off + min b len * sz)) (by omega) (by rw [htl]; exact ⟨sp1, sp2⟩)
          have hst := storeCells_ok (P := P) b0 (0 + off) T fz X.toList 0 cs w hrow.block (by have := hrow.room; omega) hrow.free hone
          simp only [Nat.add_zero] at hst
          rw [← hcs', Nat.zero_add] at hst
          exact ⟨cs', hst, hz1, hz2⟩
      · simp at ht
    · simp at ht
  · simp at hc

end
end Mir
