/- Appends. Conditions: none. -/
import Derived.Test.YtbbgobliklljjaaOpsT
set_option linter.unusedVariables false
set_option linter.unusedSimpArgs false
namespace Mir
open Go (Value Addr IntKind World Obj Act Program FuncId TypeId Operand Op Oper Code TypeDesc Sem Result)

section
variable {P : Program} {φ : Nat → Option FuncId} {ψ : Prim → FuncId → Bool} {B : Base} {n : Nat} {st : St} {a : Act} {w : World} {O : Nat → Prop} {loc : List (Nat × Nat)} {D : List Nat}

theorem Src.drew {c : Cx} {ml : List V} {len : Nat} {A : Value} (h : Src φ c w ml len A) : Src φ c w.drew ml len A := h

theorem lenOf_src {c : Cx} {ml : List V} {len : Nat} {A : Value} (h : Src φ c w ml len A) (w' : World) : (Go.Builtin.lenOf A).run P w' = .ok len w' := by
  rcases h with ⟨rfl, _, rfl⟩ | ⟨ad, cap, rfl, _⟩ <;> rfl

/-- An append with room. -/
theorem run_app_room {ts : Array TypeId} {ty s t e : TypeId} (hts : ts.toList = [s, t]) (hse : sliceT P s = some e) {te : TypeId} (hte : sliceT P t = some te) {sz : Nat} (hsz : sizeT P e = some sz)
    {A : Value} {base : Option Addr} {len cap : Nat} {b : Nat} (hcap : len + b ≤ cap) (hlen : ∀ w', (Go.Builtin.lenOf A).run P w' = .ok b w') {X : Array Value}
    (hX : (Go.Builtin.firstCells sz b A).run P w = .ok X w) {w' : World} (hst : ∀ ad, base = some ad → (Go.storeCells (ad.add (len * sz)) X.toList 0).run P w = .ok () w') (hb : base = none → w' = w) :
    (Go.Builtin.append_ ts ty #[.slice base len cap, A]).run P w = .ok (.slice base (len + b) cap) w' := by
  have h0 : ts[0]? = some s := ts0 hts
  have h1 : ts[1]? = some t := by
    have h2 : ts.toList[1]? = some t := by rw [hts]; rfl
    simpa using h2
  cases base with
  | none =>
    simp [Go.Builtin.append_, h0, h1, run_und (sliceT_und hse), run_und (sliceT_und hte), run_size hsz, hlen, hcap, hX, hb rfl]
  | some ad =>
    simp [Go.Builtin.append_, h0, h1, run_und (sliceT_und hse), run_und (sliceT_und hte), run_size hsz, hlen, hcap, hX, hst ad rfl]

/-- An append that makes a new row. -/
theorem run_app_grow {ts : Array TypeId} {ty s t e : TypeId} (hts : ts.toList = [s, t]) (hse : sliceT P s = some e) {te : TypeId} (hte : sliceT P t = some te) {sz : Nat} (hsz : sizeT P e = some sz)
    {bytes : Nat} (hby : bytesT P e = some bytes) (hb0 : 0 < bytes) {A : Value} {base : Option Addr} {len cap : Nat} {b : Nat} (hcap : cap < len + b) (hlen : ∀ w', (Go.Builtin.lenOf A).run P w' = .ok b w') {X Y : Array Value}
    (hY : (Go.Builtin.firstCells sz len (.slice base len cap)).run P w.drew = .ok Y w.drew) (hX : (Go.Builtin.firstCells sz b A).run P w.drew = .ok X w.drew) (hroom : (len + b) * bytes ≤ 140737488355328)
    {zv : Value} (hz : (P.info? e).bind (·.zero) = some zv) :
    ∃ (nc : Nat) (rest : Array Value), len + b ≤ nc ∧ rest.size = (nc - (len + b)) * zv.cells.size ∧ (Go.Builtin.append_ ts ty #[.slice base len cap, A]).run P w =
      .ok (.slice (some ⟨w.heap.size, 0, none⟩) (len + b) nc) (w.drew.alloc (.cells (Y ++ X ++ rest) e)) := by
  have h0 : ts[0]? = some s := ts0 hts
  have h1 : ts[1]? = some t := by
    have h2 : ts.toList[1]? = some t := by rw [hts]; rfl
    simpa using h2
  obtain ⟨it, hi, hib⟩ := bytesT_info hby
  have hzv : it.zero = some zv := by simpa [hi] using hz
  have hnc : ¬ len + b ≤ cap := by omega
  have hby0 : ¬ bytes = 0 := by omega
  have hfit := Go.growslice_fits (old := cap) (need := len + b) (bytes := bytes) hcap hroom
  have hfit' : ¬ (281474976710656 < Go.Builtin.nextslicecap (len + b) cap * bytes) := by omega
  refine ⟨(Go.Question.appendCap (len + b) cap e).cut (w.tape w.drawn (.appendCap (len + b) cap e)), Go.Builtin.zeroCells zv.cells ((Go.Question.appendCap (len + b) cap e).cut (w.tape w.drawn (.appendCap (len + b) cap e)) - (len + b)), by simp [Go.Question.cut], by simp [Go.Builtin.zeroCells], ?_⟩
  simp [Go.Builtin.append_, h0, h1, run_und (sliceT_und hse), run_und (sliceT_und hte), run_size hsz, hlen, hnc, Go.typeInfo, hi, hib, hby0, hfit', Go.Question.forced, hX, hY, Go.zeroValue, hzv, Go.newRow]

variable (hs : Sim φ B n st a w O loc D) {o : Oper} {c : Call} {v : V} {h' : Heap}
include hs

theorem app_step {sz bytes : Nat} {x y : Opd} (hc : chkOp P φ ψ o.op (.app sz bytes x y) = true) (he : evalO c (.app sz bytes x y) st.e st.h = some (v, h')) (hd : ∀ d, o.dst = some d → d < n ∧ d ∉ D ++ []) :
    StepOk P φ B n o a w ⟨put o.dst v st.e, h'⟩ (D ++ []) := by
  intro K Q hK
  simp only [chkOp] at hc
  split at hc
  · rename_i bi args ts ho
    simp only [chkBuiltin, Bool.and_eq_true, beq_iff_eq] at hc
    obtain ⟨⟨rfl, h1⟩, ht⟩ := hc
    obtain ⟨x', y', hargs, h1, h2⟩ := chkXs_two h1
    split at ht
    · rename_i s t hts
      split at ht
      · rename_i e hse
        simp only [Bool.and_eq_true, beq_iff_eq, decide_eq_true_eq] at ht
        obtain ⟨⟨⟨⟨hsz, hby⟩, hb0⟩, hte⟩, hzs⟩ := ht
        obtain ⟨te, hte⟩ := Option.isSome_iff_exists.1 hte
        split at hzs
        · rename_i zv hz
          simp only [beq_iff_eq] at hzs
          have hx := ev_VL hs h1
          have hy := ev_VL hs h2
          obtain ⟨ks, hrun⟩ := run_bi (P := P) (a := a) (w := w) ho hargs
          simp only [Go.builtin, List.map_cons, List.map_nil] at hrun
          simp only [evalO] at he
          split at he
          · rename_i m b hm hb
            have hsrc := source_ok hs hy (rs := []) (ml := m) (len := b) (by
              have : sliceCellsL st.e st.h [] (ev st.e y) = sliceCells st.h (ev st.e y) := by
                cases hv : ev st.e y <;> simp [sliceCellsL, sliceCells]
              rw [this]; exact hm) hb
            have hlenA : ∀ w', (Go.Builtin.lenOf (a.eval y')).run P w' = .ok b w' := lenOf_src hsrc
            have done : ∀ V w', (Go.Builtin.append_ ts o.type #[a.eval x', a.eval y']).run P w = .ok V w' → (Go.execOp a.eval o).run P w = .ok (.value V) w' := by
              intro V w' h
              rw [hrun]
              simp [h]
            split at he
            · -- onto nil
              rename_i hX
              have hA : a.eval x' = .slice none 0 0 := by
                rw [hX] at hx
                generalize a.eval x' = A at hx
                cases hx; rfl
              split at he
              · rename_i hb00
                subst hb00
                simp only [Option.some.injEq, Prod.mk.injEq] at he
                obtain ⟨rfl, rfl⟩ := he
                have hX0 : (Go.Builtin.firstCells sz 0 (a.eval y')).run P w = .ok #[] w := by
                  rcases hsrc with ⟨e1, _, _⟩ | ⟨ad, cap, e1, _⟩ <;> rw [e1] <;> simp [Go.Builtin.firstCells, Go.loadCells, Go.loadCellsFrom]
                have hr := run_app_room (P := P) (w := w) (ty := o.type) hts hse hte hsz (A := a.eval y') (base := none) (len := 0) (cap := 0) (b := 0) (Nat.le_refl _) hlenA hX0 (w' := w) (by simp) (fun _ => rfl)
                rw [← hA] at hr
                exact wp_val (done _ _ hr) (hK _ _ _ _ (hA ▸ put_step hs (VL_of_VR VR.nils) [] (LpIn.plain (by simp) (by simp)) hd))
              · rename_i hb00
                split at he
                · rename_i hcond
                  obtain ⟨hroom, hml, hmc⟩ := hcond
                  simp only [Option.some.injEq, Prod.mk.injEq] at he
                  obtain ⟨rfl, rfl⟩ := he
                  simp only [roomOk, decide_eq_true_eq] at hroom
                  obtain ⟨X, hX1, hX2⟩ := firstCells_ok (P := P) (hsrc.drew) hml (q := b) (Nat.le_refl _)
                  rw [List.take_of_length_le (by omega)] at hX2
                  obtain ⟨nc, rest, hnc, hrest, hr⟩ := run_app_grow (P := P) (w := w) (ty := o.type) hts hse hte hsz hby hb0 (A := a.eval y') (base := none) (len := 0) (cap := 0) (b := b) (by omega) hlenA (X := X) (Y := #[]) (by simp [Go.Builtin.firstCells]) hX1 (by simpa using hroom) hz
                  rw [← hA] at hr
                  have hXs : X.size = b * sz := by rw [← hX2.1]; exact hml
                  have hcs : (#[] ++ X ++ rest).size = nc * sz := by
                    have : b * sz + (nc - b) * sz = nc * sz := by rw [← Nat.add_mul]; congr 1; omega
                    simp [hXs, hrest, hzs]; exact this
                  have h1' := hs.drew.alloc_row (l := m) (cs := #[] ++ X ++ rest) (T := e) (fz := (0, 0)) (by simp [hXs]; omega) (fun j v x hv hx => by
                    have hj := (List.getElem?_eq_some_iff.1 hv).1
                    refine (VRa_iff.1 hX2).2 j v x hv ?_
                    simp only [Array.empty_append] at hx
                    rwa [Array.getElem?_append_left (by omega)] at hx) (fun j _ h => by simp at h)
                  refine wp_val (done _ _ hr) (hK _ _ _ _ (put_step h1' (VL_of_VR ?_) [] (LpIn.plain (by simp) (by simp)) hd))
                  simp only [Nat.zero_add]
                  exact VR.hs_new hs.drew _ e (0, 0) sz b b nc (Nat.le_refl _) (by omega) (by rw [hcs]; exact Nat.le_refl _)
                · simp at he
            · -- onto a row
              rename_i sz' k off len cap hX
              split at he
              · rename_i r hr
                split at he
                · rename_i hcond
                  obtain ⟨rfl, hle, hroom, hml, hmc⟩ := hcond
                  simp only [Option.some.injEq, Prod.mk.injEq] at he
                  obtain ⟨rfl, rfl⟩ := he
                  simp only [roomOk, decide_eq_true_eq] at hroom
                  obtain ⟨b0, δ, cs, T, fz, hloc, hown, hrow⟩ := hs.heap.rows k r hr
                  simp only [CxOf] at hloc hown
                  obtain ⟨yc, hy1, hy2⟩ := hrow.cells (w := w) rfl
                  have hrl := hrow.room
                  have hsl : ((r.drop off).take (len * sz')).length = len * sz' := by simp; omega
                  rw [hX] at hx
                  generalize hA : a.eval x' = A at hx
                  cases hx with
                  | hs _ _ _ _ _ b' δ' cap' ad g1 g2 g3 g4 =>
                    simp only [CxOf] at g1
                    rw [hloc] at g1; simp at g1
                    obtain ⟨rfl, rfl⟩ := g1
                    have hkill := hs.kill k
                    have hfree := hs.free_of_kill hr hloc
                    have hk0 : (st.h.set k none).length = st.h.length := by simp
                    by_cases hin : len + b ≤ cap'
                    · -- there is room
                      obtain ⟨X, hX1, hX2⟩ := firstCells_ok (P := P) hsrc hml (q := b) (Nat.le_refl _)
                      rw [List.take_of_length_le (by omega)] at hX2
                      have hXs : X.toList.length = b * sz' := by have := hX2.1; simp; omega
                      have hone := all_cellV_one hX2 hmc
                      have fin : ∀ (cs' : Array Value), (Go.storeCells (ad.add (len * sz')) X.toList 0).run P w = .ok () (w.setRow b0 cs') → cs'.size = cs.size → δ + off + (len + b) * sz' ≤ cs.size →
                          (∀ (j : Nat) v x, ((r.drop off).take (len * sz') ++ m)[j]? = some v → cs'[δ + off + j]? = some x → VR φ (CxOf w O loc) v x) → o.wp P a w K Q := by
                        intro cs' hst hz1 hroom2 hz2
                        have hr' := run_app_room (P := P) (w := w) (ty := o.type) hts hse hte hsz (A := a.eval y') (base := some ad) (len := len) (cap := cap') (b := b) hin hlenA hX1 (w' := w.setRow b0 cs') (fun ad' e1 => by cases e1; exact hst) (by simp)
                        rw [← hA] at hr'
                        have h1' := hkill.take_row hfree (l := (r.drop off).take (len * sz') ++ m) (cs' := cs') (δ := δ + off) hrow.block hz1 (by
                          rw [List.length_append, hsl, hml, ← Nat.add_mul]; exact hroom2) hrow.free hz2
                        refine wp_val (done _ _ hr') (hK _ _ _ _ (put_step h1' (VL_of_VR ?_) [] (LpIn.plain (by simp) (by simp)) hd))
                        have hlen := hs.heap.len
                        simp only [CxOf] at hlen
                        refine VR.hs _ _ _ _ _ b0 (δ + off) _ _ (by simp [CxOf, hlen]) (Nat.le_refl _) hin (fun h => ⟨by simpa using (g4 h).1, ?_⟩)
                        have h5 := (g4 h).2
                        have h6 := hrow.block
                        simp only [bsize, h6] at h5
                        have h7 := Go.setRow_heap w b0 cs cs' T fz hrow.block
                        simp only [bsize, CxOf, h7, hz1]
                        simpa using h5
                      rcases Nat.eq_zero_or_pos cap' with h0 | h0
                      · have hl0 : len = 0 := by omega
                        have hb0' : b = 0 := by omega
                        subst hl0; subst hb0'
                        have hXe : X.toList = [] := by
                          have : X.toList.length = 0 := by simpa using hXs
                          exact List.eq_nil_of_length_eq_zero this
                        have hme : m = [] := List.eq_nil_of_length_eq_zero (by simpa using hml)
                        refine fin cs ?_ rfl (by simp; omega) ?_
                        · rw [hXe, Go.setRow_self w b0 cs T fz hrow.block]
                          rfl
                        · intro j v x hv hx
                          simp [hme] at hv
                      · obtain ⟨g5, g6⟩ := g4 h0
                        have h6 := hrow.block
                        simp only [bsize, h6] at g6
                        have hmul : (len + b) * sz' ≤ cap' * sz' := Nat.mul_le_mul_right sz' hin
                        rw [Nat.add_mul] at hmul
                        obtain ⟨s1, s2⟩ := seg_get cs (δ + off + len * sz') X.toList (by omega)
                        have hst := storeCells_ok (P := P) b0 (δ + off + len * sz') T fz X.toList 0 cs w hrow.block (by omega) hrow.free hone
                        simp only [Nat.add_zero] at hst
                        refine fin _ (by rw [g5, addr_add]; exact hst) s1 (by rw [Nat.add_mul]; omega) ?_
                        intro j v x hv hx
                        rw [s2] at hx
                        by_cases hj : j < len * sz'
                        · rw [List.getElem?_append_left (by omega)] at hv
                          rw [if_neg (by omega)] at hx
                          have hv2 : r[off + j]? = some v := by
                            rw [List.getElem?_take_of_lt hj, List.getElem?_drop] at hv; exact hv
                          obtain ⟨hjl, rfl⟩ := List.getElem?_eq_some_iff.1 hv2
                          obtain ⟨hjc, rfl⟩ := Array.getElem?_eq_some_iff.1 hx
                          have := hrow.cell (off + j) hjl (by omega)
                          simpa [Nat.add_assoc] using this
                        · rw [List.getElem?_append_right (by omega), hsl] at hv
                          have hjm := (List.getElem?_eq_some_iff.1 hv).1
                          rw [if_pos (by omega), show δ + off + j - (δ + off + len * sz') = j - len * sz' by omega] at hx
                          exact (VRa_list hX2).2 _ _ _ hv hx
                    · -- a new row
                      obtain ⟨X, hX1, hX2⟩ := firstCells_ok (P := P) (hsrc.drew) hml (q := b) (Nat.le_refl _)
                      rw [List.take_of_length_le (by omega)] at hX2
                      have hXs : X.size = b * sz' := by rw [← hX2.1]; exact hml
                      have hsrc0 : Src φ (CxOf w O loc) w.drew ((r.drop off).take (len * sz')) len (.slice (some ad) len cap') := by
                        refine .inr ⟨ad, cap', rfl, ?_⟩
                        rcases Nat.eq_zero_or_pos cap' with h0 | h0
                        · have : len = 0 := by omega
                          subst this
                          exact .inl ⟨by simp, rfl⟩
                        · refine .inr ⟨b0, δ + off, (g4 h0).1, fun j => yc (off + j), fun j hj => ?_, fun j hj => ?_⟩
                          · rw [hsl] at hj
                            rw [Nat.add_assoc]
                            exact hy1 _ (by omega)
                          · rw [hsl] at hj
                            simp only [List.getElem_take, List.getElem_drop]
                            exact hy2 _ _
                      obtain ⟨Y, hY1, hY2⟩ := firstCells_ok (P := P) hsrc0 hsl (q := len) (Nat.le_refl _)
                      rw [List.take_of_length_le (by omega)] at hY2
                      have hYs : Y.size = len * sz' := by rw [← hY2.1]; exact hsl
                      obtain ⟨nc, rest, hnc, hrest, hr'⟩ := run_app_grow (P := P) (w := w) (ty := o.type) hts hse hte hsz hby hb0 (A := a.eval y') (base := some ad) (len := len) (cap := cap') (b := b) (by omega) hlenA hY1 hX1 hroom hz
                      rw [← hA] at hr'
                      have hcs : (Y ++ X ++ rest).size = nc * sz' := by
                        have : len * sz' + b * sz' + (nc - (len + b)) * sz' = nc * sz' := by rw [← Nat.add_mul, ← Nat.add_mul]; congr 1; omega
                        simp [hXs, hYs, hrest, hzs]; rw [← Nat.add_assoc]; exact this
                      have h1' := hkill.drew.alloc_row (l := (r.drop off).take (len * sz') ++ m) (cs := Y ++ X ++ rest) (T := e) (fz := (0, 0)) (by rw [List.length_append, hsl, hml]; simp only [Array.size_append, hXs, hYs]; omega) (fun j v x hv hx => by
                        by_cases hj : j < len * sz'
                        · rw [List.getElem?_append_left (by omega)] at hv
                          rw [Array.append_assoc, Array.getElem?_append_left (by omega)] at hx
                          exact (VRa_iff.1 hY2).2 j v x hv hx
                        · rw [List.getElem?_append_right (by omega), hsl] at hv
                          have hjm := (List.getElem?_eq_some_iff.1 hv).1
                          rw [Array.append_assoc, Array.getElem?_append_right (by omega), Array.getElem?_append_left (by omega), hYs] at hx
                          exact (VRa_iff.1 hX2).2 _ v x hv hx) (fun j _ h => by simp at h)
                      refine wp_val (done _ _ hr') (hK _ _ _ _ (put_step h1' (VL_of_VR ?_) [] (LpIn.plain (by simp) (by simp)) hd))
                      have := VR.hs_new hkill.drew (Y ++ X ++ rest) e (0, 0) sz' (len + b) (len + b) nc (Nat.le_refl _) hnc (by rw [hcs]; exact Nat.le_refl _)
                      simp only [hk0] at this
                      exact this
                · simp at he
              · simp at he
            · simp at he
          · simp at he
        · simp at hzs
      · simp at ht
    · simp at ht
  · simp at hc

end
end Mir
