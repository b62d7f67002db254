/- The last operations that leave memory alone. Conditions: none. -/
import Derived.Test.YtbbgobliklljjaaOpsW
set_option linter.unusedVariables false
set_option linter.unusedSimpArgs false
namespace Mir
open Go (Value Addr IntKind World Obj Act Program FuncId TypeId Operand Op Oper Code TypeDesc Sem Result)

section
variable {P : Program} {φ : Nat → Option FuncId} {ψ : Prim → FuncId → Bool} {B : Base} {n : Nat} {st : St} {a : Act} {w : World} {O : Nat → Prop} {loc : List (Nat × Nat)} {D : List Nat}

theorem isAggT_some {t : TypeId} (h : isAggT P t = true) : (P.underlying t).isSome = true := by
  unfold isAggT at h
  cases hu : P.underlying t with
  | none => simp [hu] at h
  | some _ => rfl

theorem run_part {c : Cx} {t : TypeId} {q : Option Nat} (ht : partOk P t q = true) {l : List V} {cs : Array Value} (hr : VRa φ c l cs) {o : Nat} {v : V} (hv : part l o q = some v) (w : World) :
    ∃ x, (Go.part t cs o).run P w = .ok x w ∧ VR φ c v x := by
  have hl := hr.1
  cases q with
  | none =>
    simp only [partOk, Bool.and_eq_true, Bool.not_eq_true', beq_iff_eq] at ht
    simp only [part] at hv
    obtain ⟨ho, hv⟩ := List.getElem?_eq_some_iff.1 hv
    have hlt : o < cs.size := by omega
    exact ⟨cs[o], run_part_one w ht.1.2 ht.1.1 (by simp [hlt]), by rw [← hv]; exact hr.2 o ho hlt⟩
  | some k =>
    simp only [partOk, Bool.and_eq_true, beq_iff_eq] at ht
    simp only [part] at hv
    split at hv
    · rename_i hle
      simp only [Option.some.injEq] at hv
      subst hv
      have h1 := hr.slice hle
      exact ⟨_, run_part_agg w ht.1 (isAggT_some ht.1) ht.2 cs o, .agg _ _ h1.1 h1.2⟩
    · simp at hv

theorem evAll_ok (hs : Sim φ B n st a w O loc D) : ∀ (xs : List Operand) (ys : List Opd), chkXs φ xs ys = true → ys.length = xs.length ∧ ∀ j (h : j < ys.length) (h' : j < xs.length), VL φ (CxOf w O loc) a.tmps (ev st.e ys[j]) (a.eval xs[j])
  | [], [], _ => ⟨rfl, fun j h => absurd h (by simp)⟩
  | x :: xs, y :: ys, h => by
    simp only [chkXs, Bool.and_eq_true] at h
    obtain ⟨h1, h2⟩ := evAll_ok hs xs ys h.2
    refine ⟨by simp [h1], fun j hj hj' => ?_⟩
    cases j with
    | zero => exact ev_VL hs h.1
    | succ j => exact h2 j (by simpa using hj) (by simpa using hj')
  | [], _ :: _, h => by simp [chkXs] at h
  | _ :: _, [], h => by simp [chkXs] at h

theorem VL_plainV {c : Cx} {t : Array Value} {v : V} {x : Value} (h : VL φ c t v x) (hp : plainV v = true) : VR φ c v x :=
  VL_plain h (by rintro s o rfl; simp [plainV] at hp) (by rintro z s o m k rfl; simp [plainV] at hp)

/-- What the program's own functions of the processor do. -/
def PrimOk (P : Program) : Prim → FuncId → Prop
  | .add64, F => ∀ (x y k : Nat) (w : World), k ≤ 1 → (Go.callFunc F #[.int .u64 x, .int .u64 y, .int .u64 k]).run P w =
      .ok (.value (.tuple #[.int .u64 ((x + y + k) % 2 ^ 64 : Nat), .int .u64 ((x + y + k) / 2 ^ 64 : Nat)])) w
  | .sub64, F => ∀ (x y k : Nat) (w : World), k ≤ 1 → (Go.callFunc F #[.int .u64 x, .int .u64 y, .int .u64 k]).run P w =
      .ok (.value (.tuple #[.int .u64 ((x + 2 ^ 64 - y - k) % 2 ^ 64 : Nat), .int .u64 (if x < y + k then 1 else 0 : Nat)])) w

theorem run_call {o : Oper} {F : FuncId} {args : Array Operand} {ts : Array TypeId} (ho : o.op = .call { callee := .value (.func F), args := args, argTypes := ts }) :
    (Go.execOp a.eval o).run P w = (Go.callFunc F (args.map a.eval)).run P w := by
  simp [Go.execOp, ho, Go.resolve, Go.Deferred.ofValue, Go.invoke, Act.eval]

variable (hs : Sim φ B n st a w O loc D) {o : Oper} {c : Call} {v : V} {h' : Heap}
include hs

theorem fld_okR {q : Option Nat} {k : Nat} {x : Opd} (hc : chkOp P φ ψ o.op (.fld q k x) = true) (he : evalO c (.fld q k x) st.e st.h = some (v, h')) : PureR P φ st a w O loc D (.fld q k x) o v h' := by
  simp only [chkOp] at hc
  split at hc
  · rename_i t x' f ho
    simp only [Bool.and_eq_true] at hc
    obtain ⟨h1, hc⟩ := hc
    split at hc
    · rename_i fs hfs
      split at hc
      · rename_i fd hfd
        simp only [Bool.and_eq_true, beq_iff_eq] at hc
        have hx := ev_VL hs h1
        simp only [evalO] at he
        split at he
        · rename_i l hl
          rw [hl] at hx
          simp only [Option.map_eq_some_iff, Prod.mk.injEq] at he
          obtain ⟨u, hu, rfl, rfl⟩ := he
          generalize hA : a.eval x' = A at hx
          cases hx with
          | agg _ cs e1 e2 =>
            obtain ⟨V, hV1, hV2⟩ := run_part hc.2 ⟨e1, e2⟩ hu w
            refine ⟨V, ?_, VL_of_VR hV2, rfl, VRp ⟨_, _, hV2⟩⟩
            simp only [Go.execOp, ho, hA, Go.Instr.field, Go.Sem.run_bind, run_und (structT_und hfs), Result.andThen_ok, hfd, Go.asAgg, Go.Sem.run_pure, hc.1, hV1]
        · simp at he
      · simp at hc
    · simp at hc
  · simp at hc

theorem idxv_okR {k sz : Nat} {ag : Bool} {x i : Opd} (hc : chkOp P φ ψ o.op (.idxv k sz ag x i) = true) (he : evalO c (.idxv k sz ag x i) st.e st.h = some (v, h')) : PureR P φ st a w O loc D (.idxv k sz ag x i) o v h' := by
  simp only [chkOp] at hc
  split at hc
  · rename_i t x' i' ho
    simp only [Bool.and_eq_true] at hc
    obtain ⟨⟨h1, h2⟩, hc⟩ := hc
    split at hc
    · rename_i k' e hk
      simp only [Bool.and_eq_true, beq_iff_eq] at hc
      obtain ⟨⟨rfl, hsz⟩, hp⟩ := hc
      have hx := ev_VL hs h1
      simp only [evalO] at he
      split at he
      · rename_i l j hl hj
        rw [hl] at hx
        simp only [Option.map_eq_some_iff, Prod.mk.injEq] at he
        obtain ⟨u, hu, rfl, rfl⟩ := he
        obtain ⟨qk, z, hI, hz0, hz1, hz⟩ := ixOf_ok (ev_VL hs h2) hj
        generalize hA : a.eval x' = A at hx
        cases hx with
        | agg _ cs e1 e2 =>
          obtain ⟨V, hV1, hV2⟩ := run_part hp ⟨e1, e2⟩ hu w
          refine ⟨V, ?_, VL_of_VR hV2, rfl, VRp ⟨_, _, hV2⟩⟩
          simp only [Go.execOp, ho, hA, hI, Go.Instr.index, Go.Sem.run_bind, Go.asIntOf, Go.Sem.run_pure, run_und (arrayT_und hk), Result.andThen_ok, run_size hsz, Go.Sem.run_ite]
          rw [if_pos ⟨hz0, hz1⟩]
          simp [hz, hV1]
      · simp at he
    · simp at hc
  · simp at hc

theorem idxb_okR {x i : Opd} (hc : chkOp P φ ψ o.op (.idxb x i) = true) (he : evalO c (.idxb x i) st.e st.h = some (v, h')) : PureR P φ st a w O loc D (.idxb x i) o v h' := by
  simp only [chkOp] at hc
  split at hc
  · rename_i t x' i' ho
    simp only [Bool.and_eq_true] at hc
    obtain ⟨⟨h1, h2⟩, hc⟩ := hc
    have hx := ev_VL hs h1
    simp only [evalO] at he
    split at he
    · rename_i l hl
      rw [hl] at hx
      split at he
      · rename_i j hj
        simp only [Option.map_eq_some_iff, Prod.mk.injEq] at he
        obtain ⟨u, hu, rfl, rfl⟩ := he
        obtain ⟨qk, z, hI, hz0, hz1, hz⟩ := ixOf_ok (ev_VL hs h2) hj
        generalize hA : a.eval x' = A at hx
        cases hx with
        | s _ ba hba =>
          obtain ⟨hj2, hu⟩ := List.getElem?_eq_some_iff.1 hu
          have hsz := size_toNat hba
          have hlt : j < ba.data.toList.length := by
            have : ba.data.toList.length = ba.size := rfl
            omega
          have hval : u = (ba.data.toList[j]).toNat := by
            subst hba
            rw [← hu]; simp
          refine ⟨.int .u8 u, ?_, VL_of_VR (.u 8 u .u8 rfl ?_), rfl, LpIn.plain (by simp) (by simp)⟩
          · have hget : ba[z.toNat]? = some (ba.data.toList[j]) := by
              rw [hz]
              have hjs : j < ba.size := by omega
              rw [getElem?_pos ba j hjs]
              rfl
            simp only [Go.execOp, ho, hA, hI, Go.Instr.index, Go.Sem.run_bind, Go.asIntOf, Go.Sem.run_pure, run_und (strT_und hc), Result.andThen_ok]
            rw [if_pos hz0, hget]
            simp [hval]
          · rw [hval]; exact UInt8.toNat_lt _
      · simp at he
    · simp at he
  · simp at hc

theorem ext_okR {k : Nat} {x : Opd} (hc : chkOp P φ ψ o.op (.ext k x) = true) (he : evalO c (.ext k x) st.e st.h = some (v, h')) : PureR P φ st a w O loc D (.ext k x) o v h' := by
  simp only [chkOp] at hc
  split at hc
  · rename_i x' k' ho
    simp only [Bool.and_eq_true, beq_iff_eq] at hc
    obtain ⟨h1, rfl⟩ := hc
    have hx := ev_VL hs h1
    simp only [evalO] at he
    split at he
    · rename_i l hl
      rw [hl] at hx
      simp only [Option.map_eq_some_iff, Prod.mk.injEq] at he
      obtain ⟨u, hu, rfl, rfl⟩ := he
      generalize hA : a.eval x' = A at hx
      cases hx with
      | tup _ cs e1 e2 =>
        obtain ⟨hk, hu⟩ := List.getElem?_eq_some_iff.1 hu
        have hlt : k < cs.size := by omega
        have hV := e2 k hk hlt
        rw [hu] at hV
        refine ⟨cs[k], ?_, VL_of_VR hV, rfl, VRp ⟨_, _, hV⟩⟩
        simp [Go.execOp, ho, hA, Go.Instr.extract, hlt]
    · simp at he
  · simp at hc

theorem sls_okR {x : Opd} {lo hi : Option Opd} (hc : chkOp P φ ψ o.op (.sls x lo hi) = true) (he : evalO c (.sls x lo hi) st.e st.h = some (v, h')) : PureR P φ st a w O loc D (.sls x lo hi) o v h' := by
  simp only [chkOp] at hc
  split at hc
  · rename_i t x' lo' hi' mx ho
    simp only [Bool.and_eq_true, Option.isNone_iff_eq_none] at hc
    obtain ⟨⟨⟨⟨h1, h2⟩, h3⟩, rfl⟩, ht⟩ := hc
    have hx := ev_VL hs h1
    simp only [evalO] at he
    split at he
    · rename_i l hl
      rw [hl] at hx
      split at he
      · rename_i p q hb
        simp only [Option.some.injEq, Prod.mk.injEq] at he
        obtain ⟨rfl, rfl⟩ := he
        generalize hA : a.eval x' = A at hx
        cases hx with
        | s _ ba hba =>
          have hsz := size_toNat hba
          rw [← hsz] at hb
          obtain ⟨hrun, hpq, hq⟩ := bounds_ok (P := P) hs h2 h3 false hb (Nat.le_refl _)
          refine ⟨.string (ba.extract p q), ?_, VL_of_VR (.s _ _ ?_), rfl, LpIn.plain (by simp) (by simp)⟩
          · simp only [Go.execOp, ho, hA, Go.Instr.sliceAt, Go.Instr.slice, Go.Sem.run_bind, run_und (strT_und ht), Result.andThen_ok, Option.map_none, Option.isSome_none, Bool.false_eq_true, if_false, Go.Sem.run_pure, hrun]
          · rw [ByteArray.data_extract, ← hba]
            simp [Array.toList_extract, List.extract_eq_take_drop, List.map_drop, List.map_take, List.drop_take]
      · simp at he
    · simp at he
  · simp at hc

theorem slv_okR {sz : Nat} {x : Opd} {lo hi : Option Opd} (hc : chkOp P φ ψ o.op (.slv sz x lo hi) = true) (he : evalO c (.slv sz x lo hi) st.e st.h = some (v, h')) : PureR P φ st a w O loc D (.slv sz x lo hi) o v h' := by
  simp only [chkOp] at hc
  split at hc
  · rename_i t x' lo' hi' mx ho
    simp only [Bool.and_eq_true, Option.isNone_iff_eq_none] at hc
    obtain ⟨⟨⟨⟨h1, h2⟩, h3⟩, rfl⟩, ht⟩ := hc
    split at ht
    · rename_i e hse
      simp only [beq_iff_eq] at ht
      have hx := ev_VL hs h1
      simp only [evalO, Option.map_eq_some_iff, Prod.mk.injEq] at he
      obtain ⟨u, hu, rfl, rfl⟩ := he
      have run : ∀ (ad : Option Addr) (len cap p q : Nat) (A : Value), a.eval x' = A → A = .slice ad len cap → (Go.Instr.sliceBounds true len cap (lo'.map a.eval) (hi'.map a.eval) none).run P w = .ok (p, q, cap) w →
          (Go.execOp a.eval o).run P w = .ok (.value (.slice (if cap = p then ad else ad.map (·.add (p * sz))) (q - p) (cap - p))) w := by
        rintro ad len cap p q A hA rfl hb
        simp only [Go.execOp, ho, hA, Go.Instr.sliceAt, Go.Instr.slice, Go.Sem.run_bind, run_und (sliceT_und hse), Result.andThen_ok, Option.map_none, hb, run_size ht, Go.Sem.run_pure]
      generalize ev st.e x = X at *
      generalize hA : a.eval x' = A at *
      cases X <;> simp only [slcV, reduceCtorEq] at hu
      · cases hb : bounds 0 0 st.e lo hi with
        | none => simp [hb] at hu
        | some pq =>
          obtain ⟨p, q⟩ := pq
          simp only [hb, Option.some.injEq] at hu
          subst hu
          obtain ⟨hrun, hpq, hq⟩ := bounds_ok (P := P) hs h2 h3 true hb (Nat.le_refl _)
          cases hx
          refine ⟨_, run _ _ _ _ _ _ rfl rfl hrun, ?_, rfl, LpIn.plain (by simp) (by simp)⟩
          have hp0 : p = 0 := by omega
          have hq0 : q = 0 := by omega
          subst hp0; subst hq0
          exact VR.nils
      · rename_i m l
        cases hb : bounds m m st.e lo hi with
        | none => simp [hb] at hu
        | some pq =>
          obtain ⟨p, q⟩ := pq
          simp only [hb, Option.some.injEq] at hu
          subst hu
          cases hx with
          | vsn =>
            obtain ⟨hrun, hpq, hq⟩ := bounds_ok (P := P) hs h2 h3 true hb (Nat.le_refl _)
            refine ⟨_, run _ _ _ _ _ _ rfl rfl hrun, ?_, rfl, LpIn.plain (by simp) (by simp)⟩
            have hp0 : p = 0 := by omega
            have hq0 : q = 0 := by omega
            subst hp0; subst hq0
            have := (VR.vsn : VR φ (CxOf w O loc) _ _)
            simpa [VL] using this
          | vs0 ad cap =>
            obtain ⟨hrun, hpq, hq⟩ := bounds_ok (P := P) hs h2 h3 true hb (Nat.zero_le cap)
            refine ⟨_, run _ _ _ _ _ _ rfl rfl hrun, ?_, rfl, LpIn.plain (by simp) (by simp)⟩
            have hp0 : p = 0 := by omega
            have hq0 : q = 0 := by omega
            subst hp0; subst hq0
            simp only [Nat.zero_mul, List.drop_zero, List.take_nil, Nat.sub_self]
            split <;> exact VR.vs0 _ _
          | vs _ _ b o' cap y g0 g1 g2 g3 =>
            obtain ⟨hrun, hpq, hq⟩ := bounds_ok (P := P) hs h2 h3 true hb g0
            refine ⟨_, run _ _ _ _ _ _ rfl rfl hrun, ?_, rfl, LpIn.plain (by simp) (by simp)⟩
            by_cases hcp : cap = p
            · have hqp : q = p := by omega
              subst hqp
              simp only [hcp, if_true, Nat.sub_self, Nat.zero_mul, List.take_zero]
              exact VR.vs0 _ _
            · simp only [hcp, if_false, Option.map_some, addr_add]
              refine VR.vs _ _ b _ _ (fun j => y (p * sz + j)) (by omega) ?_ ?_ ?_
              · intro hne
                refine g1 ?_
                rintro rfl
                simp at hne
              · intro j hj
                simp at hj
                rw [Nat.add_assoc]
                exact g2 _ (by omega)
              · intro j hj
                have hj2 := hj
                simp at hj2
                simp only [List.getElem_take, List.getElem_drop]
                exact g3 _ _
      · split at hu
        · rename_i e1
          subst e1
          rename_i zz k off len cap
          cases hb : bounds len cap st.e lo hi with
          | none => simp [hb] at hu
          | some pq =>
            obtain ⟨p, q⟩ := pq
            simp only [hb, Option.some.injEq] at hu
            subst hu
            cases hx with
            | hs _ _ _ _ _ b δ cap' ad g1 g2 g3 g4 =>
              obtain ⟨hrun, hpq, hq⟩ := bounds_ok (P := P) hs h2 h3 true hb g3
              refine ⟨_, run _ _ _ _ _ _ rfl rfl hrun, ?_, rfl, LpIn.plain (by simp) (by simp)⟩
              by_cases hcp : cap' = p
              · simp only [hcp, if_true]
                exact VR.hs _ _ _ _ _ b δ _ _ g1 (by omega) (by omega) (fun h => absurd h (by omega))
              · simp only [hcp, if_false, Option.map_some]
                obtain ⟨g5, g6⟩ := g4 (by omega)
                refine VR.hs _ _ _ _ _ b δ _ _ g1 (by omega) (by omega) (fun h => ⟨?_, ?_⟩)
                · rw [g5, addr_add, Nat.add_assoc]
                · have : p * zz + (cap' - p) * zz = cap' * zz := by rw [← Nat.add_mul]; congr 1; omega
                  omega
        · simp at hu
    · simp at ht
  · simp at hc

theorem sla_okR {imm : Bool} {k sz : Nat} {x : Opd} {lo hi : Option Opd} (hc : chkOp P φ ψ o.op (.sla imm k sz x lo hi) = true) (he : evalO c (.sla imm k sz x lo hi) st.e st.h = some (v, h')) : PureR P φ st a w O loc D (.sla imm k sz x lo hi) o v h' := by
  simp only [chkOp] at hc
  split at hc
  · rename_i t x' lo' hi' mx ho
    simp only [Bool.and_eq_true, Option.isNone_iff_eq_none] at hc
    obtain ⟨⟨⟨⟨h1, h2⟩, h3⟩, rfl⟩, ht⟩ := hc
    split at ht
    · rename_i k' e hk
      simp only [Bool.and_eq_true, beq_iff_eq] at ht
      obtain ⟨rfl, hsz⟩ := ht
      have hx := ea_VL hs h1
      have hL := LpIn_ea hs h1
      simp only [evalO, Option.map_eq_some_iff, Prod.mk.injEq] at he
      obtain ⟨u, hu, rfl, rfl⟩ := he
      unfold slaV at hu
      cases hb : bounds k' k' st.e lo hi with
      | none => simp [hb] at hu
      | some pq =>
        obtain ⟨p, q⟩ := pq
        simp only [hb] at hu
        obtain ⟨hrun, hpq, hq⟩ := bounds_ok (P := P) hs h2 h3 false hb (Nat.le_refl _)
        have run : ∀ (b o' : Nat) (A : Value), a.eval x' = A → A = .pointer (some ⟨b, o', none⟩) →
            (Go.execOp a.eval o).run P w = .ok (.value (.slice (some (if k' = p then ⟨b, o', none⟩ else ⟨b, o' + p * sz, none⟩)) (q - p) (k' - p))) w := by
          rintro b o' A hA rfl
          simp only [Go.execOp, ho, hA, Go.Instr.sliceAt, Go.Sem.run_bind, run_und (arrayT_und hk), Result.andThen_ok, Option.map_none, Go.Instr.sureAddr, Go.Sem.run_pure, hrun, run_size hsz, addr_add]
        generalize ea st.e x = X at *
        generalize hA : a.eval x' = A at *
        cases X <;> simp only [reduceCtorEq] at hu
        · rename_i l off
          split at hu
          · rename_i hle
            simp only [Option.some.injEq] at hu
            subst hu
            cases hx with
            | vr _ _ b δ y g1 g2 g3 =>
              refine ⟨_, run _ _ _ rfl rfl, ?_, rfl, LpIn.plain (by simp) (by simp)⟩
              by_cases hkp : k' = p
              · have hqp : q = p := by omega
                subst hqp
                simp only [hkp, if_true, Nat.sub_self, Nat.zero_mul, List.take_zero]
                exact VR.vs0 _ _
              · simp only [hkp, if_false]
                refine VR.vs _ _ b _ _ (fun j => y (off + p * sz + j)) (by omega) ?_ ?_ ?_
                · intro hne
                  refine g1 ?_
                  rintro rfl
                  simp at hne
                · intro j hj
                  simp at hj
                  rw [show δ + off + p * sz + j = δ + (off + p * sz + j) by omega]
                  exact g2 _ (by omega)
                · intro j hj
                  have hj2 := hj
                  simp at hj2
                  simp only [List.getElem_take, List.getElem_drop]
                  exact g3 _ _
          · simp at hu
        · split at hu
          · rename_i r hr
            split at hu
            · rename_i hle
              simp only [Option.some.injEq] at hu
              subst hu
              rename_i kk oo _
              have hr' : row st.h kk = some r := by
                cases imm
                · exact hr
                · simp [row] at hr
              obtain ⟨b0, δ0, cs, T, fz, hloc, _, hrow⟩ := hs.heap.rows kk r hr'
              cases hx with
              | hp _ _ b δ g1 =>
                have : (b0, δ0) = (b, δ) := by
                  have := hloc.symm.trans g1
                  simpa using this
                simp only [Prod.mk.injEq] at this
                obtain ⟨rfl, rfl⟩ := this
                refine ⟨_, run _ _ _ rfl rfl, ?_, rfl, LpIn.plain (by simp) (by simp)⟩
                refine VR.hs _ _ _ _ _ b0 δ0 _ _ g1 (by omega) (Nat.le_refl _) (fun h => ⟨?_, ?_⟩)
                · rw [if_neg (by omega), Nat.add_assoc]
                · have h1 := hrow.block
                  have h2 := hrow.room
                  have h3 : p * sz + (k' - p) * sz = k' * sz := by rw [← Nat.add_mul]; congr 1; omega
                  simp only [bsize, h1]
                  omega
            · simp at hu
          · simp at hu
        · simp only [Option.some.injEq] at hu
          subst hu
          obtain ⟨b, hb', rfl⟩ := hx
          refine ⟨_, run _ _ _ rfl rfl, ?_, rfl, ?_⟩
          · refine ⟨b, _, _, hb', rfl, by omega, Nat.le_refl _, fun h => ?_⟩
            rw [if_neg (by omega)]
          · refine ⟨fun s o e => by simp at e, fun z s o m k e => ?_⟩
            simp at e
            rw [← e.2.1]
            exact hL.1 _ _ rfl
    · simp at ht
  · simp at hc

end
end Mir
