/- Each operation that leaves memory alone. Conditions: none. -/
import Derived.Test.YtbbgobliklljjaaOps
import Derived.Test.YtbbgobliklljjaaLim
set_option linter.unusedVariables false
set_option linter.unusedSimpArgs false
namespace Mir
open Go (Value Addr IntKind World Obj Act Program FuncId TypeId Operand Op Oper Code TypeDesc Sem Result)

theorem map_toNat_inj : ∀ (l m : List UInt8), l.map UInt8.toNat = m.map UInt8.toNat → l = m
  | [], [], _ => rfl
  | [], _ :: _, h => by simp at h
  | _ :: _, [], h => by simp at h
  | x :: l, y :: m, h => by
    simp only [List.map_cons, List.cons.injEq] at h
    rw [UInt8.toNat_inj.1 h.1, map_toNat_inj l m h.2]

theorem size_toNat {ba : ByteArray} {l : List Nat} (h : ba.data.toList.map UInt8.toNat = l) : ba.size = l.length := by
  subst h
  rw [List.length_map]
  rfl

section
variable {P : Program} {φ : Nat → Option FuncId} {ψ : Prim → FuncId → Bool} {B : Base} {n : Nat} {st : St} {a : Act} {w : World} {O : Nat → Prop} {loc : List (Nat × Nat)} {D : List Nat}

def PureR (P : Program) (φ : Nat → Option FuncId) (st : St) (a : Act) (w : World) (O : Nat → Prop) (loc : List (Nat × Nat)) (D : List Nat) (m : MOp) (o : Oper) (v : V) (h' : Heap) : Prop :=
  ∃ x, (Go.execOp a.eval o).run P w = .ok (.value x) w ∧ VL φ (CxOf w O loc) a.tmps v x ∧ h' = st.h ∧ LpIn (D ++ m.addrs) v

theorem LpIn_left {D D' : List Nat} {v : V} (h : LpIn D v) : LpIn (D ++ D') v := h.mono fun s hs => List.mem_append_left _ hs

theorem VRp {v : V} (h : ∃ (c : Cx) (x : Value), VR φ c v x) : LpIn D v := by
  obtain ⟨c, x, h⟩ := h
  cases h <;> exact LpIn.plain (by simp) (by simp)

theorem intT_und {t : TypeId} {k : IntKind} (h : intT P t = some k) : P.underlying t = some (.int k) := by
  unfold intT at h
  split at h <;> simp at h
  rename_i hh; rw [hh, h]

theorem sliceT_und {t e : TypeId} (h : sliceT P t = some e) : P.underlying t = some (.slice e) := by
  unfold sliceT at h
  split at h <;> simp at h
  rename_i hh; rw [hh, h]

theorem arrayT_und {t e : TypeId} {k : Nat} (h : arrayT P t = some (k, e)) : P.underlying t = some (.array k e) := by
  unfold arrayT at h
  split at h <;> simp at h
  rename_i hh; rw [hh, h.1, h.2]

theorem structT_und {t : TypeId} {fs : Array Go.Field} (h : structT P t = some fs) : P.underlying t = some (.struct fs) := by
  unfold structT at h
  split at h <;> simp at h
  rename_i hh; rw [hh, h]

theorem strT_und {t : TypeId} (h : strT P t = true) : P.underlying t = some .string := by
  unfold strT at h
  split at h <;> simp at h
  assumption

theorem toI_ok {cx : Cx} {t : Array Value} {X u : V} {A : Value} (hx : VL φ cx t X A) (hu : toI X = some u) : ∃ k z, A = .int k z ∧ VR φ cx u (.int .i64 (w64 z)) := by
  cases X <;> simp only [toI, Option.some.injEq, reduceCtorEq] at hu <;> subst hu
  · rename_i z
    cases hx with
    | i _ h1 h2 => exact ⟨_, z, rfl, by rw [show w64 z = z by unfold w64; omega]; exact .i z h1 h2⟩
  · cases hx
    exact ⟨_, _, rfl, .mkI _ _⟩

theorem toU_ok {cx : Cx} {t : Array Value} {X u : V} {A : Value} {wd : Nat} {kd : IntKind} (hk : ukind wd = some kd) (hx : VL φ cx t X A) (hu : toU wd X = some u) :
    ∃ k z, A = .int k z ∧ VR φ cx u (.int kd (kd.wrap z)) := by
  have hp := pow_pos wd
  cases X <;> simp only [toU, Option.some.injEq, reduceCtorEq] at hu <;> subst hu
  · rename_i z
    cases hx with
    | i _ h1 h2 =>
      refine ⟨_, z, rfl, ?_⟩
      rw [wrapU hk, show ((2 : Int) ^ wd) = ((2 ^ wd : Nat) : Int) by simp]
      have h3 : 0 ≤ z % ((2 ^ wd : Nat) : Int) := Int.emod_nonneg _ (by omega)
      have h4 : z % ((2 ^ wd : Nat) : Int) < ((2 ^ wd : Nat) : Int) := Int.emod_lt_of_pos _ (by omega)
      generalize z % ((2 ^ wd : Nat) : Int) = q at *
      have h5 : q = ((q.toNat : Nat) : Int) := by omega
      have := VR.u (φ := φ) (c := cx) wd q.toNat kd hk (by omega)
      rwa [← h5] at this
  · cases hx
    exact ⟨_, _, rfl, by rw [wrapU_nat hk]; exact .u _ _ _ hk (Nat.mod_lt _ hp)⟩

variable (hs : Sim φ B n st a w O loc D) {o : Oper} {c : Call} {v : V} {h' : Heap}
include hs

theorem mov_ok {y : Opd} (hc : chkOp P φ ψ o.op (.mov y) = true) (he : evalO c (.mov y) st.e st.h = some (v, h')) : PureR P φ st a w O loc D (.mov y) o v h' := by
  simp only [evalO, Option.some.injEq, Prod.mk.injEq] at he
  obtain ⟨rfl, rfl⟩ := he
  simp only [chkOp] at hc
  split at hc
  · rename_i x ho
    exact ⟨_, by simp [Go.execOp, ho], ev_VL hs hc, rfl, LpIn_left (LpIn_ev hs y (const_plain hc))⟩
  · rename_i x ho
    exact ⟨_, by simp [Go.execOp, ho], ev_VL hs hc, rfl, LpIn_left (LpIn_ev hs y (const_plain hc))⟩
  · rename_i b args ts ho
    unfold chkBuiltin at hc
    split at hc <;> rename_i heq <;> first | (simp only [reduceCtorEq] at heq; done) | (simp only [Bool.false_eq_true] at hc; done) | skip
    simp only [MOp.mov.injEq] at heq
    subst heq
    simp only [Bool.and_eq_true, beq_iff_eq] at hc
    obtain ⟨⟨rfl, hc⟩, hlen⟩ := hc
    obtain ⟨ax, hax⟩ := List.length_eq_one_iff.1 hlen
    split at hc
    · rename_i t rest hts
      cases hu : arrayT P t with
      | none => simp [hu] at hc
      | some q =>
        obtain ⟨k', e⟩ := q
        simp only [hu, Bool.and_eq_true, decide_eq_true_eq] at hc
        obtain ⟨rfl, hk⟩ := hc
        have hu' : P.underlying t = some (.array k' e) := by
          unfold arrayT at hu
          split at hu <;> simp at hu
          rename_i n' e' h1
          obtain ⟨rfl, rfl⟩ := hu; exact h1
        have hax' : args = #[ax] := by
          apply Array.ext'; simpa using hax
        have hts' : ts[0]? = some t := by
          have h2 : ts.toList[0]? = some t := by rw [hts]; rfl
          simpa using h2
        refine ⟨.int .i64 k', ?_, ?_, rfl, LpIn.plain (by simp [ev]) (by simp [ev])⟩
        · simp [Go.execOp, ho, Go.resolve, Go.invoke, Go.builtin, Go.Builtin.len_, hax', hts', run_und hu', Go.goInt]
        · exact VL_of_VR (.i _ (by omega) (by omega))
    · simp at hc
  · simp at hc

theorem pick_ok {x y z : Opd} (hc : chkOp P φ ψ o.op (.pick x y z) = true) (he : evalO c (.pick x y z) st.e st.h = some (v, h')) : PureR P φ st a w O loc D (.pick x y z) o v h' := by
  simp only [chkOp] at hc
  split at hc
  · rename_i x' y' z' ho
    simp only [Bool.and_eq_true] at hc
    obtain ⟨⟨h1, h2⟩, h3⟩ := hc
    have hx := ev_VL hs h1
    simp only [evalO] at he
    split at he
    · rename_i b hb
      rw [hb] at hx
      simp only [Option.some.injEq, Prod.mk.injEq] at he
      obtain ⟨rfl, rfl⟩ := he
      have hx : Value.bool b = a.eval x' := by
        generalize a.eval x' = A at hx
        cases hx; rfl
      refine ⟨if b then a.eval y' else a.eval z', ?_, ?_, rfl, ?_⟩
      · simp [Go.execOp, ho, ← hx, Go.asBool]
      · cases b
        · exact ev_VL hs h3
        · exact ev_VL hs h2
      · cases b
        · exact LpIn_left (LpIn_ev hs z (const_plain h3))
        · exact LpIn_left (LpIn_ev hs y (const_plain h2))
    · simp at he
  · simp at hc

theorem bin_ok {b : Bin} {x y : Opd} (hc : chkOp P φ ψ o.op (.bin b x y) = true) (he : evalO c (.bin b x y) st.e st.h = some (v, h')) : PureR P φ st a w O loc D (.bin b x y) o v h' := by
  simp only [chkOp] at hc
  split at hc
  · rename_i b' t x' y' t2 ho
    simp only [Bool.and_eq_true] at hc
    obtain ⟨⟨hb, h1⟩, h2⟩ := hc
    simp only [evalO, Option.map_eq_some_iff, Prod.mk.injEq] at he
    obtain ⟨u, hu, rfl, rfl⟩ := he
    have hx := ev_VL hs h1
    have hy := ev_VL hs h2
    generalize ev st.e x = X at *
    generalize ev st.e y = Y at *
    generalize hA : a.eval x' = A at *
    generalize hB : a.eval y' = Bv at *
    have run : ∀ (V : Value), (Go.eqGuard b' t x' y' A Bv).run P w = .ok () w → (Go.binOp b' t A Bv).run P w = .ok V w → (Go.execOp a.eval o).run P w = .ok (.value V) w := by
      intro V g1 g2
      simp [Go.execOp, ho, hA, hB, g1, g2]
    have fin : ∀ (V : Value), (Go.eqGuard b' t x' y' A Bv).run P w = .ok () w → (∃ V, (Go.binOp b' t A Bv).run P w = .ok V w ∧ VR φ (CxOf w O loc) u V) →
        PureR P φ st a w O loc D (.bin b x y) o u st.h := by
      rintro _ g1 ⟨V, g2, g3⟩
      exact ⟨V, run V g1 g2, VL_of_VR g3, rfl, VRp ⟨_, _, g3⟩⟩
    by_cases hsh : b = .shl ∨ b = .shr
    · have hxp : (∀ s o, X ≠ .lp s o) ∧ (∀ z s o m k, X ≠ .ls z s o m k) := by
        rcases hsh with rfl | rfl <;> cases X <;> simp [binV] at hu ⊢
      have hyp : (∀ s o, Y ≠ .lp s o) ∧ (∀ z s o m k, Y ≠ .ls z s o m k) := by
        rcases hsh with rfl | rfl <;> cases X <;> simp [binV] at hu <;> cases Y <;> simp [count] at hu ⊢
      have hX := VL_plain hx hxp.1 hxp.2
      have hY := VL_plain hy hyp.1 hyp.2
      refine fin Go.undef ?_ (shift_ok hb hsh hX hY hu t)
      rcases hsh with rfl | rfl <;> cases b' <;> first | (exact absurd hb (by decide)) | simp [Go.eqGuard]
    · have hns : b ≠ .shl ∧ b ≠ .shr := by simpa using hsh
      have hg : ∀ (k1 k2 : IntKind) (z1 z2 : Int), (Go.eqGuard b' t x' y' (.int k1 z1) (.int k2 z2)).run P w = .ok () w := by
        intro k1 k2 z1 z2; cases b' <;> simp [Go.eqGuard]
      cases X with
      | i m =>
        cases Y <;> (try (cases b <;> first | exact absurd rfl hns.1 | exact absurd rfl hns.2 | (simp [binV] at hu; done)))
        rename_i m2
        have hu' : arithI b m m2 = some u := by cases b <;> first | exact hu | exact absurd rfl hns.1 | exact absurd rfl hns.2
        cases hx with
        | i _ a1 a2 => cases hy with
          | i _ b1 b2 => exact fin Go.undef (hg _ _ _ _) (arithI_ok hb a1 a2 b1 b2 hns hu' t)
      | u wd m =>
        cases Y <;> (try (cases b <;> first | exact absurd rfl hns.1 | exact absurd rfl hns.2 | (simp [binV] at hu; done)))
        rename_i wd2 m2
        have hu' : (if wd = wd2 then arithU b wd m m2 else none) = some u := by cases b <;> first | exact hu | exact absurd rfl hns.1 | exact absurd rfl hns.2
        split at hu'
        · rename_i e
          subst e
          cases hx with
          | u _ _ k1 a1 a2 => cases hy with
            | u _ _ k2 b1 b2 =>
              rw [a1] at b1
              simp only [Option.some.injEq] at b1
              subst b1
              exact fin Go.undef (hg _ _ _ _) (arithU_ok hb a1 a2 b2 hns hu' t)
        · simp at hu'
      | s l =>
        cases Y <;> (try (cases b <;> first | exact absurd rfl hns.1 | exact absurd rfl hns.2 | (simp [binV] at hu; done)))
        rename_i l2
        cases hx with
        | s _ ba ha => cases hy with
          | s _ bb hbb =>
            have hgs : (Go.eqGuard b' t x' y' (.string ba) (.string bb)).run P w = .ok () w := by cases b' <;> simp [Go.eqGuard]
            have inj : (ba.toList == bb.toList) = (l == l2) := by
              rw [Go.ByteArray.toList_eq, Go.ByteArray.toList_eq, Bool.eq_iff_iff]
              simp only [beq_iff_eq]
              rw [← ha, ← hbb]
              constructor
              · intro e; rw [e]
              · intro e
                exact map_toNat_inj _ _ e
            cases b <;> simp only [binV, Option.some.injEq, reduceCtorEq] at hu <;> cases b' <;> first | (exact absurd hb (by decide)) | skip
            · split at hu
              · rename_i hlen
                simp only [Option.some.injEq] at hu
                subst hu
                have hsz : ba.size = l.length := size_toNat ha
                have hsz2 : bb.size = l2.length := size_toNat hbb
                refine fin Go.undef hgs ⟨.string (ba ++ bb), ?_, .s _ _ ?_⟩
                · simp only [Go.binOp, Go.Op.stringOp]
                  rw [if_neg (by rw [hsz, hsz2]; simp [IntKind.max, IntKind.signed, IntKind.bits]; omega)]
                  rfl
                · rw [ByteArray.data_append]; simp [ha, hbb]
              · simp at hu
            · refine fin Go.undef hgs ⟨_, rfl, ?_⟩
              subst hu; simp only [inj]; exact .b _
            · refine fin Go.undef hgs ⟨_, rfl, ?_⟩
              subst hu; simp only [inj]; exact .b _
      | _ => cases b <;> first | (exact absurd rfl hns.1) | (exact absurd rfl hns.2) | (simp [binV] at hu; done)
  · simp at hc


theorem eqv_okR {k : EqK} {neg : Bool} {x y : Opd} (hc : chkOp P φ ψ o.op (.eqv k neg x y) = true) (he : evalO c (.eqv k neg x y) st.e st.h = some (v, h')) :
    PureR P φ st a w O loc D (.eqv k neg x y) o v h' := by
  simp only [chkOp] at hc
  split at hc
  · rename_i b' t x' y' t2 ho
    simp only [Bool.and_eq_true, Bool.not_eq_true'] at hc
    obtain ⟨⟨⟨⟨hb, h1⟩, h2⟩, hg⟩, ht⟩ := hc
    simp only [evalO, Option.map_eq_some_iff, Prod.mk.injEq] at he
    obtain ⟨u, hu, rfl, rfl⟩ := he
    have hx := ev_VL hs h1
    have hy := ev_VL hs h2
    have hX := VL_plain hx (by intro s o e; rw [e] at hu; cases k <;> simp [eqV] at hu) (by intro z s o m k' e; rw [e] at hu; cases k <;> simp [eqV] at hu)
    have hY := VL_plain hy (by intro s o e; rw [e] at hu; cases k <;> cases hxx : ev st.e x <;> simp [eqV, hxx] at hu) (by intro z s o m k' e; rw [e] at hu; cases k <;> cases hxx : ev st.e x <;> simp [eqV, hxx] at hu)
    have h3 := eqv_ok hX hY hu hg ht x' y' b' neg hb w
    refine ⟨.bool (u != neg), ?_, VL_of_VR (.b _), rfl, LpIn.plain (by simp) (by simp)⟩
    simp only [Go.execOp, ho, Go.Sem.run_bind, h3, Result.andThen_ok, Go.Sem.run_pure]
  · simp at hc

theorem un_okR {k : Un} {x : Opd} (hc : chkOp P φ ψ o.op (.un k x) = true) (he : evalO c (.un k x) st.e st.h = some (v, h')) : PureR P φ st a w O loc D (.un k x) o v h' := by
  simp only [chkOp] at hc
  split at hc
  · rename_i u' t x' ho
    simp only [Bool.and_eq_true] at hc
    simp only [evalO, Option.map_eq_some_iff, Prod.mk.injEq] at he
    obtain ⟨u, hu, rfl, rfl⟩ := he
    have hX := VL_plain (ev_VL hs hc.2) (by intro s o e; rw [e] at hu; cases k <;> simp [unV] at hu) (by intro z s o m k' e; rw [e] at hu; cases k <;> simp [unV] at hu)
    obtain ⟨V, h1, h2⟩ := unV_ok (P := P) (w := w) hX hu hc.1
    exact ⟨V, by simp [Go.execOp, ho, h1], VL_of_VR h2, rfl, VRp ⟨_, _, h2⟩⟩
  · simp at hc

theorem cvi_okR {x : Opd} (hc : chkOp P φ ψ o.op (.cvi x) = true) (he : evalO c (.cvi x) st.e st.h = some (v, h')) : PureR P φ st a w O loc D (.cvi x) o v h' := by
  simp only [chkOp] at hc
  split at hc
  · rename_i s d x' ho
    simp only [Bool.and_eq_true, beq_iff_eq] at hc
    obtain ⟨⟨h1, hsrc⟩, hdst⟩ := hc
    obtain ⟨sd, hsd⟩ := Option.isSome_iff_exists.1 hsrc
    simp only [evalO, Option.map_eq_some_iff, Prod.mk.injEq] at he
    obtain ⟨u, hu, rfl, rfl⟩ := he
    obtain ⟨k, z, hA, hR⟩ := toI_ok (ev_VL hs h1) hu
    refine ⟨_, ?_, VL_of_VR hR, rfl, VRp ⟨_, _, hR⟩⟩
    simp only [Go.execOp, ho, hA, Go.convert, Go.Sem.run_bind, run_und hsd, run_und (intT_und hdst), Result.andThen_ok, Go.Conv.intToInt, Go.Sem.run_pure, wrapI]
  · simp at hc

theorem cvu_okR {wd : Nat} {x : Opd} (hc : chkOp P φ ψ o.op (.cvu wd x) = true) (he : evalO c (.cvu wd x) st.e st.h = some (v, h')) : PureR P φ st a w O loc D (.cvu wd x) o v h' := by
  simp only [chkOp] at hc
  split at hc
  · rename_i s d x' ho
    simp only [Bool.and_eq_true] at hc
    obtain ⟨⟨h1, hsrc⟩, hdst⟩ := hc
    split at hdst
    · rename_i k hk
      simp only [beq_iff_eq] at hdst
      obtain ⟨sd, hsd⟩ := Option.isSome_iff_exists.1 hsrc
      simp only [evalO, Option.map_eq_some_iff, Prod.mk.injEq] at he
      obtain ⟨u, hu, rfl, rfl⟩ := he
      obtain ⟨k', z, hA, hR⟩ := toU_ok hdst (ev_VL hs h1) hu
      refine ⟨_, ?_, VL_of_VR hR, rfl, VRp ⟨_, _, hR⟩⟩
      simp only [Go.execOp, ho, hA, Go.convert, Go.Sem.run_bind, run_und hsd, run_und (intT_und hk), Result.andThen_ok, Go.Conv.intToInt, Go.Sem.run_pure]
    · simp at hdst
  · simp at hc

/-- A slice's cells, as they lie in memory. -/
theorem sliceCells_ok {X : V} {A : Value} (hx : VL φ (CxOf w O loc) a.tmps X A) {h : Heap} (hh : h = st.h ∨ h = []) {l : List V} (hl : sliceCells h X = some l) :
    (A = .slice none 0 0 ∧ l = [] ∧ lenV X = some 0) ∨ ∃ ad len cap, A = .slice (some ad) len cap ∧ lenV X = some len ∧
      ((l = [] ∧ len = 0) ∨ ∃ b o, ad = ⟨b, o, none⟩ ∧ ∃ y : Nat → Value, (∀ j, j < l.length → w.cell? ⟨b, o + j, none⟩ = some (y j)) ∧ (∀ j (h : j < l.length), VR φ (CxOf w O loc) l[j] (y j))) := by
  cases X <;> simp only [sliceCells, Option.some.injEq, reduceCtorEq] at hl
  · subst hl
    cases hx
    exact .inl ⟨rfl, rfl, rfl⟩
  · subst hl
    cases hx with
    | vsn => exact .inl ⟨rfl, rfl, rfl⟩
    | vs0 ad cap => exact .inr ⟨ad, 0, cap, rfl, rfl, .inl ⟨rfl, rfl⟩⟩
    | vs _ _ b o cap y h0 h1 h2 h3 =>
      exact .inr ⟨_, _, cap, rfl, rfl, .inr ⟨b, o, rfl, y, fun j hj => by rw [← cellH_cell]; exact h2 j hj, h3⟩⟩
  · rename_i sz k off len cap
    cases hr : row h k with
    | none => simp [hr] at hl
    | some r =>
      simp only [hr] at hl
      split at hl
      · rename_i hle
        simp only [Option.some.injEq] at hl
        have hr' : row st.h k = some r := by
          rcases hh with rfl | rfl
          · exact hr
          · simp [row] at hr
        obtain ⟨b, δ, cs, T, fz, hloc, hown, hrow⟩ := hs.heap.rows k r hr'
        obtain ⟨y, hy1, hy2⟩ := hrow.cells (w := w) rfl
        cases hx with
        | hs _ _ _ _ _ b' δ' cap' ad e1 e2 e3 e4 =>
          have : (b', δ') = (b, δ) := by
            have := e1.symm.trans hloc
            simpa using this
          simp only [Prod.mk.injEq] at this
          obtain ⟨rfl, rfl⟩ := this
          rcases Nat.eq_zero_or_pos cap' with h0 | h0
          · have : len = 0 := by omega
            subst this
            exact .inr ⟨ad, 0, cap', rfl, rfl, .inl ⟨by rw [← hl]; simp, rfl⟩⟩
          · refine .inr ⟨ad, len, cap', rfl, rfl, .inr ⟨b', δ' + off, (e4 h0).1, fun j => y (off + j), ?_, ?_⟩⟩
            · intro j hj
              rw [← hl] at hj
              simp at hj
              rw [Nat.add_assoc]
              exact hy1 _ (by omega)
            · intro j hj
              have hj2 := hj
              rw [← hl] at hj2
              simp at hj2
              have : l[j] = r[off + j] := by
                subst hl
                simp
              rw [this]
              exact hy2 _ _
      · simp at hl

omit hs in
theorem byteOf_ok {cx : Cx} {v : V} {x : Value} (h : VR φ cx v x) {k : Nat} (hk : byteOf v = some k) : x = .int .u8 k ∧ k < 256 := by
  cases h <;> simp only [byteOf, reduceCtorEq] at hk
  rename_i wd m kk h1 h2
  split at hk <;> simp at hk
  rename_i heq
  simp at heq
  obtain ⟨rfl, rfl⟩ := heq
  subst hk
  simp [ukind] at h1
  subst h1
  exact ⟨rfl, h2⟩

omit hs in
theorem mapM_byteOf : ∀ (l : List V) (bs : List Nat), l.mapM byteOf = some bs → bs.length = l.length ∧ ∀ j (h : j < l.length) (h' : j < bs.length), byteOf l[j] = some bs[j]
  | [], bs, h => by simp at h; subst h; exact ⟨rfl, fun j h => absurd h (by simp)⟩
  | v :: l, bs, h => by
    simp only [List.mapM_cons, Option.bind_eq_bind, Option.pure_def, Option.bind_eq_some_iff] at h
    obtain ⟨k, hk, m, hm, he⟩ := h
    simp only [Option.some.injEq] at he
    subst he
    obtain ⟨h1, h2⟩ := mapM_byteOf l m hm
    refine ⟨by simp [h1], fun j hj hj' => ?_⟩
    cases j with
    | zero => exact hk
    | succ j => exact h2 j (by simpa using hj) (by simpa using hj')

omit hs in
theorem foldl_bytes : ∀ (ns : List Nat) (s : ByteArray), (∀ k ∈ ns, k < 256) →
    ((ns.map (fun k : Nat => (k : Int))).foldl (fun r n => r.push (UInt8.ofNat n.toNat)) s).data.toList.map UInt8.toNat = s.data.toList.map UInt8.toNat ++ ns
  | [], s, _ => by simp
  | k :: ns, s, h => by
    simp only [List.map_cons, List.foldl_cons]
    rw [foldl_bytes ns _ (fun q hq => h q (by simp [hq]))]
    have hk := h k (by simp)
    simp [ByteArray.push, UInt8.toNat_ofNat, Nat.mod_eq_of_lt hk]

theorem b2s_okR {imm : Bool} {x : Opd} (hc : chkOp P φ ψ o.op (.b2s imm x) = true) (he : evalO c (.b2s imm x) st.e st.h = some (v, h')) : PureR P φ st a w O loc D (.b2s imm x) o v h' := by
  simp only [chkOp] at hc
  split at hc
  · rename_i s d x' ho
    simp only [Bool.and_eq_true] at hc
    obtain ⟨⟨h1, hdst⟩, hsrc⟩ := hc
    split at hsrc
    · rename_i e hse
      simp only [beq_iff_eq] at hsrc
      have hx := ev_VL hs h1
      simp only [evalO] at he
      cases hl : sliceCells (if imm then [] else st.h) (ev st.e x) with
      | none => simp [hl] at he
      | some l =>
        simp only [hl] at he
        cases hm : l.mapM byteOf with
        | none => simp [hm] at he
        | some bs =>
          simp only [hm] at he
          split at he
          case isFalse => simp at he
          rename_i hlv
          simp only [Option.some.injEq, Prod.mk.injEq] at he
          obtain ⟨rfl, rfl⟩ := he
          obtain ⟨hb1, hb2⟩ := mapM_byteOf l bs hm
          have conv : ∀ A V, a.eval x' = A → (∃ p q r, A = .slice p q r) → (Go.Conv.bytesToString A).run P w = .ok V w → (Go.execOp a.eval o).run P w = .ok (.value V) w := by
            rintro A V hA ⟨p, q, r, rfl⟩ hV
            simp only [Go.execOp, ho, hA, Go.Sem.run_bind, Go.run_convert_bytes_string w s d e p q r (sliceT_und hse) (intT_und hsrc) (strT_und hdst), hV, Result.andThen_ok, Go.Sem.run_pure]
          rcases sliceCells_ok hs hx (by cases imm <;> simp) hl with ⟨hA, hl0, _⟩ | ⟨ad, len, cap, hA, hlen, hcells⟩
          · subst hl0
            simp at hm; subst hm
            exact ⟨_, conv _ _ hA ⟨_, _, _, rfl⟩ rfl, VL_of_VR (.s _ _ rfl), rfl, LpIn.plain (by simp) (by simp)⟩
          · have hll : l.length = len := by
              rw [hlen] at hlv
              simp only [Option.some.injEq] at hlv
              omega
            refine ⟨_, conv _ _ hA ⟨_, _, _, rfl⟩ (Go.run_bytesToString w ad len cap (bs.map fun k : Nat => (k : Int)) ?_), VL_of_VR (.s _ _ ?_), rfl, LpIn.plain (by simp) (by simp)⟩
            · rcases hcells with ⟨hl0, h0⟩ | ⟨b, off, rfl, y, hy1, hy2⟩
              · subst hl0; subst h0
                simp at hm; subst hm
                simp [Go.loadCells, Go.loadCellsFrom]
              · rw [← hll, Go.run_loadCells w ⟨b, off, none⟩ l.length y (fun j hj => by rw [addr_add]; exact hy1 j hj)]
                congr 2
                apply List.ext_getElem
                · simp [hb1]
                · intro j hj hj'
                  simp at hj hj'
                  have h3 := byteOf_ok (hy2 j hj) (hb2 j hj (by omega))
                  simp [h3.1]
            · rw [foldl_bytes]
              · rfl
              · intro k hk
                obtain ⟨j, hj, rfl⟩ := List.getElem_of_mem hk
                rcases hcells with ⟨hl0, h0⟩ | ⟨b, off, rfl, y, hy1, hy2⟩
                · subst hl0; simp at hm; subst hm; simp at hj
                · exact (byteOf_ok (hy2 j (by omega)) (hb2 j (by omega) hj)).2
    · simp at hsrc
  · simp at hc

end
end Mir
