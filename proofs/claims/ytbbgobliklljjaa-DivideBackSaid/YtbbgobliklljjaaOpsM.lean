/- The operations that make or write memory. Conditions: none. -/
import Derived.Test.YtbbgobliklljjaaMem2
set_option linter.unusedVariables false
set_option linter.unusedSimpArgs false
namespace Mir
open Go (Value Addr IntKind World Obj Act Program FuncId TypeId Operand Op Oper Code TypeDesc Sem Result)

/-- What an operation leads to. -/
def StepOk (P : Program) (φ : Nat → Option FuncId) (B : Base) (n : Nat) (o : Oper) (a : Act) (w : World) (st' : St) (D' : List Nat) : Prop :=
  ∀ (K : Act → World → Prop) (Q : Go.Exit → Act → World → Prop), (∀ a' w' O' loc', Sim φ B n st' a' w' O' loc' D' → K a' w') → o.wp P a w K Q

section
variable {P : Program} {φ : Nat → Option FuncId} {ψ : Prim → FuncId → Bool} {B : Base} {n : Nat} {st : St} {a : Act} {w : World} {O : Nat → Prop} {loc : List (Nat × Nat)} {D : List Nat}

theorem cells_box {c : Cx} {v : V} {x : Value} (h : VR φ c v x) (hb : boxable v = true) : VRa φ c (cells v) x.cells := by
  have one : ∀ (h : VR φ c v x), cells v = [v] → x.cells = #[x] → VRa φ c (cells v) x.cells := by
    intro h e1 e2
    rw [e1, e2]
    refine ⟨rfl, fun j h1 h2 => ?_⟩
    have : j = 0 := by simp at h1; omega
    subst this; exact h
  cases h with
  | agg l cs h1 h2 => exact ⟨h1, h2⟩
  | tup l cs h1 h2 => simp [boxable] at hb
  | undef x => simp [boxable] at hb
  | i n h1 h2 => exact one (.i n h1 h2) rfl rfl
  | u w n k h1 h2 => exact one (.u w n k h1 h2) rfl rfl
  | b x => exact one (.b x) rfl rfl
  | s l ba h => exact one (.s l ba h) rfl rfl
  | nilp => exact one .nilp rfl rfl
  | vr l off b δ y h1 h2 h3 => exact one (.vr l off b δ y h1 h2 h3) rfl rfl
  | hp k off b δ h => exact one (.hp k off b δ h) rfl rfl
  | nils => exact one .nils rfl rfl
  | vsn => exact one .vsn rfl rfl
  | vs0 a cap => exact one (.vs0 a cap) rfl rfl
  | vs n l b o cap y h0 h1 h2 h3 => exact one (.vs n l b o cap y h0 h1 h2 h3) rfl rfl
  | hs sz k off len cap b δ cap' ad h1 h2 h3 h4 => exact one (.hs sz k off len cap b δ cap' ad h1 h2 h3 h4) rfl rfl
  | fn f F l m xs ys h1 h2 h3 h4 h5 => exact one (.fn f F l m xs ys h1 h2 h3 h4 h5) rfl rfl

theorem boxable_plain {v : V} (h : boxable v = true) : plainV v = true := by cases v <;> simp [boxable] at h <;> rfl

def isBox (m : MOp) (x : Opd) : Prop := m = .box x ∨ m = .boxv x ∨ m = .boxh x

theorem run_box (hs : Sim φ B n st a w O loc D) {o : Oper} {m : MOp} {x : Opd} (hm : isBox m x) (hc : chkOp P φ ψ o.op m = true) :
    ∃ T X, (Go.execOp a.eval o).run P w = .ok (.value (ptrV w.heap.size 0)) (w.alloc (.cells X.cells T)) ∧ VL φ (CxOf w O loc) a.tmps (ev st.e x) X := by
  have hc' : chkBox P φ o.op x = true := by
    rcases hm with rfl | rfl | rfl <;> exact hc
  clear hc hm
  unfold chkBox at hc'
  split at hc'
  · rename_i T x' ho
    exact ⟨T, a.eval x', by simp [Go.execOp, ho, Go.Instr.box, Go.newVar, Go.newRow], ev_VL hs hc'⟩
  · rename_i t ho
    split at hc'
    · rename_i v zv hz
      cases hi : P.info? t with
      | none => simp [hi] at hz
      | some it =>
        simp only [hi, Option.bind_some] at hz
        exact ⟨t, zv, by simp [Go.execOp, ho, Go.Instr.alloc, Go.newVar, Go.newRow, Go.zeroValue, Go.typeInfo, hi, hz], VL_of_VR (VR_of_chkV _ _ _ hc')⟩
    · simp at hc'
  · simp at hc'

theorem freeze_new (w : World) (cs : Array Value) (T : TypeId) (k : Nat) : (w.alloc (.cells cs T)).freeze { block := w.heap.size, off := k } 1 = w.alloc (.cells cs T (k, k + 1)) := by
  simp only [World.freeze, World.alloc, Nat.one_ne_zero, if_false]
  congr 1
  apply Array.ext
  · simp
  · intro i h1 h2
    simp at h1 h2
    rw [Array.getElem_modify]
    by_cases e : w.heap.size = i
    · subst e; simp
    · have : i < w.heap.size := by omega
      simp [e, Array.getElem_push_lt this]

variable (hs : Sim φ B n st a w O loc D) {o : Oper} {c : Call} {v : V} {h' : Heap}
include hs

theorem box_step {x : Opd} (hc : chkOp P φ ψ o.op (.box x) = true) (he : evalO c (.box x) st.e st.h = some (v, h')) {d : Nat} (hd : o.dst = some d) (hn : d < n) (hD : d ∉ D) :
    StepOk P φ B n o a w ⟨put (some d) v st.e, h'⟩ D := by
  intro K Q hK
  obtain ⟨T, X, hrun, hX⟩ := run_box hs (.inl rfl) hc
  simp only [evalO] at he
  split at he
  · rename_i hb
    simp only [Option.some.injEq, Prod.mk.injEq] at he
    obtain ⟨rfl, rfl⟩ := he
    refine wp_val hrun ?_
    rw [hd]
    exact hK _ _ _ _ (hs.alloc_loc (cells_box (VL_plainV hX (boxable_plain hb)) hb) hn hD)
  · simp at he

omit hs in
/-- A slot is given the value that an operation came to, after memory has changed. -/
theorem put_step {st1 : St} {w1 : World} {O1 : Nat → Prop} {loc1 : List (Nat × Nat)} (hs1 : Sim φ B n st1 a w1 O1 loc1 D) {x : Value} (hv : VL φ (CxOf w1 O1 loc1) a.tmps v x) (A : List Nat)
    (hL : LpIn (D ++ A) v) (hd : ∀ d, o.dst = some d → d < n ∧ d ∉ D ++ A) : Sim φ B n ⟨put o.dst v st1.e, st1.h⟩ (a.put o.dst x) w1 O1 loc1 (D ++ A) := by
  cases hdst : o.dst with
  | none => exact hs1.more _ (fun s h => List.mem_append_left _ h)
  | some d =>
    obtain ⟨h1, h2⟩ := hd d hdst
    exact hs1.put hv h1 (fun h => h2 (List.mem_append_left _ h)) _ (fun s h => List.mem_append_left _ h)
      (fun s o e => ⟨hL.1 s o e, fun e' => h2 (e' ▸ hL.1 s o e)⟩) (fun z s o m k e => ⟨hL.2 z s o m k e, fun e' => h2 (e' ▸ hL.2 z s o m k e)⟩)

theorem pure_step {m : MOp} (hp : PureR P φ st a w O loc D m o v h') (hd : ∀ d, o.dst = some d → d < n ∧ d ∉ D ++ m.addrs) : StepOk P φ B n o a w ⟨put o.dst v st.e, h'⟩ (D ++ m.addrs) := by
  intro K Q hK
  obtain ⟨x, hrun, hv, rfl, hL⟩ := hp
  exact wp_val hrun (hK _ _ _ _ (put_step hs hv _ hL hd))

theorem boxv_step {x : Opd} (hc : chkOp P φ ψ o.op (.boxv x) = true) (he : evalO c (.boxv x) st.e st.h = some (v, h')) (hd : ∀ d, o.dst = some d → d < n ∧ d ∉ D ++ []) :
    StepOk P φ B n o a w ⟨put o.dst v st.e, h'⟩ (D ++ []) := by
  intro K Q hK
  obtain ⟨T, X, hrun, hX⟩ := run_box hs (.inr (.inl rfl)) hc
  simp only [evalO] at he
  split at he
  · rename_i hb
    simp only [Option.some.injEq, Prod.mk.injEq] at he
    obtain ⟨rfl, rfl⟩ := he
    refine wp_val hrun (hK _ _ _ _ (put_step (hs.alloc_imm _) (VL_of_VR (VR.vr_new hs.own (cells_box (VL_plainV hX (boxable_plain hb)) hb) T 0)) [] (LpIn.plain (by simp) (by simp)) hd))
  · simp at he

theorem VR.hp_new (l : List V) (cs : Array Value) (T : TypeId) (fz : Nat × Nat) (o : Nat) :
    VR φ (CxOf (w.alloc (.cells cs T fz)) (addO O w.heap.size) (loc ++ [(w.heap.size, 0)])) (.hp st.h.length o) (ptrV w.heap.size o) := by
  have hlen := hs.heap.len
  simp only [CxOf] at hlen
  have := VR.hp (φ := φ) (c := CxOf (w.alloc (.cells cs T fz)) (addO O w.heap.size) (loc ++ [(w.heap.size, 0)])) st.h.length o w.heap.size 0 (by simp [CxOf, hlen])
  rwa [Nat.zero_add] at this

theorem VR.hs_new (cs : Array Value) (T : TypeId) (fz : Nat × Nat) (sz len cap cap' : Nat) (h1 : len ≤ cap) (h2 : cap ≤ cap') (h3 : cap' * sz ≤ cs.size) :
    VR φ (CxOf (w.alloc (.cells cs T fz)) (addO O w.heap.size) (loc ++ [(w.heap.size, 0)])) (.hs sz st.h.length 0 len cap) (.slice (some ⟨w.heap.size, 0, none⟩) len cap') := by
  have hlen := hs.heap.len
  simp only [CxOf] at hlen
  exact VR.hs _ _ _ _ _ w.heap.size 0 _ _ (by simp [CxOf, hlen]) h1 h2 (fun _ => ⟨rfl, by have := ha_new w (.cells cs T fz); simp only [bsize, CxOf, this]; omega⟩)

theorem boxh_step {x : Opd} (hc : chkOp P φ ψ o.op (.boxh x) = true) (he : evalO c (.boxh x) st.e st.h = some (v, h')) (hd : ∀ d, o.dst = some d → d < n ∧ d ∉ D ++ []) :
    StepOk P φ B n o a w ⟨put o.dst v st.e, h'⟩ (D ++ []) := by
  intro K Q hK
  obtain ⟨T, X, hrun, hX⟩ := run_box hs (.inr (.inr rfl)) hc
  simp only [evalO] at he
  split at he
  · rename_i hb
    simp only [Option.some.injEq, Prod.mk.injEq] at he
    obtain ⟨rfl, rfl⟩ := he
    have hc := cells_box (VL_plainV hX (boxable_plain hb)) hb
    have h1 := hs.alloc_row (l := cells (ev st.e x)) (cs := X.cells) (T := T) (fz := (0, 0)) (by rw [hc.1]; exact Nat.le_refl _) (VRa_iff.1 hc).2 (fun j _ h => by simp at h)
    refine wp_val hrun (hK _ _ _ _ (put_step h1 (VL_of_VR (VR.hp_new hs (cells (ev st.e x)) X.cells T (0, 0) 0)) [] (LpIn.plain (by simp) (by simp)) hd))
  · simp at he

theorem s2b_step {x : Opd} (hc : chkOp P φ ψ o.op (.s2b x) = true) (he : evalO c (.s2b x) st.e st.h = some (v, h')) (hd : ∀ d, o.dst = some d → d < n ∧ d ∉ D ++ []) :
    StepOk P φ B n o a w ⟨put o.dst v st.e, h'⟩ (D ++ []) := by
  intro K Q hK
  simp only [chkOp] at hc
  split at hc
  · rename_i s d x' ho
    simp only [Bool.and_eq_true] at hc
    obtain ⟨⟨h1, hsrc⟩, hdst⟩ := hc
    split at hdst
    · rename_i e hde
      simp only [beq_iff_eq] at hdst
      have hx := ev_VL hs h1
      simp only [evalO] at he
      split at he
      · rename_i l hl
        simp only [Option.some.injEq, Prod.mk.injEq] at he
        obtain ⟨rfl, rfl⟩ := he
        rw [hl] at hx
        generalize hA : a.eval x' = A at hx
        cases hx with
        | s _ ba hba =>
          have hsz := size_toNat hba
          have hcap : ba.size ≤ (Go.Question.appendCap ba.size 0 e).cut (w.tape w.drawn (.appendCap ba.size 0 e)) := by simp [Go.Question.cut]
          generalize hcp : (Go.Question.appendCap ba.size 0 e).cut (w.tape w.drawn (.appendCap ba.size 0 e)) = cap at hcap
          let cs : Array Value := (ba.data.map fun b => .int .u8 b.toNat) ++ Array.replicate (cap - ba.size) (.int .u8 0)
          have hcs : cs.size = cap := by
            have : ba.data.size = ba.size := rfl
            simp [cs]; omega
          have hv : ∀ (j : Nat) v x, (l.map (V.u 8))[j]? = some v → cs[j]? = some x → VR φ (CxOf w.drew O loc) v x := by
            intro j v x hv hx
            obtain ⟨hj, rfl⟩ := List.getElem?_eq_some_iff.1 hv
            simp at hj
            have hj2 : j < ba.data.size := by
              have : ba.data.size = ba.size := rfl
              omega
            have : cs[j]? = some (.int .u8 (ba.data[j]).toNat) := by
              have hj3 : j < ba.size := hj2
              simp [cs, Array.getElem?_append, hj2, hj3]
            rw [this] at hx
            simp at hx
            subst hx
            have hlj : l[j] = (ba.data[j]).toNat := by subst hba; simp
            simp only [List.getElem_map, hlj]
            exact .u 8 _ .u8 rfl (UInt8.toNat_lt _)
          have hrun : (Go.execOp a.eval o).run P w = .ok (.value (.slice (some ⟨w.heap.size, 0, none⟩) ba.size cap)) (w.drew.alloc (.cells cs e (cap, cap + 1))) := by
            simp only [Go.execOp, ho, hA, Go.convert, Go.Sem.run_bind, run_und (strT_und hsrc), run_und (sliceT_und hde), run_und (intT_und hdst), Result.andThen_ok, Go.Conv.stringToBytes, Go.run_choose, Go.Question.forced, Bool.false_eq_true, if_false, hcp]
            have hf := freeze_new w.drew cs e cap
            have hshape : (w.drew.alloc (.cells cs e)).shape? w.heap.size = some (e, cap) := by
              have := ha_new w.drew (.cells cs e)
              simp only [World.shape?]
              rw [show (w.drew.alloc (.cells cs e)).heap[w.heap.size]? = some (.cells cs e) from this]
              simp [hcs]
            have hmk : (Go.markStringish ⟨w.heap.size, 0, none⟩).run P (w.drew.alloc (.cells cs e)) = .ok () (w.drew.alloc (.cells cs e (cap, cap + 1))) := by
              simp only [Go.markStringish, Go.Sem.run_bind, Go.run_shape, hshape, Result.andThen_ok, Go.run_freeze]
              exact congrArg _ hf
            have hnr : (Go.newRow e cs).run P w.drew = .ok ⟨w.heap.size, 0, none⟩ (w.drew.alloc (.cells cs e)) := rfl
            have hnr' : (Go.newRow e (Array.map (fun b => Value.int IntKind.u8 (b.toNat : Int)) ba.data ++ Array.replicate (cap - ba.size) (Value.int IntKind.u8 0))).run P w.drew = .ok ⟨w.heap.size, 0, none⟩ (w.drew.alloc (.cells cs e)) := hnr
            simp only [World.drew_eq, hnr', Result.andThen_ok, hmk, Go.Sem.run_pure]
          have h1 := hs.drew.alloc_row (l := l.map (.u 8)) (cs := cs) (T := e) (fz := (cap, cap + 1)) (by simp; omega) hv (fun j hj h => by simp at h; omega)
          refine wp_val hrun (hK _ _ _ _ (put_step h1 (VL_of_VR ?_) [] (LpIn.plain (by simp) (by simp)) hd))
          rw [hsz]
          exact VR.hs_new hs.drew cs e (cap, cap + 1) 1 l.length l.length cap (Nat.le_refl _) (by omega) (by omega)
      · simp at he
    · simp at hdst
  · simp at hc

end
end Mir
