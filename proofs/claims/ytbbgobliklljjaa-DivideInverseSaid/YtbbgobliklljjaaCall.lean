/- Calls of the program's own functions. Conditions: none. -/
import Derived.Test.YtbbgobliklljjaaOpsU
set_option linter.unusedVariables false
set_option linter.unusedSimpArgs false
namespace Mir
open Go (Value Addr IntKind World Obj Act Program FuncId TypeId Operand Op Oper Code TypeDesc Sem Result)

/-- A call's beginning: what may be written is what rows lie in. -/
def baseOf (w : World) (O : Nat → Prop) (loc : List (Nat × Nat)) (H : Heap) : Base :=
  ⟨w, fun b => ∃ k r δ, row H k = some r ∧ loc[k]? = some (b, δ), O, loc⟩

/-- What a call leaves. -/
def Left (φ : Nat → Option FuncId) (B : Base) (v : V) (H' : Heap) (x : Value) (w' : World) : Prop :=
  ∃ O' loc', VR φ (CxOf w' O' loc') v x ∧ HR φ H' (CxOf w' O' loc') ∧ (∀ b, O' b → b < w'.heap.size) ∧ KeptW B w' ∧ ExtB B O' loc' ∧
    (∀ k r b δ, row H' k = some r → loc'[k]? = some (b, δ) → B.live b ∨ B.w.heap.size ≤ b)

def CallOk (P : Program) (φ : Nat → Option FuncId) (c : Nat → List V → Heap → Option (V × Heap)) : Prop :=
  ∀ f F args H v H', φ f = some F → c f args H = some (v, H') → ∀ (vals : Array Value) (w : World) (O : Nat → Prop) (loc : List (Nat × Nat)),
    HR φ H (CxOf w O loc) → (∀ b, O b → b < w.heap.size) → VRs φ (CxOf w O loc) args vals.toList →
    Go.Calls P F vals w fun | .returned x, w' => Left φ (baseOf w O loc H) v H' x w' | _, _ => False

section
variable {P : Program} {φ : Nat → Option FuncId} {ψ : Prim → FuncId → Bool} {B : Base} {n : Nat} {st : St} {a : Act} {w : World} {O : Nat → Prop} {loc : List (Nat × Nat)} {D : List Nat}

theorem run_callFunc_body {F : FuncId} (h : bodyOk P F = true) (args : Array Value) (w : World) : (Go.callFunc F args).run P w = .ok (.enter F args) w := by
  unfold bodyOk at h
  split at h
  · rename_i fn hf
    simp only [Bool.and_eq_true, bne_iff_ne, ne_eq] at h
    have h2 : fn.body.isNone = false := by cases hb : fn.body <;> simp [hb] at h ⊢
    have h3 : fn.body ≠ none := by intro e; simp [e] at h2
    simp [Go.callFunc, hf, h.2, h3, Go.Sem.run]
  · simp at h

theorem bodyOk_func {F : FuncId} (h : bodyOk P F = true) : ∃ fn c, P.funcs[F]? = some fn ∧ fn.body = some c := by
  unfold bodyOk at h
  split at h
  · rename_i fn hf
    simp only [Bool.and_eq_true] at h
    obtain ⟨c, hc⟩ := Option.isSome_iff_exists.1 h.1
    exact ⟨fn, c, hf, hc⟩
  · simp at h

theorem VR_san {c : Cx} {t : Array Value} {v : V} {x : Value} (h : VL φ c t v x) : VR φ c (san v) x := by
  cases v <;> simp only [san] <;> first | exact h | exact .undef _ | exact h.elim

theorem VRs_san (hs : Sim φ B n st a w O loc D) {xs : List Operand} {ys : List Opd} (h : chkXs φ xs ys = true) :
    VRs φ (CxOf w O loc) ((evAll st.e ys).map san) (xs.map a.eval) := by
  obtain ⟨h1, h2⟩ := evAll_ok hs xs ys h
  refine ⟨by simp [evAll, h1], fun j hj hj' => ?_⟩
  simp [evAll] at hj hj'
  have h3 := h2 j hj hj'
  simp only [evAll, List.getElem_map]
  exact VR_san h3

/-- After a call that saw the whole small heap. -/
theorem Sim.called (hs : Sim φ B n st a w O loc D) {v : V} {H' : Heap} {x : Value} {w' : World} (h : Left φ (baseOf w O loc st.h) v H' x w') :
    ∃ O' loc', Sim φ B n ⟨st.e, H'⟩ a w' O' loc' D ∧ VR φ (CxOf w' O' loc') v x := by
  obtain ⟨O', loc', hv, hh, ho, hk, he, hf⟩ := h
  refine ⟨O', loc', hs.world ?_ ?_ hh ?_ ?_ ho ?_ ?_, hv⟩
  · refine Cx.le_of (fun b hb hn => ⟨fun h => (he.new b h).elim hn (fun h => absurd hb (Nat.not_lt.2 h)), hk.block b hb ?_⟩) he.pre hk.bs
    rintro ⟨k, r, δ, h1, h2⟩
    obtain ⟨b', δ', _, _, _, g1, g2, _⟩ := hs.heap.rows k r h1
    simp only [CxOf] at g1 g2
    rw [h2] at g1
    simp at g1
    exact hn (g1.1 ▸ g2)
  · intro s l b h1 h2
    have hO : O b := (hs.loc_block h1 h2).1
    have hnl : ¬ (baseOf w O loc st.h).live b := by
      rintro ⟨k, r, δ, h3, h4⟩
      exact hs.locH s l b k r δ h1 h2 h3 h4
    exact ⟨hk.block b (hs.own b hO) hnl, he.le b hO hnl⟩
  · intro s l b k r δ h1 h2 h3 h4
    rcases hf k r b δ h3 h4 with ⟨k', r', δ', h5, h6⟩ | h5
    · exact hs.locH s l b k' r' δ' h1 h2 h5 h6
    · have hO : O b := (hs.loc_block h1 h2).1
      exact absurd (hs.own b hO) (Nat.not_lt.2 h5)
  · intro k r b δ h3 h4
    rcases hf k r b δ h3 h4 with ⟨k', r', δ', h5, h6⟩ | h5
    · exact hs.freshH k' r' b δ' h5 h6
    · exact .inr (Nat.le_trans hs.frame.size h5)
  · refine ⟨hk.os.trans hs.frame.os, hk.tape.trans hs.frame.tape, hk.output.trans hs.frame.output, Nat.le_trans hs.frame.size hk.size, fun b => Nat.le_trans (hs.frame.bs b) (hk.bs b), fun b hb hn => ?_⟩
    refine (hk.block b (Nat.lt_of_lt_of_le hb hs.frame.size) ?_).trans (hs.frame.block b hb hn)
    rintro ⟨k, r, δ, h3, h4⟩
    rcases hs.freshH k r b δ h3 h4 with h5 | h5
    · exact hn h5
    · exact absurd hb (Nat.not_lt.2 h5)
  · refine ⟨hs.ext.bnd, fun b h hn => he.le b (hs.ext.le b h hn) ?_, fun b h => ?_, fun k x h => he.pre k x (hs.ext.pre k x h)⟩
    · rintro ⟨k, r, δ, h3, h4⟩
      rcases hs.freshH k r b δ h3 h4 with h5 | h5
      · exact hn h5
      · exact absurd (hs.ext.bnd b h) (Nat.not_lt.2 h5)
    rcases he.new b h with h | h
    · exact hs.ext.new b h
    · exact .inr (Nat.le_trans hs.frame.size h)

/-- After a call that could write nothing old. -/
theorem Sim.apart (hs : Sim φ B n st a w O loc D) {O1 : Nat → Prop} {w' : World} (hk : KeptW (baseOf w O1 [] []) w') : Sim φ B n st a w' O loc D := by
  have hb : ∀ b, b < w.heap.size → w'.heap[b]? = w.heap[b]? := fun b hb => hk.block b hb (by rintro ⟨k, r, δ, h1, h2⟩; simp [row] at h1)
  have hc : (CxOf w O loc).Le (CxOf w' O loc) := Cx.le_of (fun b h1 h2 => ⟨h2, hb b h1⟩) (fun _ _ h => h) hk.bs
  have hL : ∀ s l b, get st.e s = .loc l → a.tmps[s]? = some (ptrV b 0) → O b := fun s l b h1 h2 => (hs.loc_block h1 h2).1
  refine hs.world hc (fun s l b h1 h2 => ⟨hb b (hs.own b (hL s l b h1 h2)), hL s l b h1 h2⟩) (hs.heap.mono hc rfl fun b h => ⟨h, hb b (hs.own b h)⟩) hs.locH hs.freshH
    (fun b h => Nat.lt_of_lt_of_le (hs.own b h) hk.size) ?_ hs.ext
  refine ⟨hk.os.trans hs.frame.os, hk.tape.trans hs.frame.tape, hk.output.trans hs.frame.output, Nat.le_trans hs.frame.size hk.size, fun b => Nat.le_trans (hs.frame.bs b) (hk.bs b), fun b hb' hn => ?_⟩
  rw [hb b (Nat.lt_of_lt_of_le hb' hs.frame.size), hs.frame.block b hb' hn]

/-- A value without pointers into the small heap reads alike where less may be written. -/
theorem VR.noHp {c c' : Cx} (h1 : c'.hp = c.hp) (h2 : ∀ b, ¬ c.own b → ¬ c'.own b) : ∀ (m : Nat) (v : V) (x : Value), VR φ c v x → Mir.noHp m v = true → VR φ c' v x
  | 0, v, x, _, h => by simp [Mir.noHp] at h
  | m + 1, v, x, hv, h => by
    cases hv with
    | i n h1 h2 => exact .i n h1 h2
    | u w n k h1 h2 => exact .u w n k h1 h2
    | b x => exact .b x
    | s l ba h0 => exact .s l ba h0
    | nilp => exact .nilp
    | nils => exact .nils
    | vsn => exact .vsn
    | vs0 a cap => exact .vs0 a cap
    | agg l cs g1 g2 =>
      simp only [Mir.noHp, List.all_eq_true] at h
      exact .agg l cs g1 fun j hj hj' => VR.noHp h1 h2 m _ _ (g2 j hj hj') (h _ (List.getElem_mem hj))
    | vr l off b δ y g1 g2 g3 =>
      simp only [Mir.noHp, List.all_eq_true] at h
      exact .vr l off b δ y (fun e => h2 b (g1 e)) (fun j hj => by rw [h1]; exact g2 j hj) fun j hj => VR.noHp h1 h2 m _ _ (g3 j hj) (h _ (List.getElem_mem hj))
    | vs k l b o cap y g0 g1 g2 g3 =>
      simp only [Mir.noHp, List.all_eq_true] at h
      exact .vs k l b o cap y g0 (fun e => h2 b (g1 e)) (fun j hj => by rw [h1]; exact g2 j hj) fun j hj => VR.noHp h1 h2 m _ _ (g3 j hj) (h _ (List.getElem_mem hj))
    | _ => simp [Mir.noHp] at h

/-- The blocks of the local variables that a call is lent. -/
def lentTo (e : Env) (a : Act) (rs : List Nat) (O : Nat → Prop) (b : Nat) : Prop :=
  O b ∧ ∀ s l, s ∈ rs → get e s = .loc l → a.tmps[s]? ≠ some (ptrV b 0)

theorem lend_ok (hs : Sim φ B n st a w O loc D) {rs : List Nat} {v u : V} {x : Value} (hv : VL φ (CxOf w O loc) a.tmps v x) (hu : lend st.e rs v = some u) (hn : noHp 3 u = true) :
    VR φ (CxOf w (lentTo st.e a rs O) []) u x := by
  have gen : VR φ (CxOf w O loc) u x → VR φ (CxOf w (lentTo st.e a rs O) []) u x :=
    fun h => VR.noHp (c := CxOf w O loc) (c' := CxOf w (lentTo st.e a rs O) []) rfl (fun b (hb : ¬ O b) (h : lentTo st.e a rs O b) => hb h.1) 3 u x h hn
  have row : ∀ s l b, rs.contains s = true → get st.e s = .loc l → a.tmps[s]? = some (ptrV b 0) → noHp 3 (.vr l 0) = true →
      ¬ (lentTo st.e a rs O) b ∧ ∃ y : Nat → Value, (∀ j, j < l.length → cellH (fun b => w.heap[b]?) b j = some (y j)) ∧ ∀ j (h : j < l.length), VR φ (CxOf w (lentTo st.e a rs O) []) l[j] (y j) := by
    intro s l b h1 h2 h3 h4
    refine ⟨fun h => h.2 s l (by simpa using h1) h2 h3, ?_⟩
    obtain ⟨_, cs, T, fz, g3, g4⟩ := hs.loc_block h2 h3
    have hbl := g4.block
    simp only [CxOf] at hbl
    refine ⟨fun j => cs.getD j default, fun j hj => ?_, fun j hj => ?_⟩
    · have : j < cs.size := by omega
      simp [cellH, hbl, this]
    · have hj' : j < cs.size := by omega
      have h5 := g4.cell j hj (by omega)
      simp only [Nat.zero_add] at h5
      simp only [noHp, List.all_eq_true] at h4
      have : cs.getD j default = cs[j] := by simp [hj']
      show VR _ _ _ (cs.getD j default)
      rw [this]
      exact VR.noHp (c := CxOf w O loc) (c' := CxOf w (lentTo st.e a rs O) []) rfl (fun b (hb : ¬ O b) (h : lentTo st.e a rs O b) => hb h.1) 2 _ _ h5 (h4 _ (List.getElem_mem hj))
  cases v
  case lp s o =>
    simp only [lend] at hu
    split at hu
    · rename_i hr
      split at hu
      · rename_i l hl
        simp only [Option.some.injEq] at hu
        subst hu
        obtain ⟨b, hb, rfl⟩ := hv
        obtain ⟨h1, y, h2, h3⟩ := row s l b hr hl hb (by simpa [noHp] using hn)
        have := VR.vr (φ := φ) (c := CxOf w (lentTo st.e a rs O) []) l o b 0 y (fun _ => h1) (fun j hj => by simpa [CxOf] using h2 j hj) h3
        simpa [ptrV] using this
      · simp at hu
    · simp at hu
  case ls sz s o m k =>
    simp only [lend] at hu
    split at hu
    · rename_i hr
      split at hu
      · rename_i l hl
        split at hu
        · rename_i hlen
          simp only [Option.some.injEq] at hu
          subst hu
          obtain ⟨b, ad, cap', hb, rfl, h5, h6, h7⟩ := hv
          rcases Nat.eq_zero_or_pos cap' with h0 | h0
          · have : m = 0 := by omega
            subst this
            simp
            exact .vs0 _ _
          · rw [h7 h0]
            -- the row's cells as a whole
            have key : ¬ (lentTo st.e a rs O) b := fun h => h.2 s l (by simpa using hr) hl hb
            obtain ⟨_, cs, T, fz, g3, g4⟩ := hs.loc_block hl hb
            have hbl := g4.block
            simp only [CxOf] at hbl
            simp only [noHp, List.all_eq_true] at hn
            refine .vs m _ b o cap' (fun j => cs.getD (o + j) default) (by omega) (fun _ => key) (fun j hj => ?_) (fun j hj => ?_)
            · have hj2 : j < m * sz := by simp at hj; omega
              have : o + j < cs.size := by omega
              simp [CxOf, cellH, hbl, this]
            · have hj2 : j < m * sz := by simp at hj; omega
              have hj' : o + j < cs.size := by omega
              have h5 := g4.cell (o + j) (by omega) (by omega)
              simp only [Nat.zero_add] at h5
              have h6 : cs.getD (o + j) default = cs[o + j] := by simp [hj']
              show VR _ _ _ (cs.getD (o + j) default)
              rw [h6]
              have h7 := hn _ (List.getElem_mem hj)
              simp only [List.getElem_take, List.getElem_drop] at h7 ⊢
              exact VR.noHp (c := CxOf w O loc) (c' := CxOf w (lentTo st.e a rs O) []) rfl (fun b (hb : ¬ O b) (h : lentTo st.e a rs O b) => hb h.1) 2 _ _ h5 h7
        · simp at hu
      · simp at hu
    · simp at hu
  case loc l => exact hv.elim
  all_goals
    simp only [lend, Option.some.injEq] at hu
    subst hu
    exact gen hv

theorem lendAll_ok (hs : Sim φ B n st a w O loc D) {rs : List Nat} : ∀ (xs : List Operand) (ys : List Opd) (us : List V), chkXs φ xs ys = true → lendAll st.e rs (ys.map (ea st.e)) = some us →
    us.all (noHp 3) = true → VRs φ (CxOf w (lentTo st.e a rs O) []) us (xs.map a.eval)
  | [], [], us, _, h, _ => by simp [lendAll] at h; subst h; exact ⟨rfl, fun j h => absurd h (by simp)⟩
  | [], _ :: _, us, h, _, _ => by simp [chkXs] at h
  | _ :: _, [], us, h, _, _ => by simp [chkXs] at h
  | x :: xs, y :: ys, us, hc, h, hn => by
    simp only [chkXs, Bool.and_eq_true] at hc
    simp only [List.map_cons, lendAll] at h
    split at h
    · rename_i u r h1 h2
      simp only [Option.some.injEq] at h
      subst h
      simp only [List.all_cons, Bool.and_eq_true] at hn
      have g1 := lend_ok hs (ea_VL hs hc.1) h1 hn.1
      obtain ⟨g2, g3⟩ := lendAll_ok hs xs ys r hc.2 h2 hn.2
      refine ⟨by simp [g2], fun j hj hj' => ?_⟩
      cases j with
      | zero => exact g1
      | succ j => exact g3 j (by simpa using hj) (by simpa using hj')
    · simp at h

theorem HR_nil (w : World) (O : Nat → Prop) : HR φ [] (CxOf w O []) :=
  ⟨rfl, fun k l h => by simp [row] at h, fun k k' l l' b δ δ' h => by simp [row] at h⟩

variable (hs : Sim φ B n st a w O loc D) {o : Oper} {c : Nat → List V → Heap → Option (V × Heap)} {v : V} {h' : Heap}
include hs

/-- What an entered call leads to. -/
theorem enter_step (hC : CallOk P φ c) {f F : Nat} (hF : φ f = some F) {args : List V} {vals : Array Value} (hrun : (Go.execOp a.eval o).run P w = .ok (.enter F vals) w) {rs : List Nat}
    (hargs : rs = [] → VRs φ (CxOf w O loc) args vals.toList)
    (hlent : rs ≠ [] → ∀ us, lendAll st.e rs args = some us → us.all (noHp 3) = true → VRs φ (CxOf w (lentTo st.e a rs O) []) us vals.toList)
    (he : callV c st.e st.h f rs args = some (v, h')) (hd : ∀ d, o.dst = some d → d < n ∧ d ∉ D ++ []) :
    StepOk P φ B n o a w ⟨put o.dst v st.e, h'⟩ (D ++ []) := by
  intro K Q hK
  unfold Go.Oper.wp
  rw [hrun, Go.Oper.upon_enter]
  unfold callV at he
  split at he
  · split at he
    · rename_i hall
      split at he
      · rename_i u hcall
        simp only [Option.some.injEq, Prod.mk.injEq] at he
        obtain ⟨rfl, rfl⟩ := he
        have hargs' : VRs φ (CxOf w O []) args vals.toList := by
          obtain ⟨g1, g2⟩ := hargs rfl
          simp only [List.all_eq_true] at hall
          exact ⟨g1, fun j hj hj' => VR.noHp (c := CxOf w O loc) (c' := CxOf w O []) rfl (fun b h => h) 8 _ _ (g2 j hj hj') (hall _ (List.getElem_mem hj))⟩
        have h1 := hC f F args [] u [] hF hcall vals w O [] (HR_nil _ _) hs.own hargs'
        refine Go.Calls.mono h1 fun e w' h => ?_
        cases e with
        | returned x =>
          obtain ⟨O', loc', hv, hh, ho', hk, he, hf⟩ := h
          have h2 := hs.apart hk
          have hl : loc' = [] := by
            have := hh.len
            simp [CxOf] at this
            exact List.eq_nil_of_length_eq_zero this.symm
          subst hl
          have hle : (CxOf w' O' []).Le (CxOf w' O loc) := ⟨fun b _ (h : ¬ O' b) => ⟨fun (h' : O b) => h (he.le b h' (by rintro ⟨k, r, δ, h3, h4⟩; simp [row] at h3)), rfl⟩, fun k x h => by simp [CxOf] at h, fun b => Nat.le_refl _⟩
          have h3 : VR φ (CxOf w' O loc) u x := hv.mono hle
          exact hK _ _ _ _ (put_step h2 (VL_of_VR h3) [] (VRp ⟨_, _, h3⟩) hd)
        | panicked ch => exact h.elim
        | outgrown => exact h.elim
      · simp at he
    · have h1 := hC f F args st.h v h' hF he vals w O loc hs.heap hs.own (hargs rfl)
      refine Go.Calls.mono h1 fun e w' h => ?_
      cases e with
      | returned x =>
        obtain ⟨O', loc', h2, h3⟩ := hs.called h
        exact hK _ _ _ _ (put_step h2 (VL_of_VR h3) [] (VRp ⟨_, _, h3⟩) hd)
      | panicked ch => exact h.elim
      | outgrown => exact h.elim
  · rename_i hrs
    split at he
    · rename_i us hus
      split at he
      · rename_i hn
        split at he
        · rename_i u H1 hcall
          split at he
          · rename_i hnp
            simp only [Option.some.injEq, Prod.mk.injEq] at he
            obtain ⟨rfl, rfl⟩ := he
            have h1 := hC f F us [] u H1 hF hcall vals w (lentTo st.e a rs O) [] (HR_nil _ _) (fun b h => hs.own b h.1) (hlent (by simpa using hrs) us hus hn)
            refine Go.Calls.mono h1 fun e w' h => ?_
            cases e with
            | returned x =>
              obtain ⟨O', loc', hv, hh, ho, hk, he, hf⟩ := h
              have h2 := hs.apart hk
              have h3 := hv.noPtr (CxOf w' O loc) hnp
              exact hK _ _ _ _ (put_step h2 (VL_of_VR h3) [] (VRp ⟨_, _, h3⟩) hd)
            | panicked ch => exact h.elim
            | outgrown => exact h.elim
          · simp at he
        · simp at he
      · simp at he
    · simp at he

theorem call_step (hC : CallOk P φ c) {f : Nat} {rs : List Nat} {args : List Opd} (hc : chkOp P φ ψ o.op (.call f rs args) = true) (he : evalO c (.call f rs args) st.e st.h = some (v, h'))
    (hd : ∀ d, o.dst = some d → d < n ∧ d ∉ D ++ []) : StepOk P φ B n o a w ⟨put o.dst v st.e, h'⟩ (D ++ []) := by
  simp only [chkOp] at hc
  split at hc
  · rename_i F args' ts ho
    simp only [Bool.and_eq_true, beq_iff_eq] at hc
    obtain ⟨⟨hF, hb⟩, hx⟩ := hc
    have hrun := (run_call (P := P) (a := a) (w := w) ho).trans (run_callFunc_body hb _ w)
    cases rs with
    | nil => exact enter_step hs hC hF hrun (rs := []) (args := (evAll st.e args).map san) (fun e => by simpa using VRs_san hs hx) (fun e => absurd rfl e) he hd
    | cons r rs => exact enter_step hs hC hF hrun (rs := r :: rs) (args := args.map (ea st.e)) (fun e => by simp at e) (fun e us h1 h2 => by simpa using lendAll_ok hs _ _ us hx h1 h2) he hd
  · simp at hc

omit hs in
theorem scalar_VR {v : V} {c : Cx} {t : Array Value} {x : Value} (h : VL φ c t v x) (hn : scalar v = true) (c' : Cx) : VR φ c' v x := by
  cases v <;> simp [scalar] at hn <;> exact VR.flat c' (c := c) h rfl

theorem callp_step (hC : CallOk P φ c) {f : Nat} {args : List Opd} (hc : chkOp P φ ψ o.op (.callp f args) = true) (he : evalO c (.callp f args) st.e st.h = some (v, h'))
    (hd : ∀ d, o.dst = some d → d < n ∧ d ∉ D ++ []) : StepOk P φ B n o a w ⟨put o.dst v st.e, h'⟩ (D ++ []) := by
  simp only [chkOp] at hc
  split at hc
  · rename_i F args' ts ho
    simp only [Bool.and_eq_true, beq_iff_eq] at hc
    obtain ⟨⟨hF, hb⟩, hx⟩ := hc
    have hrun := (run_call (P := P) (a := a) (w := w) ho).trans (run_callFunc_body hb _ w)
    simp only [evalO] at he
    split at he
    · rename_i hsc
      split at he
      · rename_i u hcall
        simp only [Option.some.injEq, Prod.mk.injEq] at he
        obtain ⟨rfl, rfl⟩ := he
        have hargs : VRs φ (CxOf w O []) (evAll st.e args) (args'.map a.eval).toList := by
          obtain ⟨h1, h2⟩ := evAll_ok hs _ _ hx
          refine ⟨by simpa [evAll] using h1, fun j hj hj' => ?_⟩
          simp only [Array.toList_map] at hj' ⊢
          simp only [evAll, List.length_map] at hj hj'
          have h3 := h2 j hj hj'
          simp only [evAll, List.getElem_map]
          simp only [List.all_eq_true, evAll, List.mem_map] at hsc
          exact scalar_VR h3 (hsc _ ⟨_, List.getElem_mem hj, rfl⟩) _
        intro K Q hK
        unfold Go.Oper.wp
        rw [hrun, Go.Oper.upon_enter]
        refine Go.Calls.mono (hC f F _ [] u [] hF hcall _ w O [] (HR_nil _ _) hs.own hargs) fun e w' h => ?_
        cases e with
        | returned x =>
          obtain ⟨O', loc', hv, hh, ho', hk, he, hf⟩ := h
          have h2 := hs.apart hk
          have hl : loc' = [] := by
            have := hh.len
            simp [CxOf] at this
            exact List.eq_nil_of_length_eq_zero this.symm
          subst hl
          have hle : (CxOf w' O' []).Le (CxOf w' O loc) := ⟨fun b _ (h : ¬ O' b) => ⟨fun (h' : O b) => h (he.le b h' (by rintro ⟨k, r, δ, h3, h4⟩; simp [row] at h3)), rfl⟩, fun k x h => by simp [CxOf] at h, fun b => Nat.le_refl _⟩
          have h3 : VR φ (CxOf w' O loc) u x := hv.mono hle
          exact hK _ _ _ _ (put_step h2 (VL_of_VR h3) [] (VRp ⟨_, _, h3⟩) hd)
        | panicked ch => exact h.elim
        | outgrown => exact h.elim
      · simp at he
    · simp at he
  · simp at hc

theorem cal_step (hC : CallOk P φ c) (hφ : ∀ f F, φ f = some F → bodyOk P F = true) {g : Opd} {args : List Opd} (hc : chkOp P φ ψ o.op (.cal g args) = true) (he : evalO c (.cal g args) st.e st.h = some (v, h'))
    (hd : ∀ d, o.dst = some d → d < n ∧ d ∉ D ++ []) : StepOk P φ B n o a w ⟨put o.dst v st.e, h'⟩ (D ++ []) := by
  simp only [chkOp] at hc
  split at hc
  · rename_i g' args' ts ho
    simp only [Bool.and_eq_true] at hc
    have hg := ev_VL hs hc.1
    simp only [evalO] at he
    split at he
    · rename_i f l m hfn
      rw [hfn] at hg
      generalize hA : a.eval g' = A at hg
      cases hg with
      | fn f F l m xs ys hF h1 h2 h3 h4 =>
        have hb := hφ f F hF
        have hrun : (Go.execOp a.eval o).run P w = .ok (.enter F (xs ++ args'.map a.eval ++ ys)) w := by
          have := run_callFunc_body hb (xs ++ args'.map a.eval ++ ys) w
          simpa [Go.execOp, ho, Go.resolve, Go.Deferred.ofValue, Go.invoke, hA] using this
        refine enter_step hs hC hF hrun (rs := []) (fun _ => ?_) (fun e => absurd rfl e) he hd
        obtain ⟨g1, g2⟩ := VRs_san hs hc.2
        have e1 : (xs ++ args'.map a.eval ++ ys).toList = xs.toList ++ args'.toList.map a.eval ++ ys.toList := by simp
        rw [e1]
        have app : ∀ {c : Cx} {l l' : List V} {m m' : List Value}, VRs φ c l m → VRs φ c l' m' → VRs φ c (l ++ l') (m ++ m') := by
          intro c l l' m m' p q
          refine ⟨by simp [p.1, q.1], fun j hj hj' => ?_⟩
          rcases Nat.lt_or_ge j l.length with hlt | hge
          · rw [List.getElem_append_left hlt, List.getElem_append_left (by rw [← p.1]; exact hlt)]
            exact p.2 _ _ _
          · rw [List.getElem_append_right hge, List.getElem_append_right (by rw [← p.1]; exact hge)]
            have := p.1
            simp only [this]
            exact q.2 _ _ _
        exact app (app ⟨by simpa using h1, fun j hj hj' => by simpa using h2 j hj (by simpa using hj')⟩ ⟨g1, g2⟩) ⟨by simpa using h3, fun j hj hj' => by simpa using h4 j hj (by simpa using hj')⟩
    · simp at he
  · simp at hc

end
end Mir
