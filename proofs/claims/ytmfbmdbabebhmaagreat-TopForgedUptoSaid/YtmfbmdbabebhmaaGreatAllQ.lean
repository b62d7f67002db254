/- One module of several texts (Call Ord Step Reg Stm Fun Back). Conditions: none. -/
import Derived.Test.YtmfbmdbabebhmaaGreatAllP
import Derived.Test.YtmfbmdbabebhmaaGreatChk
import Derived.Test.YtmfbmdbabebhmaaGreatLim
set_option linter.unusedVariables false
set_option linter.unusedSimpArgs false
namespace Mir
open Go (Value Addr IntKind World Obj Act Program FuncId TypeId Operand Op Oper Code TypeDesc Sem Result)

/-- A call's beginning: what may be written is what rows lie in. -/
def baseOf (w : World) (O : Nat → Prop) (loc : List (Nat × Nat)) (H : Heap) : Base :=
  ⟨w, fun b => ∃ k r δ, row H k = some r ∧ loc[k]? = some (b, δ), O, loc⟩

/-- What a call leaves. -/
def Left (φ : Nat → Option FuncId) (B : Base) (v : V) (H' : Heap) (x : Value) (w' : World) : Prop :=
  ∃ O' loc', VR φ (CxOf w' O' loc') v x ∧ HR φ H' (CxOf w' O' loc') ∧ (∀ b, O' b → b < w'.heap.size) ∧ KeptW B w' ∧ ExtB B O' loc' ∧
    (∀ k r b δ, row H' k = some r → loc'[k]? = some (b, δ) → B.live b ∨ B.w.heap.size ≤ b)

def CallOk (P : Program) (φ : Nat → Option FuncId) (c : Nat → List V → Heap → Option (V × Heap)) : Prop :=
  ∀ f F args H v H', φ f = some F → c f args H = some (v, H') → ∀ (vals : Array Value) (w : World) (O : Nat → Prop) (loc : List (Nat × Nat)),
    HR φ H (CxOf w O loc) → (∀ b, O b → b < w.heap.size) → VRs φ (CxOf w O loc) args vals.toList →
    Go.Calls P F vals w fun | .returned x, w' => Left φ (baseOf w O loc H) v H' x w' | _, _ => False

section
variable {P : Program} {φ : Nat → Option FuncId} {ψ : Prim → FuncId → Bool} {B : Base} {n : Nat} {st : St} {a : Act} {w : World} {O : Nat → Prop} {loc : List (Nat × Nat)} {D : List Nat}

theorem run_callFunc_body {F : FuncId} (h : bodyOk P F = true) (args : Array Value) (w : World) : (Go.callFunc F args).run P w = .ok (.enter F args) w := by
  unfold bodyOk at h
  split at h
  · rename_i fn hf
    simp only [Bool.and_eq_true, bne_iff_ne, ne_eq] at h
    have h2 : fn.body.isNone = false := by cases hb : fn.body <;> simp [hb] at h ⊢
    have h3 : fn.body ≠ none := by intro e; simp [e] at h2
    simp [Go.callFunc, hf, h.2, h3, Go.Sem.run]
  · simp at h

theorem VR_san {c : Cx} {t : Array Value} {v : V} {x : Value} (h : VL φ c t v x) : VR φ c (san v) x := by
  cases v <;> simp only [san] <;> first | exact h | exact .undef _ | exact h.elim

theorem VRs_san (hs : Sim φ B n st a w O loc D) {xs : List Operand} {ys : List Opd} (h : chkXs φ xs ys = true) :
    VRs φ (CxOf w O loc) ((evAll st.e ys).map san) (xs.map a.eval) := by
  obtain ⟨h1, h2⟩ := evAll_ok hs xs ys h
  refine ⟨by simp [evAll, h1], fun j hj hj' => ?_⟩
  simp [evAll] at hj hj'
  have h3 := h2 j hj hj'
  simp only [evAll, List.getElem_map]
  exact VR_san h3

/-- After a call that saw the whole small heap. -/
theorem Sim.called (hs : Sim φ B n st a w O loc D) {v : V} {H' : Heap} {x : Value} {w' : World} (h : Left φ (baseOf w O loc st.h) v H' x w') :
    ∃ O' loc', Sim φ B n ⟨st.e, H'⟩ a w' O' loc' D ∧ VR φ (CxOf w' O' loc') v x := by
  obtain ⟨O', loc', hv, hh, ho, hk, he, hf⟩ := h
  refine ⟨O', loc', hs.world ?_ ?_ hh ?_ ?_ ho ?_ ?_, hv⟩
  · refine Cx.le_of (fun b hb hn => ⟨fun h => (he.new b h).elim hn (fun h => absurd hb (Nat.not_lt.2 h)), hk.block b hb ?_⟩) he.pre hk.bs
    rintro ⟨k, r, δ, h1, h2⟩
    obtain ⟨b', δ', _, _, _, g1, g2, _⟩ := hs.heap.rows k r h1
    simp only [CxOf] at g1 g2
    rw [h2] at g1
    simp at g1
    exact hn (g1.1 ▸ g2)
  · intro s l b h1 h2
    have hO : O b := (hs.loc_block h1 h2).1
    have hnl : ¬ (baseOf w O loc st.h).live b := by
      rintro ⟨k, r, δ, h3, h4⟩
      exact hs.locH s l b k r δ h1 h2 h3 h4
    exact ⟨hk.block b (hs.own b hO) hnl, he.le b hO hnl⟩
  · intro s l b k r δ h1 h2 h3 h4
    rcases hf k r b δ h3 h4 with ⟨k', r', δ', h5, h6⟩ | h5
    · exact hs.locH s l b k' r' δ' h1 h2 h5 h6
    · have hO : O b := (hs.loc_block h1 h2).1
      exact absurd (hs.own b hO) (Nat.not_lt.2 h5)
  · intro k r b δ h3 h4
    rcases hf k r b δ h3 h4 with ⟨k', r', δ', h5, h6⟩ | h5
    · exact hs.freshH k' r' b δ' h5 h6
    · exact .inr (Nat.le_trans hs.frame.size h5)
  · refine ⟨hk.os.trans hs.frame.os, hk.tape.trans hs.frame.tape, hk.output.trans hs.frame.output, Nat.le_trans hs.frame.size hk.size, fun b => Nat.le_trans (hs.frame.bs b) (hk.bs b), fun b hb hn => ?_⟩
    refine (hk.block b (Nat.lt_of_lt_of_le hb hs.frame.size) ?_).trans (hs.frame.block b hb hn)
    rintro ⟨k, r, δ, h3, h4⟩
    rcases hs.freshH k r b δ h3 h4 with h5 | h5
    · exact hn h5
    · exact absurd hb (Nat.not_lt.2 h5)
  · refine ⟨hs.ext.bnd, fun b h hn => he.le b (hs.ext.le b h hn) ?_, fun b h => ?_, fun k x h => he.pre k x (hs.ext.pre k x h)⟩
    · rintro ⟨k, r, δ, h3, h4⟩
      rcases hs.freshH k r b δ h3 h4 with h5 | h5
      · exact hn h5
      · exact absurd (hs.ext.bnd b h) (Nat.not_lt.2 h5)
    rcases he.new b h with h | h
    · exact hs.ext.new b h
    · exact .inr (Nat.le_trans hs.frame.size h)

/-- After a call that could write nothing old. -/
theorem Sim.apart (hs : Sim φ B n st a w O loc D) {O1 : Nat → Prop} {w' : World} (hk : KeptW (baseOf w O1 [] []) w') : Sim φ B n st a w' O loc D := by
  have hb : ∀ b, b < w.heap.size → w'.heap[b]? = w.heap[b]? := fun b hb => hk.block b hb (by rintro ⟨k, r, δ, h1, h2⟩; simp [row] at h1)
  have hc : (CxOf w O loc).Le (CxOf w' O loc) := Cx.le_of (fun b h1 h2 => ⟨h2, hb b h1⟩) (fun _ _ h => h) hk.bs
  have hL : ∀ s l b, get st.e s = .loc l → a.tmps[s]? = some (ptrV b 0) → O b := fun s l b h1 h2 => (hs.loc_block h1 h2).1
  refine hs.world hc (fun s l b h1 h2 => ⟨hb b (hs.own b (hL s l b h1 h2)), hL s l b h1 h2⟩) (hs.heap.mono hc rfl fun b h => ⟨h, hb b (hs.own b h)⟩) hs.locH hs.freshH
    (fun b h => Nat.lt_of_lt_of_le (hs.own b h) hk.size) ?_ hs.ext
  refine ⟨hk.os.trans hs.frame.os, hk.tape.trans hs.frame.tape, hk.output.trans hs.frame.output, Nat.le_trans hs.frame.size hk.size, fun b => Nat.le_trans (hs.frame.bs b) (hk.bs b), fun b hb' hn => ?_⟩
  rw [hb b (Nat.lt_of_lt_of_le hb' hs.frame.size), hs.frame.block b hb' hn]

/-- A value without pointers into the small heap reads alike where less may be written. -/
theorem VR.noHp {c c' : Cx} (h1 : c'.hp = c.hp) (h2 : ∀ b, ¬ c.own b → ¬ c'.own b) : ∀ (m : Nat) (v : V) (x : Value), VR φ c v x → Mir.noHp m v = true → VR φ c' v x
  | 0, v, x, _, h => by simp [Mir.noHp] at h
  | m + 1, v, x, hv, h => by
    cases hv with
    | i n h1 h2 => exact .i n h1 h2
    | u w n k h1 h2 => exact .u w n k h1 h2
    | b x => exact .b x
    | s l ba h0 => exact .s l ba h0
    | nilp => exact .nilp
    | nils => exact .nils
    | vsn => exact .vsn
    | vs0 a cap => exact .vs0 a cap
    | agg l cs g1 g2 =>
      simp only [Mir.noHp, List.all_eq_true] at h
      exact .agg l cs g1 fun j hj hj' => VR.noHp h1 h2 m _ _ (g2 j hj hj') (h _ (List.getElem_mem hj))
    | vr l off b δ y g1 g2 g3 =>
      simp only [Mir.noHp, List.all_eq_true] at h
      exact .vr l off b δ y (fun e => h2 b (g1 e)) (fun j hj => by rw [h1]; exact g2 j hj) fun j hj => VR.noHp h1 h2 m _ _ (g3 j hj) (h _ (List.getElem_mem hj))
    | vs k l b o cap y g0 g1 g2 g3 =>
      simp only [Mir.noHp, List.all_eq_true] at h
      exact .vs k l b o cap y g0 (fun e => h2 b (g1 e)) (fun j hj => by rw [h1]; exact g2 j hj) fun j hj => VR.noHp h1 h2 m _ _ (g3 j hj) (h _ (List.getElem_mem hj))
    | _ => simp [Mir.noHp] at h

/-- The blocks of the local variables that a call is lent. -/
def lentTo (e : Env) (a : Act) (rs : List Nat) (O : Nat → Prop) (b : Nat) : Prop :=
  O b ∧ ∀ s l, s ∈ rs → get e s = .loc l → a.tmps[s]? ≠ some (ptrV b 0)

theorem lend_ok (hs : Sim φ B n st a w O loc D) {rs : List Nat} {v u : V} {x : Value} (hv : VL φ (CxOf w O loc) a.tmps v x) (hu : lend st.e rs v = some u) (hn : noHp 3 u = true) :
    VR φ (CxOf w (lentTo st.e a rs O) []) u x := by
  have gen : VR φ (CxOf w O loc) u x → VR φ (CxOf w (lentTo st.e a rs O) []) u x :=
    fun h => VR.noHp (c := CxOf w O loc) (c' := CxOf w (lentTo st.e a rs O) []) rfl (fun b (hb : ¬ O b) (h : lentTo st.e a rs O b) => hb h.1) 3 u x h hn
  have row : ∀ s l b, rs.contains s = true → get st.e s = .loc l → a.tmps[s]? = some (ptrV b 0) → noHp 3 (.vr l 0) = true →
      ¬ (lentTo st.e a rs O) b ∧ ∃ y : Nat → Value, (∀ j, j < l.length → cellH (fun b => w.heap[b]?) b j = some (y j)) ∧ ∀ j (h : j < l.length), VR φ (CxOf w (lentTo st.e a rs O) []) l[j] (y j) := by
    intro s l b h1 h2 h3 h4
    refine ⟨fun h => h.2 s l (by simpa using h1) h2 h3, ?_⟩
    obtain ⟨_, cs, T, fz, g3, g4⟩ := hs.loc_block h2 h3
    have hbl := g4.block
    simp only [CxOf] at hbl
    refine ⟨fun j => cs.getD j default, fun j hj => ?_, fun j hj => ?_⟩
    · have : j < cs.size := by omega
      simp [cellH, hbl, this]
    · have hj' : j < cs.size := by omega
      have h5 := g4.cell j hj (by omega)
      simp only [Nat.zero_add] at h5
      simp only [noHp, List.all_eq_true] at h4
      have : cs.getD j default = cs[j] := by simp [hj']
      show VR _ _ _ (cs.getD j default)
      rw [this]
      exact VR.noHp (c := CxOf w O loc) (c' := CxOf w (lentTo st.e a rs O) []) rfl (fun b (hb : ¬ O b) (h : lentTo st.e a rs O b) => hb h.1) 2 _ _ h5 (h4 _ (List.getElem_mem hj))
  cases v
  case lp s o =>
    simp only [lend] at hu
    split at hu
    · rename_i hr
      split at hu
      · rename_i l hl
        simp only [Option.some.injEq] at hu
        subst hu
        obtain ⟨b, hb, rfl⟩ := hv
        obtain ⟨h1, y, h2, h3⟩ := row s l b hr hl hb (by simpa [noHp] using hn)
        have := VR.vr (φ := φ) (c := CxOf w (lentTo st.e a rs O) []) l o b 0 y (fun _ => h1) (fun j hj => by simpa [CxOf] using h2 j hj) h3
        simpa [ptrV] using this
      · simp at hu
    · simp at hu
  case ls sz s o m k =>
    simp only [lend] at hu
    split at hu
    · rename_i hr
      split at hu
      · rename_i l hl
        split at hu
        · rename_i hlen
          simp only [Option.some.injEq] at hu
          subst hu
          obtain ⟨b, ad, cap', hb, rfl, h5, h6, h7⟩ := hv
          rcases Nat.eq_zero_or_pos cap' with h0 | h0
          · have : m = 0 := by omega
            subst this
            simp
            exact .vs0 _ _
          · rw [h7 h0]
            -- the row's cells as a whole
            have key : ¬ (lentTo st.e a rs O) b := fun h => h.2 s l (by simpa using hr) hl hb
            obtain ⟨_, cs, T, fz, g3, g4⟩ := hs.loc_block hl hb
            have hbl := g4.block
            simp only [CxOf] at hbl
            simp only [noHp, List.all_eq_true] at hn
            refine .vs m _ b o cap' (fun j => cs.getD (o + j) default) (by omega) (fun _ => key) (fun j hj => ?_) (fun j hj => ?_)
            · have hj2 : j < m * sz := by simp at hj; omega
              have : o + j < cs.size := by omega
              simp [CxOf, cellH, hbl, this]
            · have hj2 : j < m * sz := by simp at hj; omega
              have hj' : o + j < cs.size := by omega
              have h5 := g4.cell (o + j) (by omega) (by omega)
              simp only [Nat.zero_add] at h5
              have h6 : cs.getD (o + j) default = cs[o + j] := by simp [hj']
              show VR _ _ _ (cs.getD (o + j) default)
              rw [h6]
              have h7 := hn _ (List.getElem_mem hj)
              simp only [List.getElem_take, List.getElem_drop] at h7 ⊢
              exact VR.noHp (c := CxOf w O loc) (c' := CxOf w (lentTo st.e a rs O) []) rfl (fun b (hb : ¬ O b) (h : lentTo st.e a rs O b) => hb h.1) 2 _ _ h5 h7
        · simp at hu
      · simp at hu
    · simp at hu
  case loc l => exact hv.elim
  all_goals
    simp only [lend, Option.some.injEq] at hu
    subst hu
    exact gen hv

theorem lendAll_ok (hs : Sim φ B n st a w O loc D) {rs : List Nat} : ∀ (xs : List Operand) (ys : List Opd) (us : List V), chkXs φ xs ys = true → lendAll st.e rs (ys.map (ea st.e)) = some us →
    us.all (noHp 3) = true → VRs φ (CxOf w (lentTo st.e a rs O) []) us (xs.map a.eval)
  | [], [], us, _, h, _ => by simp [lendAll] at h; subst h; exact ⟨rfl, fun j h => absurd h (by simp)⟩
  | [], _ :: _, us, h, _, _ => by simp [chkXs] at h
  | _ :: _, [], us, h, _, _ => by simp [chkXs] at h
  | x :: xs, y :: ys, us, hc, h, hn => by
    simp only [chkXs, Bool.and_eq_true] at hc
    simp only [List.map_cons, lendAll] at h
    split at h
    · rename_i u r h1 h2
      simp only [Option.some.injEq] at h
      subst h
      simp only [List.all_cons, Bool.and_eq_true] at hn
      have g1 := lend_ok hs (ea_VL hs hc.1) h1 hn.1
      obtain ⟨g2, g3⟩ := lendAll_ok hs xs ys r hc.2 h2 hn.2
      refine ⟨by simp [g2], fun j hj hj' => ?_⟩
      cases j with
      | zero => exact g1
      | succ j => exact g3 j (by simpa using hj) (by simpa using hj')
    · simp at h

theorem HR_nil (w : World) (O : Nat → Prop) : HR φ [] (CxOf w O []) :=
  ⟨rfl, fun k l h => by simp [row] at h, fun k k' l l' b δ δ' h => by simp [row] at h⟩

variable (hs : Sim φ B n st a w O loc D) {o : Oper} {c : Nat → List V → Heap → Option (V × Heap)} {v : V} {h' : Heap}
include hs

/-- What an entered call leads to. -/
theorem enter_step (hC : CallOk P φ c) {f F : Nat} (hF : φ f = some F) {args : List V} {vals : Array Value} (hrun : (Go.execOp a.eval o).run P w = .ok (.enter F vals) w) {rs : List Nat}
    (hargs : rs = [] → VRs φ (CxOf w O loc) args vals.toList)
    (hlent : rs ≠ [] → ∀ us, lendAll st.e rs args = some us → us.all (noHp 3) = true → VRs φ (CxOf w (lentTo st.e a rs O) []) us vals.toList)
    (he : callV c st.e st.h f rs args = some (v, h')) (hd : ∀ d, o.dst = some d → d < n ∧ d ∉ D ++ []) :
    StepOk P φ B n o a w ⟨put o.dst v st.e, h'⟩ (D ++ []) := by
  intro K Q hK
  unfold Go.Oper.wp
  rw [hrun, Go.Oper.upon_enter]
  unfold callV at he
  split at he
  · split at he
    · rename_i hall
      split at he
      · rename_i u hcall
        simp only [Option.some.injEq, Prod.mk.injEq] at he
        obtain ⟨rfl, rfl⟩ := he
        have hargs' : VRs φ (CxOf w O []) args vals.toList := by
          obtain ⟨g1, g2⟩ := hargs rfl
          simp only [List.all_eq_true] at hall
          exact ⟨g1, fun j hj hj' => VR.noHp (c := CxOf w O loc) (c' := CxOf w O []) rfl (fun b h => h) 8 _ _ (g2 j hj hj') (hall _ (List.getElem_mem hj))⟩
        have h1 := hC f F args [] u [] hF hcall vals w O [] (HR_nil _ _) hs.own hargs'
        refine Go.Calls.mono h1 fun e w' h => ?_
        cases e with
        | returned x =>
          obtain ⟨O', loc', hv, hh, ho', hk, he, hf⟩ := h
          have h2 := hs.apart hk
          have hl : loc' = [] := by
            have := hh.len
            simp [CxOf] at this
            exact List.eq_nil_of_length_eq_zero this.symm
          subst hl
          have hle : (CxOf w' O' []).Le (CxOf w' O loc) := ⟨fun b _ (h : ¬ O' b) => ⟨fun (h' : O b) => h (he.le b h' (by rintro ⟨k, r, δ, h3, h4⟩; simp [row] at h3)), rfl⟩, fun k x h => by simp [CxOf] at h, fun b => Nat.le_refl _⟩
          have h3 : VR φ (CxOf w' O loc) u x := hv.mono hle
          exact hK _ _ _ _ (put_step h2 (VL_of_VR h3) [] (VRp ⟨_, _, h3⟩) hd)
        | panicked ch => exact h.elim
        | outgrown => exact h.elim
      · simp at he
    · have h1 := hC f F args st.h v h' hF he vals w O loc hs.heap hs.own (hargs rfl)
      refine Go.Calls.mono h1 fun e w' h => ?_
      cases e with
      | returned x =>
        obtain ⟨O', loc', h2, h3⟩ := hs.called h
        exact hK _ _ _ _ (put_step h2 (VL_of_VR h3) [] (VRp ⟨_, _, h3⟩) hd)
      | panicked ch => exact h.elim
      | outgrown => exact h.elim
  · rename_i hrs
    split at he
    · rename_i us hus
      split at he
      · rename_i hn
        split at he
        · rename_i u H1 hcall
          split at he
          · rename_i hnp
            simp only [Option.some.injEq, Prod.mk.injEq] at he
            obtain ⟨rfl, rfl⟩ := he
            have h1 := hC f F us [] u H1 hF hcall vals w (lentTo st.e a rs O) [] (HR_nil _ _) (fun b h => hs.own b h.1) (hlent (by simpa using hrs) us hus hn)
            refine Go.Calls.mono h1 fun e w' h => ?_
            cases e with
            | returned x =>
              obtain ⟨O', loc', hv, hh, ho, hk, he, hf⟩ := h
              have h2 := hs.apart hk
              have h3 := hv.noPtr (CxOf w' O loc) hnp
              exact hK _ _ _ _ (put_step h2 (VL_of_VR h3) [] (VRp ⟨_, _, h3⟩) hd)
            | panicked ch => exact h.elim
            | outgrown => exact h.elim
          · simp at he
        · simp at he
      · simp at he
    · simp at he

theorem call_step (hC : CallOk P φ c) {f : Nat} {rs : List Nat} {args : List Opd} (hc : chkOp P φ ψ o.op (.call f rs args) = true) (he : evalO c (.call f rs args) st.e st.h = some (v, h'))
    (hd : ∀ d, o.dst = some d → d < n ∧ d ∉ D ++ []) : StepOk P φ B n o a w ⟨put o.dst v st.e, h'⟩ (D ++ []) := by
  simp only [chkOp] at hc
  split at hc
  · rename_i F args' ts ho
    simp only [Bool.and_eq_true, beq_iff_eq] at hc
    obtain ⟨⟨hF, hb⟩, hx⟩ := hc
    have hrun := (run_call (P := P) (a := a) (w := w) ho).trans (run_callFunc_body hb _ w)
    cases rs with
    | nil => exact enter_step hs hC hF hrun (rs := []) (args := (evAll st.e args).map san) (fun e => by simpa using VRs_san hs hx) (fun e => absurd rfl e) he hd
    | cons r rs => exact enter_step hs hC hF hrun (rs := r :: rs) (args := args.map (ea st.e)) (fun e => by simp at e) (fun e us h1 h2 => by simpa using lendAll_ok hs _ _ us hx h1 h2) he hd
  · simp at hc

/-- A call whose callee sees the small heap as it stands: what it hands back may be written on. -/
theorem callo_step (hC : CallOk P φ c) {f : Nat} {args : List Opd} (hc : chkOp P φ ψ o.op (.callo f args) = true) (he : evalO c (.callo f args) st.e st.h = some (v, h'))
    (hd : ∀ d, o.dst = some d → d < n ∧ d ∉ D ++ []) : StepOk P φ B n o a w ⟨put o.dst v st.e, h'⟩ (D ++ []) := by
  simp only [chkOp] at hc
  split at hc
  · rename_i F args' ts ho
    simp only [Bool.and_eq_true, beq_iff_eq] at hc
    obtain ⟨⟨hF, hb⟩, hx⟩ := hc
    have hrun := (run_call (P := P) (a := a) (w := w) ho).trans (run_callFunc_body hb _ w)
    intro K Q hK
    unfold Go.Oper.wp
    rw [hrun, Go.Oper.upon_enter]
    have h1 := hC f F _ st.h v h' hF he (args'.map a.eval) w O loc hs.heap hs.own (by simpa using VRs_san hs hx)
    refine Go.Calls.mono h1 fun e w' h => ?_
    cases e with
    | returned x =>
      obtain ⟨O', loc', h2, h3⟩ := hs.called h
      exact hK _ _ _ _ (put_step h2 (VL_of_VR h3) [] (VRp ⟨_, _, h3⟩) hd)
    | panicked ch => exact h.elim
    | outgrown => exact h.elim
  · simp at hc

theorem callp_step (hC : CallOk P φ c) {f : Nat} {args : List Opd} (hc : chkOp P φ ψ o.op (.callp f args) = true) (he : evalO c (.callp f args) st.e st.h = some (v, h'))
    (hd : ∀ d, o.dst = some d → d < n ∧ d ∉ D ++ []) : StepOk P φ B n o a w ⟨put o.dst v st.e, h'⟩ (D ++ []) := by
  simp only [chkOp] at hc
  split at hc
  · rename_i F args' ts ho
    simp only [Bool.and_eq_true, beq_iff_eq] at hc
    obtain ⟨⟨hF, hb⟩, hx⟩ := hc
    have hrun := (run_call (P := P) (a := a) (w := w) ho).trans (run_callFunc_body hb _ w)
    simp only [evalO] at he
    split at he
    · rename_i hsc
      split at he
      · rename_i u hcall
        simp only [Option.some.injEq, Prod.mk.injEq] at he
        obtain ⟨rfl, rfl⟩ := he
        have hargs : VRs φ (CxOf w O []) ((evAll st.e args).map san) (args'.map a.eval).toList := by
          obtain ⟨g1, g2⟩ := VRs_san hs hx
          simp only [List.all_eq_true] at hsc
          rw [Array.toList_map]
          exact ⟨g1, fun j hj hj' => VR.noHp (c := CxOf w O loc) (c' := CxOf w O []) rfl (fun b h => h) 8 _ _ (g2 j hj hj') (hsc _ (List.getElem_mem hj))⟩
        intro K Q hK
        unfold Go.Oper.wp
        rw [hrun, Go.Oper.upon_enter]
        refine Go.Calls.mono (hC f F _ [] u [] hF hcall _ w O [] (HR_nil _ _) hs.own hargs) fun e w' h => ?_
        cases e with
        | returned x =>
          obtain ⟨O', loc', hv, hh, ho', hk, he, hf⟩ := h
          have h2 := hs.apart hk
          have hl : loc' = [] := by
            have := hh.len
            simp [CxOf] at this
            exact List.eq_nil_of_length_eq_zero this.symm
          subst hl
          have hle : (CxOf w' O' []).Le (CxOf w' O loc) := ⟨fun b _ (h : ¬ O' b) => ⟨fun (h' : O b) => h (he.le b h' (by rintro ⟨k, r, δ, h3, h4⟩; simp [row] at h3)), rfl⟩, fun k x h => by simp [CxOf] at h, fun b => Nat.le_refl _⟩
          have h3 : VR φ (CxOf w' O loc) u x := hv.mono hle
          exact hK _ _ _ _ (put_step h2 (VL_of_VR h3) [] (VRp ⟨_, _, h3⟩) hd)
        | panicked ch => exact h.elim
        | outgrown => exact h.elim
      · simp at he
    · simp at he
  · simp at hc

theorem cal_step (hC : CallOk P φ c) (hφ : ∀ f F, φ f = some F → bodyOk P F = true) {g : Opd} {args : List Opd} (hc : chkOp P φ ψ o.op (.cal g args) = true) (he : evalO c (.cal g args) st.e st.h = some (v, h'))
    (hd : ∀ d, o.dst = some d → d < n ∧ d ∉ D ++ []) : StepOk P φ B n o a w ⟨put o.dst v st.e, h'⟩ (D ++ []) := by
  simp only [chkOp] at hc
  split at hc
  · rename_i g' args' ts ho
    simp only [Bool.and_eq_true] at hc
    have hg := ev_VL hs hc.1
    simp only [evalO] at he
    split at he
    · rename_i f l m hfn
      rw [hfn] at hg
      generalize hA : a.eval g' = A at hg
      cases hg with
      | fn f F l m xs ys hF h1 h2 h3 h4 =>
        have hb := hφ f F hF
        have hrun : (Go.execOp a.eval o).run P w = .ok (.enter F (xs ++ args'.map a.eval ++ ys)) w := by
          have := run_callFunc_body hb (xs ++ args'.map a.eval ++ ys) w
          simpa [Go.execOp, ho, Go.resolve, Go.Deferred.ofValue, Go.invoke, hA] using this
        refine enter_step hs hC hF hrun (rs := []) (fun _ => ?_) (fun e => absurd rfl e) he hd
        obtain ⟨g1, g2⟩ := VRs_san hs hc.2
        have e1 : (xs ++ args'.map a.eval ++ ys).toList = xs.toList ++ args'.toList.map a.eval ++ ys.toList := by simp
        rw [e1]
        have app : ∀ {c : Cx} {l l' : List V} {m m' : List Value}, VRs φ c l m → VRs φ c l' m' → VRs φ c (l ++ l') (m ++ m') := by
          intro c l l' m m' p q
          refine ⟨by simp [p.1, q.1], fun j hj hj' => ?_⟩
          rcases Nat.lt_or_ge j l.length with hlt | hge
          · rw [List.getElem_append_left hlt, List.getElem_append_left (by rw [← p.1]; exact hlt)]
            exact p.2 _ _ _
          · rw [List.getElem_append_right hge, List.getElem_append_right (by rw [← p.1]; exact hge)]
            have := p.1
            simp only [this]
            exact q.2 _ _ _
        exact app (app ⟨by simpa using h1, fun j hj hj' => by simpa using h2 j hj (by simpa using hj')⟩ ⟨g1, g2⟩) ⟨by simpa using h3, fun j hj hj' => by simpa using h4 j hj (by simpa using hj')⟩
    · simp at he
  · simp at hc

end
end Mir

namespace Mir

section
variable {c : Nat → List V → Heap → Option (V × Heap)} {e e' : Env}

def Agree (l : List Nat) (e e' : Env) : Prop := ∀ s, s ∈ l → get e' s = get e s

theorem Agree.sub {l m : List Nat} (h : Agree l e e') (hs : ∀ s, s ∈ m → s ∈ l) : Agree m e e' := fun s hm => h s (hs s hm)

theorem ev_agree {x : Opd} (h : Agree x.slots e e') : ev e' x = ev e x := by
  cases x with
  | c v => rfl
  | t s => simp only [ev, h s (by simp [Opd.slots])]

theorem ea_agree {x : Opd} (h : Agree x.slots e e') : ea e' x = ea e x := by
  cases x with
  | c v => rfl
  | t s => simp only [ea, h s (by simp [Opd.slots])]

theorem evAll_agree {xs : List Opd} (h : Agree (xs.flatMap Opd.slots) e e') : evAll e' xs = evAll e xs := by
  refine List.map_congr_left fun x hx => ev_agree (h.sub fun s hs => List.mem_flatMap.2 ⟨x, hx, hs⟩)

theorem eaAll_agree {xs : List Opd} (h : Agree (xs.flatMap Opd.slots) e e') : xs.map (ea e') = xs.map (ea e) := by
  refine List.map_congr_left fun x hx => ea_agree (h.sub fun s hs => List.mem_flatMap.2 ⟨x, hx, hs⟩)

theorem parts_agree {ps : List (Nat × Nat × Opd)} (h : Agree (ps.flatMap fun p => p.2.2.slots) e e') : parts e' ps = parts e ps := by
  refine List.map_congr_left fun p hp => ?_
  rw [ev_agree (h.sub fun s hs => List.mem_flatMap.2 ⟨p, hp, hs⟩)]

theorem bounds_agree {len cap : Nat} {lo hi : Option Opd} (h : Agree (oslots lo) e e') (h' : Agree (oslots hi) e e') : bounds len cap e' lo hi = bounds len cap e lo hi := by
  unfold bounds
  cases lo <;> cases hi <;> simp only [oslots] at h h' <;> simp only [] <;> try rw [ev_agree h] <;> try rw [ev_agree h']
  all_goals first | rfl | (simp only [ev_agree h, ev_agree h']) | (simp only [ev_agree h']) | (simp only [ev_agree h])

theorem slcV_agree {sz : Nat} {lo hi : Option Opd} {v : V} (h : Agree (oslots lo) e e') (h' : Agree (oslots hi) e e') : slcV e' sz lo hi v = slcV e sz lo hi v := by
  cases v <;> simp only [slcV, bounds_agree h h']

theorem slaV_agree {H : Heap} {n sz : Nat} {lo hi : Option Opd} {v : V} (h : Agree (oslots lo) e e') (h' : Agree (oslots hi) e e') : slaV e' H n sz lo hi v = slaV e H n sz lo hi v := by
  simp only [slaV, bounds_agree h h']

theorem lend_agree {rs : List Nat} {v : V} (h : Agree rs e e') : lend e' rs v = lend e rs v := by
  cases v <;> simp only [lend]
  all_goals
    split
    · rename_i hr
      rw [h _ (by simpa using hr)]
    · rfl

theorem lendAll_agree {rs : List Nat} (h : Agree rs e e') : ∀ l, lendAll e' rs l = lendAll e rs l
  | [] => rfl
  | v :: l => by simp only [lendAll, lend_agree h, lendAll_agree h l]

theorem sliceCellsL_agree {rs : List Nat} {H : Heap} {v : V} (h : Agree rs e e') : sliceCellsL e' H rs v = sliceCellsL e H rs v := by
  cases v <;> simp only [sliceCellsL]
  split
  · rename_i hr
    rw [h _ (by simpa using hr)]
  · rfl

theorem callV_agree {H : Heap} {f : Nat} {rs : List Nat} {l : List V} (h : Agree rs e e') : callV c e' H f rs l = callV c e H f rs l := by
  unfold callV
  cases rs <;> simp only [lendAll_agree h]

theorem Agree.left {l m : List Nat} (h : Agree (l ++ m) e e') : Agree l e e' := h.sub fun s hs => List.mem_append_left _ hs
theorem Agree.right {l m : List Nat} (h : Agree (l ++ m) e e') : Agree m e e' := h.sub fun s hs => List.mem_append_right _ hs
theorem Agree.head {s : Nat} {m : List Nat} (h : Agree (s :: m) e e') : get e' s = get e s := h s (by simp)
theorem Agree.tail {s : Nat} {m : List Nat} (h : Agree (s :: m) e e') : Agree m e e' := h.sub fun s hs => List.mem_cons_of_mem _ hs

/-- An operation's value hangs on what it reads alone. -/
theorem evalO_agree {o : MOp} {H : Heap} (h : Agree o.reads e e') : evalO c o e' H = evalO c o e H := by
  cases o <;> simp only [MOp.reads] at h <;> simp only [evalO]
  case pick a b d => rw [ev_agree h.left.left, ev_agree h.left.right, ev_agree h.right]
  case build z ps => rw [parts_agree h]
  case lit i sz k z ps => rw [parts_agree h]
  case ldl s q x => rw [ea_agree h.tail, h.head]
  case idx n sz x i => rw [ea_agree h.left, ev_agree h.right]
  case idxs sz x i => rw [ea_agree h.left, ev_agree h.right]
  case off k x => rw [ea_agree h]
  case nck x => rw [ea_agree h]
  case sls x lo hi => simp only [ev_agree h.left.left, bounds_agree h.left.right h.right]
  case slv sz x lo hi => simp only [ev_agree h.left.left, slcV_agree h.left.right h.right]
  case sla i n sz x lo hi => simp only [ea_agree h.left.left, slaV_agree h.left.right h.right]
  case fun_ f a b => rw [evAll_agree h.left, evAll_agree h.right]
  case call f rs args =>
    rw [callV_agree h.left]
    cases rs with
    | nil => simp only [evAll_agree h.right]
    | cons r rs => simp only [eaAll_agree h.right]
  case callp f args => simp only [evAll_agree h]
  case callo f args => simp only [evAll_agree h]
  case cal g args => simp only [ev_agree h.left, evAll_agree h.right, callV_agree (rs := []) (c := c) (e := e) (e' := e') (fun s hs => by simp at hs)]
  case prim p args => rw [evAll_agree h]
  all_goals first
    | (simp only [ev_agree h]; done)
    | (simp only [ev_agree h.left, ev_agree h.right]; done)
    | rfl

/-- An operation that leaves the small heap's cells unread: its value hangs not on them. -/
theorem evalO_heap0 {o : MOp} {H H' H1 : Heap} {v : V} (hc : o.cls = 0) (h : evalO c o e H = some (v, H')) : H' = H ∧ evalO c o e H1 = some (v, H1) := by
  cases o <;> simp only [MOp.cls] at hc <;> simp only [evalO] at h ⊢
  case ld i q x =>
    cases i <;> simp at hc
    split at h
    · rename_i l k hx
      simp only [Option.map_eq_some_iff, Prod.mk.injEq] at h ⊢
      obtain ⟨u, hu, rfl, rfl⟩ := h
      exact ⟨rfl, by simp [hu]⟩
    · rename_i k o' hx
      simp [row] at h
    · simp at h
  case b2s i x =>
    cases i <;> simp at hc
    simp only [if_true] at h ⊢
    split at h
    · rename_i l hl
      split at h
      · rename_i m hm
        split at h
        · rename_i hlen
          simp only [Option.some.injEq, Prod.mk.injEq] at h
          obtain ⟨rfl, rfl⟩ := h
          simp [hm, hlen]
        · simp at h
      · simp at h
    · simp at h
  case sla i n sz x lo hi =>
    cases i <;> simp at hc
    simp only [if_true, Option.map_eq_some_iff, Prod.mk.injEq] at h ⊢
    obtain ⟨u, hu, rfl, rfl⟩ := h
    exact ⟨rfl, by simp [hu]⟩
  case lit i sz k z ps =>
    cases i <;> simp at hc
    split at h
    · rename_i l hl
      simp only [if_true, Option.some.injEq, Prod.mk.injEq] at h ⊢
      obtain ⟨rfl, rfl⟩ := h
      simp
    · simp at h
  case callp f args =>
    split at h
    · rename_i hs
      split at h
      · rename_i u hu
        simp only [Option.some.injEq, Prod.mk.injEq] at h
        obtain ⟨rfl, rfl⟩ := h
        simp [hs]
      · simp at h
    · simp at h
  case box x =>
    split at h
    · rename_i hb
      simp only [Option.some.injEq, Prod.mk.injEq] at h
      obtain ⟨rfl, rfl⟩ := h
      simp [hb]
    · simp at h
  case boxv x =>
    split at h
    · rename_i hb
      simp only [Option.some.injEq, Prod.mk.injEq] at h
      obtain ⟨rfl, rfl⟩ := h
      simp [hb]
    · simp at h
  case fun_ f a b =>
    split at h
    · rename_i hb
      simp only [Option.some.injEq, Prod.mk.injEq] at h
      obtain ⟨rfl, rfl⟩ := h
      simp only [if_pos hb, and_self]
    · simp at h
  all_goals first
    | (simp at hc; done)
    | (simp at h; done)
    | (simp only [Option.map_eq_some_iff, Prod.mk.injEq] at h ⊢
       obtain ⟨u, hu, rfl, rfl⟩ := h
       exact ⟨rfl, u, hu, rfl, rfl⟩)
    | (simp only [Option.some.injEq, Prod.mk.injEq] at h ⊢
       exact ⟨h.2.symm, h.1, rfl⟩)
    | (repeat' split at h
       all_goals first
         | (simp at h; done)
         | (simp only [Option.some.injEq, Prod.mk.injEq] at h
            obtain ⟨rfl, rfl⟩ := h
            simp [*]; done)
         | (simp only [Option.map_eq_some_iff, Prod.mk.injEq] at h
            obtain ⟨u, hu, rfl, rfl⟩ := h
            simp [*]; done))

theorem evalO_heap1 {o : MOp} {H H' : Heap} {v : V} (hc : o.cls ≤ 1) (h : evalO c o e H = some (v, H')) : H' = H := by
  rcases Nat.lt_or_ge o.cls 1 with h0 | h0
  · exact (evalO_heap0 (H1 := H) (by omega) h).1
  have h1 : o.cls = 1 := by omega
  cases o <;> simp only [MOp.cls] at h1 <;> try (simp at h1; done)
  all_goals
    simp only [evalO] at h
    repeat' split at h
    all_goals first
      | (simp at h; done)
      | (simp only [Option.some.injEq, Prod.mk.injEq] at h; exact h.2.symm)
      | (simp only [Option.map_eq_some_iff, Prod.mk.injEq] at h
         obtain ⟨u, hu, _, rfl⟩ := h; rfl)
      | (exfalso; revert h1; split <;> simp_all; done)

theorem get_put' (d : Option Nat) (v : V) (e : Env) (s : Nat) : get (put d v e) s = if d = some s then v else get e s := by
  cases d with
  | none => simp [put]
  | some t =>
    simp only [put, get]
    by_cases h : t = s
    · subst h; simp
    · have : Nat.beq t s = false := by rw [← Bool.not_eq_true, Nat.beq_eq]; exact h
      simp [h, this]

theorem get_cons' (t : Nat) (v : V) (e : Env) (s : Nat) : get ((t, v) :: e) s = if t = s then v else get e s := by
  have := get_put' (some t) v e s
  simpa [put] using this

/-- What a step does, from a state that agrees on what it reads. -/
structure Frm (o : MO) (st st' st1 st2 : St) : Prop where
  wr : ∀ s, s ∈ o.writes → get st2.e s = get st'.e s
  rest : ∀ s, s ∉ o.writes → get st2.e s = get st1.e s
  low : o.op.cls ≤ 1 → st2.h = st1.h ∧ st'.h = st.h
  high : o.op.cls = 2 → st2.h = st'.h

theorem doO_frame {o : MO} {st st' st1 : St} (h : doO c o st = some st') (ha : Agree o.reads st.e st1.e) (hh : o.op.cls = 0 ∨ st1.h = st.h) :
    ∃ st2, doO c o st1 = some st2 ∧ Frm o st st' st1 st2 := by
  have gen : o.writes = o.d.toList → (match evalO c o.op st.e st.h with | some (v, h) => some (⟨put o.d v st.e, h⟩ : St) | none => none) = some st' →
      ∃ st2, (match evalO c o.op st1.e st1.h with | some (v, h) => some (⟨put o.d v st1.e, h⟩ : St) | none => none) = some st2 ∧ Frm o st st' st1 st2 := by
    intro hw h
    cases hx : evalO c o.op st.e st.h with
    | none => simp [hx] at h
    | some r =>
      obtain ⟨v, H'⟩ := r
      simp only [hx, Option.some.injEq] at h
      subst h
      have ha' : Agree o.op.reads st.e st1.e := ha.right
      have mk : ∀ H2, evalO c o.op st1.e st1.h = some (v, H2) → (o.op.cls ≤ 1 → H2 = st1.h ∧ H' = st.h) → (o.op.cls = 2 → H2 = H') →
          ∃ st2, (match evalO c o.op st1.e st1.h with | some (v, h) => some (⟨put o.d v st1.e, h⟩ : St) | none => none) = some st2 ∧ Frm o st ⟨put o.d v st.e, H'⟩ st1 st2 := by
        intro H2 h1 h2 h3
        refine ⟨⟨put o.d v st1.e, H2⟩, by rw [h1], ⟨fun s hs => ?_, fun s hs => ?_, h2, h3⟩⟩
        · rw [hw] at hs
          have : o.d = some s := by cases hd : o.d <;> simp [hd] at hs ⊢; exact hs.symm
          simp [get_put', this]
        · rw [hw] at hs
          have : o.d ≠ some s := by intro e; simp [e] at hs
          simp [get_put', this]
      rcases hh with h0 | h0
      · obtain ⟨g1, g2⟩ := evalO_heap0 (H1 := st1.h) h0 hx
        exact mk st1.h (by rw [evalO_agree ha']; exact g2) (fun _ => ⟨rfl, g1⟩) (fun e => by omega)
      · refine mk H' (by rw [evalO_agree ha', h0]; exact hx) (fun hl => ?_) (fun _ => rfl)
        have := evalO_heap1 hl hx
        exact ⟨by rw [this, h0], this⟩
  obtain ⟨d, g, op⟩ := o
  cases op
  case stl s k x v =>
    simp only [MO.reads, MOp.reads] at ha
    have ha' := ha.right
    simp only [doO] at h ⊢
    rw [ea_agree ha'.tail.left, ev_agree ha'.tail.right, ha'.head]
    split at h
    · rename_i s' k' hx
      split at h
      · rename_i hs'
        split at h
        · rename_i l hl
          split at h
          · rename_i hcond
            simp only [Option.some.injEq] at h
            subst h
            simp only [if_pos hs', if_pos hcond]
            refine ⟨_, rfl, fun t ht => ?_, fun t ht => ?_, fun _ => ⟨rfl, rfl⟩, fun e => by simp [MOp.cls] at e⟩
            · simp only [MO.writes, List.mem_singleton] at ht
              simp [get_cons', ht]
            · simp only [MO.writes, List.mem_singleton] at ht
              simp [get_cons', Ne.symm ht]
          · simp at h
        · simp at h
      · simp at h
    · simp at h
  case cpyl s sz rs x y =>
    simp only [MO.reads, MOp.reads] at ha
    have ha' := ha.right
    have hh' : st1.h = st.h := hh.resolve_left (by simp [MOp.cls])
    simp only [doO] at h ⊢
    rw [ev_agree ha'.tail.left.right, ev_agree ha'.tail.right, ha'.head, hh', sliceCellsL_agree ha'.tail.left.left]
    split at h
    · rename_i sz' s' off len cap hx
      split at h
      · rename_i hs'
        split at h
        · rename_i l m b hl hm hb
          split at h
          · rename_i hcond
            simp only [Option.some.injEq] at h
            subst h
            simp only [if_pos hs', if_pos hcond]
            refine ⟨_, rfl, fun t ht => ?_, fun t ht => ?_, fun e => by simp [MOp.cls] at e, fun _ => rfl⟩
            · simp only [MO.writes, List.mem_cons, Option.mem_toList] at ht
              simp only [get_put', get_cons']
              rcases ht with rfl | ht
              · simp
              · simp [ht]
            · simp only [MO.writes, List.mem_cons, Option.mem_toList, not_or] at ht
              simp [get_put', get_cons', ht.2, Ne.symm ht.1]
          · simp at h
        · simp at h
      · simp at h
    · simp at h
  all_goals exact gen (by simp [MO.writes]) h


theorem stepO_frame {o : MO} {st st' st1 : St} (h : stepO c o st = some st') (ha : Agree o.reads st.e st1.e) (hh : o.op.cls = 0 ∨ st1.h = st.h) (hw : ∀ d, o.g.isSome = true → o.d = some d → o.writes = [d]) (hw2 : o.g.isSome = true → o.d = none → o.writes = []) :
    ∃ st2, stepO c o st1 = some st2 ∧ Frm o st st' st1 st2 := by
  unfold stepO at h ⊢
  cases hg : o.g with
  | none => simp only [hg] at h ⊢; exact doO_frame h ha hh
  | some p =>
    obtain ⟨s, w⟩ := p
    simp only [hg] at h ⊢
    have he : get st1.e s = get st.e s := by
      have := ha s
      simp only [MO.reads, hg] at this
      exact this (by simp)
    have hsome : o.g.isSome = true := by simp [hg]
    have skip : ∀ v, Frm o st ⟨put o.d v st.e, st.h⟩ st1 ⟨put o.d v st1.e, st1.h⟩ := by
      intro v
      refine ⟨fun t ht => ?_, fun t ht => ?_, fun _ => ⟨rfl, rfl⟩, fun e => (hh.resolve_left (by omega))⟩
      · cases hd : o.d with
        | none => rw [hw2 hsome hd] at ht; simp at ht
        | some d =>
          rw [hw d hsome hd] at ht
          simp at ht
          simp [get_put', hd, ht]
      · cases hd : o.d with
        | none => simp [get_put']
        | some d =>
          rw [hw d hsome hd] at ht
          simp at ht
          simp [get_put', Ne.symm ht]
    rw [he]
    split at h
    · rename_i x hx
      by_cases hxw : x = w
      · simp only [hxw, if_true] at h ⊢
        exact doO_frame h ha hh
      · simp only [hxw, if_false, Option.some.injEq] at h ⊢
        subst h
        exact ⟨_, rfl, skip _⟩
    · rename_i hx
      simp only [Option.some.injEq] at h
      subst h
      exact ⟨_, rfl, skip _⟩
    · simp at h

/-- Only an operation without an effect on local variables may be guarded. -/
def guardW (o : MO) : Bool := match o.g, o.op with
  | some _, .stl _ _ _ _ => false
  | some _, .cpyl _ _ _ _ _ => false
  | _, _ => true

theorem guardW_ok {o : MO} (h : guardW o = true) : (∀ d, o.g.isSome = true → o.d = some d → o.writes = [d]) ∧ (o.g.isSome = true → o.d = none → o.writes = []) := by
  obtain ⟨d, g, op⟩ := o
  constructor
  · intro d' hg hd
    cases g with
    | none => simp at hg
    | some p =>
      simp only at hd
      subst hd
      cases op <;> simp [guardW] at h <;> simp [MO.writes]
  · intro hg hd
    cases g with
    | none => simp at hg
    | some p =>
      simp only at hd
      subst hd
      cases op <;> simp [guardW] at h <;> simp [MO.writes]

/-- The same slots' values, the same small heap. -/
structure Eqv (a b : St) : Prop where
  e : ∀ s, get a.e s = get b.e s
  h : a.h = b.h

theorem Eqv.refl (a : St) : Eqv a a := ⟨fun _ => rfl, rfl⟩
theorem Eqv.symm {a b : St} (h : Eqv a b) : Eqv b a := ⟨fun s => (h.e s).symm, h.h.symm⟩
theorem Eqv.trans {a b d : St} (h : Eqv a b) (h' : Eqv b d) : Eqv a d := ⟨fun s => (h.e s).trans (h'.e s), h.h.trans h'.h⟩

theorem Frm.self {o : MO} {st st' : St} (hg : guardW o = true) (h : stepO c o st = some st') : Frm o st st' st st' := by
  obtain ⟨st2, h1, h2⟩ := stepO_frame h (fun _ _ => rfl) (.inr rfl) (guardW_ok hg).1 (guardW_ok hg).2
  rw [h] at h1
  simp only [Option.some.injEq] at h1
  subst h1
  exact h2

theorem cls_le (m : MOp) : m.cls ≤ 2 := by
  cases m <;> simp only [MOp.cls] <;> (try split) <;> omega

theorem stepO_eqv {o : MO} {st st' st1 : St} (hg : guardW o = true) (h : stepO c o st = some st') (he : Eqv st st1) : ∃ st2, stepO c o st1 = some st2 ∧ Eqv st' st2 := by
  obtain ⟨st2, h1, h2⟩ := stepO_frame h (fun s _ => (he.e s).symm) (.inr he.h.symm) (guardW_ok hg).1 (guardW_ok hg).2
  have hf := Frm.self hg h
  refine ⟨st2, h1, fun s => ?_, ?_⟩
  · by_cases hs : s ∈ o.writes
    · exact (h2.wr s hs).symm
    · rw [h2.rest s hs, hf.rest s hs, he.e s]
  · have := cls_le o.op
    rcases Nat.lt_or_ge o.op.cls 2 with hc | hc
    · rw [(h2.low (by omega)).1, (h2.low (by omega)).2, he.h]
    · exact (h2.high (by omega)).symm

theorem execOps_eqv : ∀ (l : List MO) {st st' st1 : St}, (∀ o ∈ l, guardW o = true) → execOps c l st = some st' → Eqv st st1 → ∃ st2, execOps c l st1 = some st2 ∧ Eqv st' st2
  | [], st, st', st1, _, h, he => by simp [execOps] at h; subst h; exact ⟨st1, rfl, he⟩
  | o :: l, st, st', st1, hg, h, he => by
    simp only [execOps] at h
    split at h
    · rename_i s1 h1
      obtain ⟨s2, h2, e2⟩ := stepO_eqv (hg o (by simp)) h1 he
      obtain ⟨s3, h3, e3⟩ := execOps_eqv l (fun o ho => hg o (by simp [ho])) h e2
      exact ⟨s3, by simp [execOps, h2, h3], e3⟩
    · simp at h

/-- Two operations do not touch each other. -/
structure Indep (x y : MO) : Prop where
  xr : ∀ s, s ∈ x.writes → s ∉ y.reads
  xw : ∀ s, s ∈ x.writes → s ∉ y.writes
  yr : ∀ s, s ∈ y.writes → s ∉ x.reads
  hx : x.op.cls = 2 → y.op.cls = 0
  hy : y.op.cls = 2 → x.op.cls = 0

theorem swap {x y : MO} (hi : Indep x y) (gx : guardW x = true) (gy : guardW y = true) {st s1 s2 : St} (h1 : stepO c x st = some s1) (h2 : stepO c y s1 = some s2) :
    ∃ t1 t2, stepO c y st = some t1 ∧ stepO c x t1 = some t2 ∧ Eqv s2 t2 := by
  have fx := Frm.self gx h1
  have fy := Frm.self gy h2
  have cx := cls_le x.op
  have cy := cls_le y.op
  obtain ⟨t1, h3, f3⟩ := stepO_frame (st1 := st) h2 (fun s hs => (fx.rest s (fun h => hi.xr s h hs)).symm) (by
    rcases Nat.lt_or_ge x.op.cls 2 with h | h
    · exact .inr (fx.low (by omega)).2.symm
    · exact .inl (hi.hx (by omega))) (guardW_ok gy).1 (guardW_ok gy).2
  obtain ⟨t2, h4, f4⟩ := stepO_frame (st1 := t1) h1 (fun s hs => f3.rest s (fun h => hi.yr s h hs)) (by
    rcases Nat.lt_or_ge y.op.cls 2 with h | h
    · exact .inr (f3.low (by omega)).1
    · exact .inl (hi.hy (by omega))) (guardW_ok gx).1 (guardW_ok gx).2
  refine ⟨t1, t2, h3, h4, fun s => ?_, ?_⟩
  · by_cases hx : s ∈ x.writes
    · rw [f4.wr s hx, fy.rest s (hi.xw s hx)]
    · rw [f4.rest s hx]
      by_cases hy : s ∈ y.writes
      · rw [f3.wr s hy]
      · rw [f3.rest s hy, fy.rest s hy, fx.rest s hx]
  · rcases Nat.lt_or_ge x.op.cls 2 with hx | hx
    · rcases Nat.lt_or_ge y.op.cls 2 with hy | hy
      · rw [(f4.low (by omega)).1, (f3.low (by omega)).1, (f3.low (by omega)).2, (fx.low (by omega)).2]
      · rw [(f4.low (by omega)).1, f3.high (by omega)]
    · have := hi.hx (by omega)
      rw [f4.high (by omega), (f3.low (by omega)).2]

/-- An operation is brought ahead of others that it does not touch. -/
theorem bubble {x : MO} : ∀ (A B : List MO) {st st' : St}, (∀ o ∈ A, Indep o x) → (∀ o ∈ A, guardW o = true) → guardW x = true → (∀ o ∈ B, guardW o = true) →
    execOps c (A ++ x :: B) st = some st' → ∃ st2, execOps c (x :: (A ++ B)) st = some st2 ∧ Eqv st' st2
  | [], B, st, st', _, _, _, _, h => ⟨st', h, Eqv.refl _⟩
  | o :: A, B, st, st', hi, hg, gx, gB, h => by
    simp only [List.cons_append, execOps] at h
    split at h
    · rename_i s1 h1
      obtain ⟨s2, h2, e2⟩ := bubble A B (fun o ho => hi o (by simp [ho])) (fun o ho => hg o (by simp [ho])) gx gB h
      simp only [execOps] at h2
      split at h2
      · rename_i s3 h3
        obtain ⟨t1, t2, g1, g2, e3⟩ := swap (hi o (by simp)) (hg o (by simp)) gx h1 h3
        obtain ⟨s4, h4, e4⟩ := execOps_eqv (A ++ B) (fun o ho => by rcases List.mem_append.1 ho with h | h; exact hg o (by simp [h]); exact gB o h) h2 e3
        exact ⟨s4, by simp [execOps, g1, g2, h4], e2.trans e4⟩
      · simp at h2
    · simp at h

def ins (x : Nat) : List Nat → List Nat
  | [] => [x]
  | y :: l => if x < y then x :: y :: l else y :: ins x l

def isort : List Nat → List Nat
  | [] => []
  | x :: l => ins x (isort l)

theorem ins_spec (x : Nat) : ∀ l : List Nat, l.Pairwise (· < ·) → x ∉ l → ∃ A B, l = A ++ B ∧ ins x l = A ++ x :: B ∧ (∀ y ∈ A, y < x) ∧ (∀ y ∈ B, x < y)
  | [], _, _ => ⟨[], [], rfl, rfl, by simp, by simp⟩
  | y :: l, hp, hx => by
    simp only [ins]
    by_cases h : x < y
    · refine ⟨[], y :: l, rfl, by simp [h], by simp, fun z hz => ?_⟩
      rcases List.mem_cons.1 hz with rfl | hz
      · exact h
      · exact Nat.lt_trans h ((List.pairwise_cons.1 hp).1 z hz)
    · obtain ⟨A, B, h1, h2, h3, h4⟩ := ins_spec x l (List.pairwise_cons.1 hp).2 (fun h => hx (by simp [h]))
      have hne : x ≠ y := fun e => hx (by simp [e])
      refine ⟨y :: A, B, by simp [h1], by simp [h, h2], fun z hz => ?_, h4⟩
      rcases List.mem_cons.1 hz with rfl | hz
      · omega
      · exact h3 z hz

theorem isort_spec : ∀ l : List Nat, l.Nodup → (isort l).Pairwise (· < ·) ∧ (isort l).Perm l
  | [], _ => ⟨List.Pairwise.nil, .refl _⟩
  | x :: l, h => by
    obtain ⟨h1, h2⟩ := List.nodup_cons.1 h
    obtain ⟨h3, h4⟩ := isort_spec l h2
    obtain ⟨A, B, e1, e2, h5, h6⟩ := ins_spec x (isort l) h3 (fun hm => h1 (h4.subset hm))
    simp only [isort]
    rw [e2]
    rw [e1] at h3 h4
    refine ⟨?_, List.perm_middle.trans (List.Perm.cons x h4)⟩
    rw [List.pairwise_append] at h3 ⊢
    refine ⟨h3.1, List.pairwise_cons.2 ⟨h6, h3.2.1⟩, fun a ha b hb => ?_⟩
    rcases List.mem_cons.1 hb with rfl | hb
    · exact h5 a ha
    · exact h3.2.2 a ha b hb

/-- Whatever the order: if only operations that do not touch each other change places, the same comes out. -/
theorem order_free (M : Nat → MO) : ∀ (L : List Nat), L.Nodup → L.Pairwise (fun x y => y < x → Indep (M y) (M x)) → (∀ i ∈ L, guardW (M i) = true) →
    ∀ {st st' : St}, execOps c ((isort L).map M) st = some st' → ∃ st2, execOps c (L.map M) st = some st2 ∧ Eqv st' st2
  | [], _, _, _, st, st', h => ⟨st', h, Eqv.refl _⟩
  | x :: L, hn, hp, hg, st, st', h => by
    obtain ⟨h1, h2⟩ := List.nodup_cons.1 hn
    obtain ⟨p1, p2⟩ := List.pairwise_cons.1 hp
    obtain ⟨h3, h4⟩ := isort_spec L h2
    obtain ⟨A, B, e1, e2, h5, h6⟩ := ins_spec x (isort L) h3 (fun hm => h1 (h4.subset hm))
    simp only [isort] at h
    rw [e2] at h
    simp only [List.map_append, List.map_cons] at h
    have inL : ∀ y, y ∈ A ++ B → y ∈ L := fun y hy => h4.subset (e1 ▸ hy)
    obtain ⟨s2, g2, f2⟩ := bubble (A.map M) (B.map M) (fun o ho => by
        obtain ⟨y, hy, rfl⟩ := List.mem_map.1 ho
        exact p1 y (inL y (by simp [hy])) (h5 y hy))
      (fun o ho => by obtain ⟨y, hy, rfl⟩ := List.mem_map.1 ho; exact hg y (by simp [inL y (by simp [hy])])) (hg x (by simp))
      (fun o ho => by obtain ⟨y, hy, rfl⟩ := List.mem_map.1 ho; exact hg y (by simp [inL y (by simp [hy])])) h
    simp only [execOps] at g2
    split at g2
    · rename_i s3 g3
      rw [← List.map_append, ← e1] at g2
      obtain ⟨s4, g4, f4⟩ := order_free M L h2 p2 (fun i hi => hg i (by simp [hi])) g2
      exact ⟨s4, by simp [execOps, g3, g4], f2.trans f4⟩
    · simp at g2

theorem isort_range {L : List Nat} {n : Nat} (h : L.Perm (List.range n)) : isort L = List.range n := by
  have hn : L.Nodup := h.nodup_iff.2 List.nodup_range
  obtain ⟨h1, h2⟩ := isort_spec L hn
  exact List.Perm.eq_of_pairwise (fun a b _ _ h h' => absurd (Nat.lt_trans h h') (Nat.lt_irrefl _)) h1 List.pairwise_lt_range (h2.trans h)

end
end Mir

namespace Mir
open Go (Value Addr IntKind World Obj Act Program FuncId TypeId Operand Op Oper Code TypeDesc Sem Result)

def dstOk (n : Nat) (m : MO) : Bool :=
  (match m.op, m.d with
   | .st _ _ _, some _ => false
   | .stl _ _ _ _, some _ => false
   | .box _, none => false
   | _, _ => true) && (match m.d with
   | some d => decide (d < n)
   | none => true) && guardW m

def chkGuard (ops : List Oper) (o : Oper) (m : MO) : Bool := match o.guard, m.g with
  | none, none => true
  | some (j, w), some (s, w') => (match ops[j]? with
    | some o' => o'.dst == some s
    | none => false) && w == w'
  | _, _ => false

section
variable {P : Program} {φ : Nat → Option FuncId} {ψ : Prim → FuncId → Bool} {B : Base} {n : Nat} {st : St} {a : Act} {w : World} {O : Nat → Prop} {loc : List (Nat × Nat)} {D : List Nat}

def chkOper (P : Program) (φ : Nat → Option FuncId) (ψ : Prim → FuncId → Bool) (n : Nat) (ops : List Oper) (o : Oper) (m : MO) : Bool :=
  o.dst == m.d && dstOk n m && chkGuard ops o m && chkOp P φ ψ o.op m.op

/-- What is known of a program's functions. -/
structure Env0 (P : Program) (φ : Nat → Option FuncId) (ψ : Prim → FuncId → Bool) : Prop where
  bodies : ∀ f F, φ f = some F → bodyOk P F = true
  prims : ∀ p F, ψ p F = true → PrimOk P p F

variable (hs : Sim φ B n st a w O loc D) {c : Call}
include hs

theorem do_step (hE : Env0 P φ ψ) (hC : CallOk P φ c) {o : Oper} {m : MO} {st' : St} (hdm : o.dst = m.d) (hdo : dstOk n m = true) (hc : chkOp P φ ψ o.op m.op = true) (he : doO c m st = some st')
    (hD : ∀ d, m.d = some d → d ∉ D ++ m.op.addrs) : StepOk P φ B n o a w st' (D ++ m.op.addrs) := by
  obtain ⟨d, g, op⟩ := m
  simp only at hdm hc hD
  have hd : ∀ d, o.dst = some d → d < n ∧ d ∉ D ++ op.addrs := by
    intro d' h
    rw [hdm] at h
    refine ⟨?_, hD d' h⟩
    simp only [dstOk, h, Bool.and_eq_true, decide_eq_true_eq] at hdo
    exact hdo.1.2
  have gen : (∀ v h', evalO c op st.e st.h = some (v, h') → StepOk P φ B n o a w ⟨put o.dst v st.e, h'⟩ (D ++ op.addrs)) →
      (match evalO c op st.e st.h with | some (v, h) => some (⟨put d v st.e, h⟩ : St) | none => none) = some st' → StepOk P φ B n o a w st' (D ++ op.addrs) := by
    intro hg h
    cases hx : evalO c op st.e st.h with
    | none => simp [hx] at h
    | some r =>
      obtain ⟨v, h'⟩ := r
      simp only [hx, Option.some.injEq] at h
      subst h
      have := hg v h' hx
      rw [hdm] at this
      exact this
  cases op
  case fail => simp [doO, evalO] at he
  case mov x => exact gen (fun v h' hv => pure_step hs (mov_ok hs hc hv) hd) he
  case pick x y z => exact gen (fun v h' hv => pure_step hs (pick_ok hs hc hv) hd) he
  case bin b x y => exact gen (fun v h' hv => pure_step hs (bin_ok hs hc hv) hd) he
  case eqv k g x y => exact gen (fun v h' hv => pure_step hs (eqv_okR hs hc hv) hd) he
  case un k x => exact gen (fun v h' hv => pure_step hs (un_okR hs hc hv) hd) he
  case cvi x => exact gen (fun v h' hv => pure_step hs (cvi_okR hs hc hv) hd) he
  case cvu k x => exact gen (fun v h' hv => pure_step hs (cvu_okR hs hc hv) hd) he
  case s2b x => exact gen (fun v h' hv => s2b_step hs hc hv hd) he
  case b2s i x => exact gen (fun v h' hv => pure_step hs (b2s_okR hs hc hv) hd) he
  case build z ps => exact gen (fun v h' hv => pure_step hs (build_okR hs hc hv) hd) he
  case box x =>
    cases d with
    | none => simp [dstOk] at hdo
    | some d =>
      refine gen (fun v h' hv => ?_) he
      have := box_step hs hc hv hdm (hd d hdm).1 (fun h => (hd d hdm).2 (List.mem_append_left _ h))
      rw [hdm]
      simpa [MOp.addrs] using this
  case boxv x => exact gen (fun v h' hv => boxv_step hs hc hv hd) he
  case boxh x => exact gen (fun v h' hv => boxh_step hs hc hv hd) he
  case lit i sz k z ps => exact gen (fun v h' hv => lit_step hs hc hv hd) he
  case mks sz b z x y => exact gen (fun v h' hv => mks_step hs hc hv hd) he
  case off k x => exact gen (fun v h' hv => pure_step hs (off_okR hs hc hv) hd) he
  case idx k sz x y => exact gen (fun v h' hv => pure_step hs (idx_okR hs hc hv) hd) he
  case idxs sz x y => exact gen (fun v h' hv => pure_step hs (idxs_okR hs hc hv) hd) he
  case ld i q x => exact gen (fun v h' hv => pure_step hs (ld_okR hs hc hv) hd) he
  case ldl s q x => exact gen (fun v h' hv => pure_step hs (ldl_okR hs hc hv) hd) he
  case st k x y =>
    cases d with
    | some d => simp [dstOk] at hdo
    | none =>
      refine gen (fun v h' hv => ?_) he
      rw [hdm]
      exact st_step hs hc hv hdm
  case stl s k x y =>
    cases d with
    | some d => simp [dstOk] at hdo
    | none =>
      simp only [doO] at he
      split at he
      · rename_i s' k' hx
        split at he
        · rename_i hs'
          subst hs'
          split at he
          · rename_i l hl
            split at he
            · rename_i hcond
              simp only [Option.some.injEq] at he
              subst he
              have := stl_step hs hc hx hl hcond hdm
              intro K Q hK
              exact this K Q fun a' w' O' loc' h => hK a' w' O' loc' (h.more _ fun s hm => List.mem_append_left _ hm)
            · simp at he
          · simp at he
        · simp at he
      · simp at he
  case nck x => exact gen (fun v h' hv => pure_step hs (nck_okR hs hc hv) hd) he
  case fld q k x => exact gen (fun v h' hv => pure_step hs (fld_okR hs hc hv) hd) he
  case idxv k sz ag x y => exact gen (fun v h' hv => pure_step hs (idxv_okR hs hc hv) hd) he
  case idxb x y => exact gen (fun v h' hv => pure_step hs (idxb_okR hs hc hv) hd) he
  case sls x lo hi => exact gen (fun v h' hv => pure_step hs (sls_okR hs hc hv) hd) he
  case slv sz x lo hi => exact gen (fun v h' hv => pure_step hs (slv_okR hs hc hv) hd) he
  case sla i k sz x lo hi => exact gen (fun v h' hv => pure_step hs (sla_okR hs hc hv) hd) he
  case s2a k x => exact gen (fun v h' hv => pure_step hs (s2a_okR hs hc hv) hd) he
  case ext k x => exact gen (fun v h' hv => pure_step hs (ext_okR hs hc hv) hd) he
  case fun_ f xs ys => exact gen (fun v h' hv => pure_step hs (fun_okR hs hc hv) hd) he
  case call f rs args =>
    refine gen (fun v h' hv => ?_) he
    have := call_step hs hC hc hv (fun d h => ⟨(hd d h).1, fun hm => (hd d h).2 (List.mem_append_left _ (by simpa using hm))⟩)
    intro K Q hK
    exact this K Q fun a' w' O' loc' h => hK a' w' O' loc' (h.more _ fun s hm => List.mem_append_left _ (by simpa using hm))
  case callp f args => exact gen (fun v h' hv => callp_step hs hC hc hv hd) he
  case callo f args => exact gen (fun v h' hv => callo_step hs hC hc hv hd) he
  case cal g args => exact gen (fun v h' hv => cal_step hs hC hE.bodies hc hv hd) he
  case prim p args => exact gen (fun v h' hv => pure_step hs (prim_okR hs hE.prims hc hv) hd) he
  case len x => exact gen (fun v h' hv => pure_step hs (len_okR hs hc hv) hd) he
  case lens x => exact gen (fun v h' hv => pure_step hs (lens_okR hs hc hv) hd) he
  case mn x y => exact gen (fun v h' hv => pure_step hs (mn_okR hs hc hv) hd) he
  case mx x y => exact gen (fun v h' hv => pure_step hs (mx_okR hs hc hv) hd) he
  case app sz b x y => exact gen (fun v h' hv => app_step hs hc hv hd) he
  case frz x => exact gen (fun v h' hv => frz_step hs hc hv hd) he
  case cpy sz x y => exact gen (fun v h' hv => cpy_step hs hc hv hd) he
  case cpyl s sz rs x y =>
    simp only [doO] at he
    split at he
    · rename_i sz' s' off len cap hx
      split at he
      · rename_i hs'
        obtain ⟨rfl, rfl⟩ := hs'
        split at he
        · rename_i l q b hl hm hb
          split at he
          · rename_i hcond
            simp only [Option.some.injEq] at he
            subst he
            have := cpyl_step hs hc hx hl hm hb hcond hd
            rw [hdm] at this
            exact this
          · simp at he
        · simp at he
      · simp at he
    · simp at he

/-- One operation, its guard and all. -/
theorem oper_step (hE : Env0 P φ ψ) (hC : CallOk P φ c) {ops : Array Oper} {i : Nat} {o : Oper} (ho : ops[i]? = some o) {m : MO} {st' : St} (hc : chkOper P φ ψ n ops.toList o m = true) (he : stepO c m st = some st')
    (hD : ∀ d, m.d = some d → d ∉ D ++ m.op.addrs) {K : Act → World → Prop} {Q : Go.Exit → Act → World → Prop}
    (hK : ∀ a' w' O' loc', Sim φ B n st' a' w' O' loc' (D ++ m.op.addrs) → K a' w') : Go.wpOp P ops Q i K a w := by
  simp only [chkOper, Bool.and_eq_true, beq_iff_eq] at hc
  obtain ⟨⟨⟨hdm, hdo⟩, hg⟩, hc⟩ := hc
  unfold Go.wpOp
  rw [ho]
  simp only []
  have hd : ∀ d, o.dst = some d → d < n ∧ d ∉ D ++ m.op.addrs := by
    intro d' h
    rw [hdm] at h
    refine ⟨?_, hD d' h⟩
    simp only [dstOk, h, Bool.and_eq_true, decide_eq_true_eq] at hdo
    exact hdo.1.2
  have skip : Sim φ B n ⟨put m.d (.tup []) st.e, st.h⟩ (a.put o.dst Go.undef) w O loc (D ++ m.op.addrs) := by
    have := put_step hs (o := o) (v := .tup []) (x := Go.undef) (VL_of_VR (.tup [] #[] rfl fun j h => absurd h (by simp))) m.op.addrs (LpIn.plain (by simp) (by simp)) hd
    rw [hdm] at this ⊢
    exact this
  have done : ∀ {st'}, doO c m st = some st' → (∀ a' w' O' loc', Sim φ B n st' a' w' O' loc' (D ++ m.op.addrs) → K a' w') → o.wp P a w K Q := fun he hK =>
    do_step hs hE hC hdm hdo hc he hD K Q hK
  unfold stepO at he
  unfold chkGuard at hg
  split at hg
  · rename_i h1 h2
    simp only [h2] at he
    have hw : Go.Region.wanted o (Go.yielded ops a.tmps) = true := by simp [Go.Region.wanted, h1]
    rw [if_pos hw]
    exact .inl (done he hK)
  · rename_i j wt s wt' h1 h2
    simp only [Bool.and_eq_true, beq_iff_eq] at hg
    obtain ⟨hj, rfl⟩ := hg
    split at hj
    · rename_i o' ho'
      simp only [beq_iff_eq] at hj
      simp only [h2] at he
      have hy : Go.yielded ops a.tmps j = match a.tmps[s]? with | some (.bool b) => some b | _ => none := by
        have ho'' : ops[j]? = some o' := by simpa using ho'
        simp [Go.yielded, ho'', hj]
        rfl
      have henv := hs.env s
      split at he
      · rename_i x hx
        rw [hx] at henv
        obtain ⟨y, hy1, hy2⟩ := henv
        have hyb : y = .bool x := by cases hy2; rfl
        subst hyb
        by_cases hxw : x = wt
        · subst hxw
          rw [if_pos rfl] at he
          have hw : Go.Region.wanted o (Go.yielded ops a.tmps) = true := by simp [Go.Region.wanted, h1, hy, hy1]
          rw [if_pos hw]
          exact .inl (done he hK)
        · rw [if_neg hxw] at he
          simp only [Option.some.injEq] at he
          subst he
          have hw : ¬ Go.Region.wanted o (Go.yielded ops a.tmps) = true := by simp [Go.Region.wanted, h1, hy, hy1, hxw]
          rw [if_neg hw]
          exact hK _ _ _ _ skip
      · rename_i hx
        rw [hx] at henv
        obtain ⟨y, hy1, hy2⟩ := henv
        have hyb : y = .tuple #[] := by
          cases hy2 with
          | tup l cs h1 h2 =>
            have h3 : cs = #[] := Array.eq_empty_of_size_eq_zero (by simpa using h1.symm)
            rw [h3]
        subst hyb
        simp only [Option.some.injEq] at he
        subst he
        have hw : ¬ Go.Region.wanted o (Go.yielded ops a.tmps) = true := by simp [Go.Region.wanted, h1, hy, hy1]
        rw [if_neg hw]
        exact hK _ _ _ _ skip
      · simp at he
    · simp at hj
  · simp at hg

end
end Mir

namespace Mir
open Go (Value Addr IntKind World Obj Act Program FuncId TypeId Operand Op Oper Code TypeDesc Sem Result)

/- ## Slots as bits -/

def bits (l : List Nat) : Nat := l.foldl (fun m s => m ||| (1 <<< s)) 0

theorem bits_fold (l : List Nat) : ∀ (m s : Nat), (l.foldl (fun m s => m ||| (1 <<< s)) m).testBit s = true ↔ (m.testBit s = true ∨ s ∈ l) := by
  induction l with
  | nil => intro m s; simp
  | cons x l ih =>
    intro m s
    simp only [List.foldl_cons, ih, Nat.testBit_or, Bool.or_eq_true, List.mem_cons, Nat.testBit_shiftLeft, Bool.and_eq_true, decide_eq_true_eq]
    constructor
    · rintro ((h | ⟨h1, h2⟩) | h)
      · exact .inl h
      · have : s - x = 0 := by
          rw [Nat.testBit_one_eq_true_iff_self_eq_zero] at h2
          exact h2
        exact .inr (.inl (by omega))
      · exact .inr (.inr h)
    · rintro (h | rfl | h)
      · exact .inl (.inl h)
      · exact .inl (.inr ⟨Nat.le_refl _, by simp⟩)
      · exact .inr h

theorem bits_mem (l : List Nat) (s : Nat) : (bits l).testBit s = true ↔ s ∈ l := by
  unfold bits
  rw [bits_fold]
  simp

theorem bits_apart {a b s : Nat} (h : a &&& b = 0) (ha : a.testBit s = true) (hb : b.testBit s = true) : False := by
  have := congrArg (fun x => x.testBit s) h
  simp [Nat.testBit_and, ha, hb] at this

/- ## Checks -/

/-- No operation writes a slot of which an address has been made before (or is made by itself). -/
def okB (D : Nat) : List MO → Bool
  | [] => true
  | m :: r => (match m.d with
    | some d => !(D ||| bits m.op.addrs).testBit d
    | none => true) && okB (D ||| bits m.op.addrs) r

def okD (D : List Nat) : List MO → Prop
  | [] => True
  | m :: r => (∀ d, m.d = some d → d ∉ D ++ m.op.addrs) ∧ okD (D ++ m.op.addrs) r

def okPair (x y : MO) : Prop := ∀ d, y.d = some d → d ∉ x.op.addrs

theorem okD_iff : ∀ (l : List MO) (D : List Nat), okD D l ↔ (∀ m ∈ l, ∀ d, m.d = some d → d ∉ D ∧ d ∉ m.op.addrs) ∧ l.Pairwise okPair
  | [], D => by simp [okD]
  | m :: l, D => by
    simp only [okD, okD_iff l, List.pairwise_cons, List.mem_append, not_or]
    constructor
    · rintro ⟨h1, h2, h3⟩
      refine ⟨fun x hx d hd => ?_, fun y hy d hd => ?_, h3⟩
      · rcases List.mem_cons.1 hx with rfl | hx
        · exact h1 d hd
        · exact ⟨(h2 x hx d hd).1.1, (h2 x hx d hd).2⟩
      · exact (h2 y hy d hd).1.2
    · rintro ⟨h1, h2, h3⟩
      exact ⟨h1 m (by simp), fun x hx d hd => ⟨⟨(h1 x (by simp [hx]) d hd).1, h2 x hx d hd⟩, (h1 x (by simp [hx]) d hd).2⟩, h3⟩

theorem okB_ok : ∀ (l : List MO) (D : Nat) (E : List Nat), (∀ s, D.testBit s = true ↔ s ∈ E) → okB D l = true → okD E l
  | [], _, _, _, _ => trivial
  | m :: l, D, E, hD, h => by
    simp only [okB, Bool.and_eq_true] at h
    have hD' : ∀ s, (D ||| bits m.op.addrs).testBit s = true ↔ s ∈ E ++ m.op.addrs := by
      intro s
      simp [Nat.testBit_or, hD, bits_mem]
    refine ⟨fun d hd hm => ?_, okB_ok l _ _ hD' h.2⟩
    have h1 := h.1
    simp only [hd, Bool.not_eq_true'] at h1
    rw [(hD' d).2 hm] at h1
    cases h1

/-- The slots that an operation reads and writes, as bits; how it stands to the small heap. -/
def sumUp (m : MO) : Nat × Nat × Nat := (bits m.reads, bits m.writes, m.op.cls)

def indepB (x y : Nat × Nat × Nat) : Bool :=
  (x.2.1 &&& (y.1 ||| y.2.1)) == 0 && (y.2.1 &&& x.1) == 0 && (Nat.beq x.2.2 0 || Nat.beq y.2.2 0 || (Nat.beq x.2.2 1 && Nat.beq y.2.2 1))

theorem indepB_ok {x y : MO} (h : indepB (sumUp x) (sumUp y) = true) : Indep x y := by
  simp only [indepB, sumUp, Bool.and_eq_true, beq_iff_eq, Bool.or_eq_true, Nat.beq_eq_true_eq] at h
  obtain ⟨⟨h1, h2⟩, h3⟩ := h
  have hb : ∀ a b : Nat, a.beq b = true ↔ a = b := fun a b => ⟨Nat.eq_of_beq_eq_true, fun h => by subst h; simp⟩
  simp only [hb] at h3
  refine ⟨fun s hs hr => bits_apart h1 ((bits_mem _ _).2 hs) (by simp [Nat.testBit_or, (bits_mem _ _).2 hr]), fun s hs hr => bits_apart h1 ((bits_mem _ _).2 hs) (by simp [Nat.testBit_or, (bits_mem _ _).2 hr]),
    fun s hs hr => bits_apart h2 ((bits_mem _ _).2 hs) ((bits_mem _ _).2 hr), fun e => ?_, fun e => ?_⟩ <;> omega

/-- What must come before each operation, as bits. -/
def ancs : List Oper → List Nat → List Nat
  | [], acc => acc
  | o :: r, acc => ancs r (acc ++ [o.after.toList.foldl (fun m e => if Go.Region.binds .any e then m ||| (1 <<< e.on) ||| acc.getD e.on 0 else m) 0])

def ancOk (A : List Nat) (o : Oper) (j aj : Nat) : Bool :=
  o.after.toList.all (fun e => !Go.Region.binds .any e || decide (e.on < j)) &&
    aj == o.after.toList.foldl (fun m e => if Go.Region.binds .any e then m ||| (1 <<< e.on) ||| A.getD e.on 0 else m) 0

def drawOkG (A : List Nat) (I : List (Nat × Nat × Nat)) (ops : List Oper) : Nat → List Oper → List Nat → List (Nat × Nat × Nat) → Bool
  | _, [], _, _ => true
  | j, o :: os, aj :: as, ij :: is => ancOk A o j aj && (List.range j).all (fun i => aj.testBit i || indepB (I.getD i (0, 0, 0)) ij) && drawOkG A I ops (j + 1) os as is
  | _, _, _, _ => false

def drawOk (ops : List Oper) (ms : List MO) : Bool := drawOkG (ancs ops []) (ms.map sumUp) ops 0 ops (ancs ops []) (ms.map sumUp)

theorem drawOkG_spec {A : List Nat} {I : List (Nat × Nat × Nat)} {ops0 : List Oper} : ∀ (os : List Oper) (as : List Nat) (is : List (Nat × Nat × Nat)) (k : Nat), drawOkG A I ops0 k os as is = true →
    ∀ (j : Nat) (o : Oper), os[j]? = some o → ∃ aj ij, as[j]? = some aj ∧ is[j]? = some ij ∧ ancOk A o (k + j) aj = true ∧ ∀ i, i < k + j → (aj.testBit i = true ∨ indepB (I.getD i (0, 0, 0)) ij = true)
  | [], _, _, k, _, j, o, h => by simp at h
  | o0 :: os, [], _, k, h, j, o, _ => by simp [drawOkG] at h
  | o0 :: os, _ :: _, [], k, h, j, o, _ => by simp [drawOkG] at h
  | o0 :: os, a :: as, i0 :: is, k, h, j, o, ho => by
    simp only [drawOkG, Bool.and_eq_true, List.all_eq_true, List.mem_range, Bool.or_eq_true] at h
    cases j with
    | zero =>
      simp at ho
      subst ho
      exact ⟨a, i0, rfl, rfl, h.1.1, fun i hi => h.1.2 i hi⟩
    | succ j =>
      obtain ⟨aj, ij, h1, h2, h3, h4⟩ := drawOkG_spec os as is (k + 1) h.2 j o (by simpa using ho)
      refine ⟨aj, ij, by simpa using h1, by simpa using h2, ?_, fun i hi => h4 i (by omega)⟩
      have : k + (j + 1) = k + 1 + j := by omega
      rw [this]; exact h3

theorem ancFold (A : List Nat) : ∀ (es : List Go.Edge) (m i : Nat), (es.foldl (fun m e => if Go.Region.binds .any e then m ||| (1 <<< e.on) ||| A.getD e.on 0 else m) m).testBit i = true →
    m.testBit i = true ∨ ∃ e ∈ es, Go.Region.binds .any e = true ∧ (i = e.on ∨ (A.getD e.on 0).testBit i = true)
  | [], m, i, h => .inl h
  | e :: es, m, i, h => by
    simp only [List.foldl_cons] at h
    rcases ancFold A es _ i h with h | ⟨e', h1, h2⟩
    · by_cases hb : Go.Region.binds .any e = true
      · simp only [hb, if_true, Nat.testBit_or, Bool.or_eq_true, Nat.testBit_shiftLeft, Bool.and_eq_true, decide_eq_true_eq] at h
        rcases h with (h | ⟨h1, h2⟩) | h
        · exact .inl h
        · rw [Nat.testBit_one_eq_true_iff_self_eq_zero] at h2
          exact .inr ⟨e, by simp, hb, .inl (by omega)⟩
        · exact .inr ⟨e, by simp, hb, .inr h⟩
      · simp only [hb] at h
        exact .inl h
    · exact .inr ⟨e', by simp [h1], h2⟩

/- ## The orders that the machine may take -/

/-- What must come before an operation does. -/
def Topo (ops : Array Oper) (L : List Nat) : Prop :=
  ∀ pre j suf, L = pre ++ j :: suf → ∀ o, ops[j]? = some o → ∀ e ∈ o.after, Go.Region.binds .any e = true → e.on ∈ pre

theorem Topo.snoc {ops : Array Oper} {L : List Nat} {i : Nat} (h : Topo ops L) (hi : ∀ o, ops[i]? = some o → ∀ e ∈ o.after, Go.Region.binds .any e = true → e.on ∈ L) : Topo ops (L ++ [i]) := by
  intro pre j suf he o ho e hm hb
  rcases List.append_eq_append_iff.1 he with ⟨as, h1, h2⟩ | ⟨bs, h1, h2⟩
  · rcases List.append_eq_cons_iff.1 h2.symm with ⟨h3, h4⟩ | ⟨as', h3, h4⟩
    · simp at h4
      subst h3
      simp at h1
      subst h1
      rw [h4.1] at ho
      exact hi o ho e hm hb
    · simp at h4
  · cases bs with
    | nil =>
      simp at h1 h2
      subst h1
      rw [h2.1] at ho
      exact hi o ho e hm hb
    | cons b bs =>
      simp at h2
      exact h pre j bs (by rw [h1, h2.1]) o ho e hm hb

theorem sorted_full : ∀ (l : List Nat) (k : Nat), l.Pairwise (· < ·) → (∀ x ∈ l, k ≤ x ∧ x < k + l.length) → l = List.range' k l.length
  | [], k, _, _ => rfl
  | x :: r, k, hp, hx => by
    obtain ⟨h1, h2⟩ := List.pairwise_cons.1 hp
    have hxk := hx x (by simp)
    have ih := sorted_full r (k + 1) h2 (fun y hy => by
      have := h1 y hy
      have := hx y (by simp [hy])
      simp at this
      omega)
    have : x = k := by
      cases r with
      | nil => simp at hxk; omega
      | cons y r' =>
        have h3 : y = k + 1 := by
          rw [List.length_cons, List.range'_succ] at ih
          exact (List.cons.inj ih).1
        have := h1 y (by simp)
        omega
    subst this
    rw [List.length_cons, List.range'_succ, ← ih]

theorem perm_range {l : List Nat} {n : Nat} (h1 : l.Nodup) (h2 : ∀ x ∈ l, x < n) (h3 : l.length = n) : l.Perm (List.range n) := by
  obtain ⟨g1, g2⟩ := isort_spec l h1
  have hl : (isort l).length = n := by rw [g2.length_eq, h3]
  have := sorted_full (isort l) 0 g1 (fun x hx => ⟨Nat.zero_le _, by rw [hl]; simpa using h2 x (g2.subset hx)⟩)
  rw [hl, ← List.range_eq_range'] at this
  rw [← this]
  exact g2.symm

theorem go_spec {ops : Array Oper} (hback : ∀ (j : Nat) o, ops[j]? = some o → ∀ e ∈ o.after, Go.Region.binds .any e = true → e.on < j) :
    ∀ (fuel t : Nat) (listed : Array Bool) (acc : List Nat), listed.size = ops.size → (∀ i, i < ops.size → (listed.getD i false = true ↔ i ∈ acc)) → acc.Nodup → (∀ i ∈ acc, i < ops.size) →
      fuel + acc.length = ops.size → Topo ops acc.reverse → (Go.Region.linearise.go .any ops fuel t listed acc).Perm (List.range ops.size) ∧ Topo ops (Go.Region.linearise.go .any ops fuel t listed acc)
  | 0, t, listed, acc, hs, hl, hn, hb, hf, ht => by
    simp only [Go.Region.linearise.go]
    exact ⟨(List.reverse_perm acc).trans (perm_range hn hb (by omega)), ht⟩
  | fuel + 1, t, listed, acc, hs, hl, hn, hb, hf, ht => by
    simp only [Go.Region.linearise.go]
    change (match (Go.Region.ready .any ops listed)[t % (Go.Region.ready .any ops listed).length]? with
      | some i => Go.Region.linearise.go .any ops fuel (t / (Go.Region.ready .any ops listed).length) (listed.setIfInBounds i true) (i :: acc)
      | none => acc.reverse).Perm (List.range ops.size) ∧ Topo ops (match (Go.Region.ready .any ops listed)[t % (Go.Region.ready .any ops listed).length]? with
      | some i => Go.Region.linearise.go .any ops fuel (t / (Go.Region.ready .any ops listed).length) (listed.setIfInBounds i true) (i :: acc)
      | none => acc.reverse)
    have hgd : ∀ i, i < ops.size → listed.getD i true = listed.getD i false := by
      intro i hi
      have : i < listed.size := by omega
      simp [this]
    cases hi : (Go.Region.ready .any ops listed)[t % (Go.Region.ready .any ops listed).length]? with
    | some i =>
      simp only []
      have hmem := List.mem_of_getElem? hi
      obtain ⟨h0, o, ho, hall⟩ := Go.mem_ready.1 hmem
      have hin : i < ops.size := (Array.getElem?_eq_some_iff.1 ho).1
      have hna : i ∉ acc := fun h => by
        rw [hgd i hin, (hl i hin).2 h] at h0
        cases h0
      refine go_spec hback fuel _ _ (i :: acc) (by simp [hs]) (fun j hj => ?_) (List.nodup_cons.2 ⟨hna, hn⟩) (fun j hj => ?_) (by simp; omega) ?_
      · by_cases hij : i = j
        · subst hij
          have : i < listed.size := by omega
          simp [this]
        · rw [Go.getD_set_ne false hij, hl j hj]
          simp [Ne.symm hij]
      · rcases List.mem_cons.1 hj with rfl | hj
        · exact hin
        · exact hb j hj
      · rw [List.reverse_cons]
        refine ht.snoc fun o' ho' e he hbind => ?_
        rw [ho] at ho'
        simp at ho'
        subst ho'
        have h1 := hall e he hbind
        have h2 := hback i o ho e he hbind
        exact List.mem_reverse.2 ((hl e.on (by omega)).1 h1)
    | none =>
      simp only []
      have hnil : Go.Region.ready .any ops listed = [] := by
        cases hr : Go.Region.ready .any ops listed with
        | nil => rfl
        | cons x xs =>
          rw [hr] at hi
          have hlt : t % (x :: xs).length < (x :: xs).length := Nat.mod_lt _ (by simp)
          rw [List.getElem?_eq_none_iff] at hi
          omega
      have hall : ∀ i, i < ops.size → i ∈ acc := by
        intro i
        induction i using Nat.strongRecOn with
        | _ i ih =>
          intro hi
          apply Classical.byContradiction
          intro hna
          have : i ∈ Go.Region.ready .any ops listed := by
            refine Go.mem_ready.2 ⟨?_, ops[i], by simp [hi], fun e he hbind => ?_⟩
            · rw [hgd i hi, ← Bool.not_eq_true, hl i hi]
              exact hna
            · have h1 := hback i ops[i] (by simp [hi]) e he hbind
              exact (hl e.on (by omega)).2 (ih e.on h1 (by omega))
          rw [hnil] at this
          simp at this
      exact ⟨(List.perm_ext_iff_of_nodup ((List.reverse_perm acc).nodup_iff.2 hn) List.nodup_range).2 fun x => ⟨fun h => by simpa using hb x (by simpa using h), fun h => by simpa using hall x (by simpa using h)⟩, ht⟩

theorem schedule_spec {ops : Array Oper} (hback : ∀ (j : Nat) o, ops[j]? = some o → ∀ e ∈ o.after, Go.Region.binds .any e = true → e.on < j) (t : Nat) :
    (Go.Region.schedule true ops t).Perm (List.range ops.size) ∧ Topo ops (Go.Region.schedule true ops t) := by
  simp only [Go.Region.schedule, Bool.true_or, if_true, Go.Region.linearise]
  refine go_spec hback ops.size t _ [] (by simp) (fun i hi => by simp [hi]) List.nodup_nil (by simp) (by simp) ?_
  intro pre j suf h
  simp at h

/- ## Regions -/

theorem addrs_reads (m : MOp) : ∀ s, s ∈ m.addrs → s ∈ m.reads := by
  intro s h
  cases m <;> simp only [MOp.addrs] at h <;> simp only [MOp.reads] <;> first
    | (simp at h; done)
    | exact h
    | (simp only [List.mem_append, List.mem_cons]; simp only [h, true_or, or_true]; done)

section
variable {P : Program} {φ : Nat → Option FuncId} {ψ : Prim → FuncId → Bool} {B : Base} {n : Nat} {c : Call}

theorem ops_wp (hE : Env0 P φ ψ) (hC : CallOk P φ c) {ops : Array Oper} {M : Nat → MO} {Q : Go.Exit → Act → World → Prop} : ∀ (L : List Nat) {st st' : St} {a : Act} {w : World} {O : Nat → Prop} {loc : List (Nat × Nat)} {D : List Nat},
    Sim φ B n st a w O loc D → (∀ i ∈ L, ∃ o, ops[i]? = some o ∧ chkOper P φ ψ n ops.toList o (M i) = true) → okD D (L.map M) → execOps c (L.map M) st = some st' →
    (∀ a' w' O' loc' D', Sim φ B n st' a' w' O' loc' D' → Q .normal a' w') → Go.wpOps P ops Q L a w
  | [], st, st', a, w, O, loc, D, hs, _, _, he, hQ => by
    simp [execOps] at he
    subst he
    exact hQ _ _ _ _ _ hs
  | i :: L, st, st', a, w, O, loc, D, hs, hc, hd, he, hQ => by
    rw [Go.wpOps_cons]
    simp only [List.map_cons, execOps] at he
    split at he
    · rename_i s1 h1
      obtain ⟨o, ho, hco⟩ := hc i (by simp)
      exact oper_step hs hE hC ho hco h1 hd.1 fun a' w' O' loc' h => ops_wp hE hC L h (fun j hj => hc j (by simp [hj])) hd.2 he hQ
    · simp at he

def chkOpers (P : Program) (φ : Nat → Option FuncId) (ψ : Prim → FuncId → Bool) (n : Nat) (ops : List Oper) : List Oper → List MO → Bool
  | [], [] => true
  | o :: os, m :: ms => chkOper P φ ψ n ops o m && chkOpers P φ ψ n ops os ms
  | _, _ => false

theorem chkOpers_spec {ops : List Oper} : ∀ (os : List Oper) (ms : List MO), chkOpers P φ ψ n ops os ms = true → os.length = ms.length ∧ ∀ (j : Nat) o m, os[j]? = some o → ms[j]? = some m → chkOper P φ ψ n ops o m = true
  | [], [], _ => ⟨rfl, fun j o m h => by simp at h⟩
  | [], _ :: _, h => by simp [chkOpers] at h
  | _ :: _, [], h => by simp [chkOpers] at h
  | o :: os, m :: ms, h => by
    simp only [chkOpers, Bool.and_eq_true] at h
    obtain ⟨h1, h2⟩ := chkOpers_spec os ms h.2
    refine ⟨by simp [h1], fun j o' m' ho hm => ?_⟩
    cases j with
    | zero => simp at ho hm; subst ho hm; exact h.1
    | succ j => exact h2 j o' m' (by simpa using ho) (by simpa using hm)

def chkReg (P : Program) (φ : Nat → Option FuncId) (ψ : Prim → FuncId → Bool) (n : Nat) (ops : Array Oper) (draw : Bool) (ms : List MO) : Bool :=
  chkOpers P φ ψ n ops.toList ops.toList ms && okB 0 ms && (!draw || drawOk ops.toList ms)

theorem Sim.eqv {st st1 : St} {a : Act} {w : World} {O : Nat → Prop} {loc : List (Nat × Nat)} {D : List Nat} (hs : Sim φ B n st a w O loc D) (he : Eqv st st1) : Sim φ B n st1 a w O loc D := by
  obtain ⟨h1, h2⟩ := he
  exact { hs with
    heap := h2 ▸ hs.heap
    env := fun s => h1 s ▸ hs.env s
    lps := fun s s' o h => hs.lps s s' o ((h1 s).trans h)
    lss := fun s z s' o m k h => hs.lss s z s' o m k ((h1 s).trans h)
    locs := fun s s' l l' b h h' => hs.locs s s' l l' b ((h1 s).trans h) ((h1 s').trans h')
    locH := fun s l b k r δ h hx hr => hs.locH s l b k r δ ((h1 s).trans h) hx (h2 ▸ hr)
    fresh := fun s l b h => hs.fresh s l b ((h1 s).trans h)
    freshH := fun k r b δ hr => hs.freshH k r b δ (h2 ▸ hr) }

theorem reg_wp (hE : Env0 P φ ψ) (hC : CallOk P φ c) (hm : P.follows .mixedOrders = true) {id : Nat} {ops : Array Oper} {draw : Bool} {ms : List MO} (hc : chkReg P φ ψ n ops draw ms = true)
    {Q : Go.Exit → Act → World → Prop} {st st' : St} {a : Act} {w : World} {O : Nat → Prop} {loc : List (Nat × Nat)} (hs : Sim φ B n st a w O loc []) (he : execOps c ms st = some st')
    (hQ : ∀ a' w' O' loc' D', Sim φ B n st' a' w' O' loc' D' → Q .normal a' w') : (Code.region id ops draw).wp P Q a w := by
  simp only [chkReg, Bool.and_eq_true] at hc
  obtain ⟨⟨h1, h2⟩, h3⟩ := hc
  obtain ⟨hlen, hop⟩ := chkOpers_spec _ _ h1
  have hlen' : ops.size = ms.length := by simpa using hlen
  let M : Nat → MO := fun i => ms.getD i ⟨none, none, .fail⟩
  have hMi : ∀ i m, ms[i]? = some m → M i = m := fun i m h => by simp [M, h]
  have hM : (List.range ops.size).map M = ms := by
    apply List.ext_getElem
    · simp [hlen']
    · intro i h4 h5
      simp [M, h5]
  have hopM : ∀ i, i < ops.size → ∃ o, ops[i]? = some o ∧ chkOper P φ ψ n ops.toList o (M i) = true := by
    intro i hi
    refine ⟨ops[i], by simp [hi], hop i ops[i] (M i) (by simp [hi]) ?_⟩
    have : i < ms.length := by omega
    simp [M, this]
  have hok : okD [] ms := okB_ok ms 0 [] (by simp) h2
  cases draw with
  | false =>
    refine Go.wp_region (ops_wp hE hC (M := M) _ hs (fun i hi => hopM i (by simpa using hi)) (by rw [hM]; exact hok) (by rw [hM]; exact he) hQ)
  | true =>
    simp only [Bool.not_true, Bool.false_or, drawOk] at h3
    have hspec := drawOkG_spec _ _ _ 0 h3
    have hg : ∀ i, i < ops.size → guardW (M i) = true := by
      intro i hi
      obtain ⟨o, _, h⟩ := hopM i hi
      simp only [chkOper, dstOk, Bool.and_eq_true] at h
      exact h.1.1.2.2
    have hw : ∀ i, i < ops.size → ∀ d, (M i).d = some d → d ∈ (M i).writes := by
      intro i hi d hd
      obtain ⟨o, _, h⟩ := hopM i hi
      simp only [chkOper, dstOk, Bool.and_eq_true] at h
      have h4 := h.1.1.2.1.1
      generalize M i = m at hd h4
      obtain ⟨d', g, op⟩ := m
      simp only at hd h4
      subst hd
      cases op <;> simp [MO.writes] at h4 ⊢
    have hback : ∀ (j : Nat) o, ops[j]? = some o → ∀ e ∈ o.after, Go.Region.binds .any e = true → e.on < j := by
      intro j o ho e hm hb
      obtain ⟨aj, ij, _, _, h4, _⟩ := hspec j o (by simpa using ho)
      simp only [ancOk, Bool.and_eq_true, List.all_eq_true, Bool.or_eq_true, Bool.not_eq_true', decide_eq_true_eq, Nat.zero_add] at h4
      rcases h4.1 e (by simpa using hm) with h5 | h5
      · rw [hb] at h5; cases h5
      · exact h5
    -- what must come before comes before
    have hanc : ∀ (L : List Nat), Topo ops L → ∀ (j : Nat) pre suf, L = pre ++ j :: suf → ∀ aj, (ancs ops.toList []).getD j 0 = aj → j < ops.size → ∀ i, aj.testBit i = true → i ∈ pre := by
      intro L hT j
      induction j using Nat.strongRecOn with
      | _ j ih =>
        intro pre suf hL aj haj hj i hi
        obtain ⟨aj', ij, h4, h5, h6, _⟩ := hspec j ops[j] (by simp [hj])
        have : aj = aj' := by rw [← haj]; simp [List.getD_eq_getElem?_getD, h4]
        subst this
        simp only [ancOk, Bool.and_eq_true, beq_iff_eq] at h6
        rw [h6.2] at hi
        rcases ancFold _ _ _ _ hi with h7 | ⟨e, h7, h8, h9⟩
        · simp at h7
        · have hej := hback j ops[j] (by simp [hj]) e (by simpa using h7) h8
          have hep := hT pre j suf hL ops[j] (by simp [hj]) e (by simpa using h7) h8
          rcases h9 with rfl | h9
          · exact hep
          · obtain ⟨p1, p2, hp⟩ := List.append_of_mem hep
            have := ih e.on hej p1 (p2 ++ j :: suf) (by rw [hL, hp]; simp) _ rfl (by omega) i h9
            rw [hp]
            exact List.mem_append_left _ this
    refine Go.wp_region_draw fun t => ?_
    rw [hm]
    obtain ⟨hperm, htopo⟩ := schedule_spec hback t
    generalize Go.Region.schedule true ops t = L at hperm htopo
    have hnd : L.Nodup := hperm.nodup_iff.2 List.nodup_range
    have hlt : ∀ i ∈ L, i < ops.size := fun i hi => by simpa using hperm.subset hi
    have hpair : L.Pairwise (fun x y => y < x → Indep (M y) (M x)) := by
      rw [List.pairwise_iff_getElem]
      intro p q hp hq hpq hlt'
      have hx := hlt _ (List.getElem_mem hp)
      have hy := hlt _ (List.getElem_mem hq)
      obtain ⟨aj, ij, h4, h5, h6, h7⟩ := hspec L[p] ops[L[p]] (by simp [hx])
      rcases h7 L[q] (by omega) with h8 | h8
      · -- it would have to come before
        exfalso
        have hsplit : L = L.take p ++ L[p] :: L.drop (p + 1) := by simp
        have := hanc L htopo L[p] (L.take p) (L.drop (p + 1)) hsplit aj (by simp [List.getD_eq_getElem?_getD, h4]) hx _ h8
        obtain ⟨r, hr, he⟩ := List.getElem_of_mem this
        simp only [List.length_take] at hr
        simp only [List.getElem_take] at he
        have := (List.pairwise_iff_getElem.1 hnd) r q (by omega) hq (by omega)
        exact this he
      · have e1 : (ms.map sumUp).getD L[q] (0, 0, 0) = sumUp (M L[q]) := by
          have : L[q] < ms.length := by omega
          simp [M, List.getD_eq_getElem?_getD, this]
        have e2 : ij = sumUp (M L[p]) := by
          have hx' : L[p] < ms.length := by omega
          simp only [List.getElem?_map] at h5
          simp [hx'] at h5
          rw [← h5]
          simp [M, hx']
        rw [e1, e2] at h8
        exact indepB_ok h8
    obtain ⟨st2, he2, hEq⟩ := order_free (c := c) M L hnd hpair (fun i hi => hg i (hlt i hi)) (st := st) (st' := st') (by rw [isort_range hperm, hM]; exact he)
    have hokL : okD [] (L.map M) := by
      rw [okD_iff] at hok ⊢
      refine ⟨fun m hm d hd => ?_, ?_⟩
      · obtain ⟨i, hi, rfl⟩ := List.mem_map.1 hm
        exact hok.1 _ (by rw [← hM]; exact List.mem_map.2 ⟨i, by simpa using hlt i hi, rfl⟩) d hd
      · rw [List.pairwise_map]
        rw [List.pairwise_iff_getElem] at hpair ⊢
        intro p q hp hq hpq
        have hx := hlt _ (List.getElem_mem hp)
        have hy := hlt _ (List.getElem_mem hq)
        have h4 := hok.2
        rw [← hM, List.pairwise_map, List.pairwise_iff_getElem] at h4
        rcases Nat.lt_trichotomy L[p] L[q] with h5 | h5 | h5
        · have h6 := h4 L[p] L[q] (by simpa using hx) (by simpa using hy) h5
          simp only [List.getElem_range] at h6
          exact h6
        · exfalso
          exact (List.pairwise_iff_getElem.1 hnd) p q hp hq hpq h5
        · have hi := hpair p q hp hq hpq h5
          intro d hd hm
          exact hi.xr d (hw _ hy d hd) (List.mem_append_right _ (addrs_reads _ _ hm))
    refine ops_wp hE hC (M := M) L (st := st) (st' := st2) (w := { w with drawn := w.drawn + 1 }) hs.drew (fun i hi => hopM i (hlt i hi)) hokL he2 fun a' w' O' loc' D' h => hQ a' w' O' loc' D' (h.eqv hEq.symm)

end
end Mir

namespace Mir
open Go (Value Addr IntKind World Obj Act Program FuncId TypeId Operand Op Oper Code TypeDesc Sem Result)

theorem get_map (ks : List Nat) (f : Nat → V) (s : Nat) : get (ks.map fun k => (k, f k)) s = if s ∈ ks then f s else .undef := by
  induction ks with
  | nil => simp [get]
  | cons k ks ih =>
    simp only [List.map_cons, get_cons, ih, List.mem_cons]
    by_cases h : k = s
    · subst h; simp
    · simp [h, Ne.symm h]

theorem get_keepE (ks : List Nat) (e : Env) (s : Nat) : get (keepE ks e) s = if s ∈ ks then san (get e s) else .undef := get_map ks (fun k => san (get e k)) s

section
variable {P : Program} {φ : Nat → Option FuncId} {ψ : Prim → FuncId → Bool} {B : Base} {n : Nat} {c : Call}

/-- Some slots are forgotten. -/
theorem Sim.keep {st : St} {a : Act} {w : World} {O : Nat → Prop} {loc : List (Nat × Nat)} {D : List Nat} (hs : Sim φ B n st a w O loc D) (ks : List Nat) : Sim φ B n ⟨keepE ks st.e, st.h⟩ a w O loc [] := by
  have key : ∀ s v, get (keepE ks st.e) s = v → v ≠ .undef → get st.e s = v ∧ (∀ s' o, v ≠ .lp s' o) ∧ (∀ z s' o m k, v ≠ .ls z s' o m k) := by
    intro s v h hv
    rw [get_keepE] at h
    split at h
    · cases hg : get st.e s <;> rw [hg] at h <;> simp only [san] at h <;> subst h <;> simp at hv ⊢
    · exact absurd h.symm hv
  exact { hs with
    env := fun s => by
      show ER φ _ _ s (get (keepE ks st.e) s)
      by_cases hu : get (keepE ks st.e) s = .undef
      · rw [hu]; trivial
      · have := key s _ rfl hu
        rw [← this.1]
        exact hs.env s
    lps := fun s s' o h => absurd rfl ((key s _ h (by simp)).2.1 s' o)
    lss := fun s z s' o m k h => absurd rfl ((key s _ h (by simp)).2.2 z s' o m k)
    locs := fun s s' l l' b h h' => hs.locs s s' l l' b (key s _ h (by simp)).1 (key s' _ h' (by simp)).1
    locH := fun s l b k r δ h => hs.locH s l b k r δ (key s _ h (by simp)).1
    fresh := fun s l b h => hs.fresh s l b (key s _ h (by simp)).1 }

/-- A loop, by how many rounds it may take. -/
theorem wp_loop_n {code : Code} {Q : Go.Exit → Act → World → Prop} (J : Nat → Act → World → Prop) (zero : ∀ a w, ¬ J 0 a w)
    (round : ∀ m a w, J (m + 1) a w → code.wp P (Go.Exit.then (J m) Q) a w) {m : Nat} {a : Act} {w : World} (h0 : J m a w) : (Code.loop code).wp P Q a w := by
  intro b k cs
  have key : ∀ m a w, J m a w → ∃ e a' w', Q e a' w' ∧ Go.Arrives P (Go.lone (b.at a (.code code :: .inLoop code :: k)) cs w) b k cs e a' w' := by
    intro m
    induction m with
    | zero => intro a w h; exact absurd h (zero a w)
    | succ m ih =>
      intro a w h
      obtain ⟨e, a₁, w₁, hq, harr⟩ := round m a w h b (.inLoop code :: k) cs
      cases e with
      | normal =>
        obtain ⟨e₂, a₂, w₂, hq₂, harr₂⟩ := ih a₁ w₁ hq
        exact ⟨e₂, a₂, w₂, hq₂, .of_steps (Go.Steps.trans harr (.one Go.step_inLoop)) harr₂⟩
      | exit id => exact ⟨_, a₁, w₁, hq, .pass (x := .inLoop code) rfl (fun _ _ => .inl (by simp)) harr⟩
      | goto l => exact ⟨_, a₁, w₁, hq, .pass (x := .inLoop code) rfl (fun _ _ => .inl (by simp)) harr⟩
      | ret => exact ⟨_, a₁, w₁, hq, .pass (x := .inLoop code) rfl (fun _ _ => .inl (by simp)) harr⟩
      | panic ch => exact ⟨_, a₁, w₁, hq, .pass (x := .inLoop code) rfl (fun _ _ => .inl (by simp)) harr⟩
      | outgrown => exact ⟨_, a₁, w₁, hq, .pass (x := .inLoop code) rfl (fun _ _ => .inl (by simp)) harr⟩
  obtain ⟨e, a', w', hq, harr⟩ := key m a w h0
  exact ⟨e, a', w', hq, .of_steps (.one Go.step_loop) harr⟩

def chkStm (P : Program) (φ : Nat → Option FuncId) (ψ : Prim → FuncId → Bool) (n : Nat) : Code → Stm → Bool
  | .skip, .reg [] _ => true
  | .region _ ops draw, .reg ms _ => chkReg P φ ψ n ops draw ms
  | .seq x y, .seq s t => chkStm P φ ψ n x s && chkStm P φ ψ n y t
  | .cond b x y, .cond b' s t => chkX φ b b' && chkStm P φ ψ n x s && chkStm P φ ψ n y t
  | .block i x, .block j s => i == j && chkStm P φ ψ n x s
  | .loop x, .loop _ s => chkStm P φ ψ n x s
  | .exit i, .exit j _ => i == j
  | .ret, .ret => true
  | _, _ => false

def exG : Ex → Go.Exit
  | .norm => .normal
  | .exit id => .exit id
  | .ret => .ret

def Done (φ : Nat → Option FuncId) (B : Base) (n : Nat) (Q : Go.Exit → Act → World → Prop) (ex : Ex) (st : St) : Prop :=
  ∀ a w O loc, Sim φ B n st a w O loc [] → Q (exG ex) a w

theorem stm_wp (hE : Env0 P φ ψ) (hC : CallOk P φ c) (hm : P.follows .mixedOrders = true) (N : Nat) : ∀ (s : Stm) (code : Code), chkStm P φ ψ n code s = true →
    ∀ {Q : Go.Exit → Act → World → Prop} {st st' : St} {ex : Ex} {a : Act} {w : World} {O : Nat → Prop} {loc : List (Nat × Nat)}, Sim φ B n st a w O loc [] → execW c (iter N) s st = some (ex, st') →
      Done φ B n Q ex st' → code.wp P Q a w := by
  intro s
  induction s with
  | reg ms keep =>
    intro code hc Q st st' ex a w O loc hs he hQ
    simp only [execW] at he
    split at he
    · rename_i s1 h1
      simp only [Option.some.injEq, Prod.mk.injEq] at he
      obtain ⟨rfl, rfl⟩ := he
      cases code <;> try (simp [chkStm] at hc; done)
      case skip =>
        cases ms with
        | nil =>
          simp only [execOps, Option.some.injEq] at h1
          subst h1
          exact Go.wp_skip (hQ _ _ _ _ (hs.keep keep))
        | cons m ms => simp [chkStm] at hc
      case region id ops draw => exact reg_wp hE hC hm (by simpa only [chkStm] using hc) hs h1 fun a' w' O' loc' D' h => hQ _ _ _ _ (h.keep keep)
    · simp at he
  | seq x y ihx ihy =>
    intro code hc Q st st' ex a w O loc hs he hQ
    cases code <;> simp only [chkStm, Bool.false_eq_true, Bool.and_eq_true] at hc
    simp only [execW] at he
    refine Go.wp_seq ?_
    cases hx : execW c (iter N) x st with
    | none => simp [hx] at he
    | some r =>
      obtain ⟨e1, s1⟩ := r
      refine ihx _ hc.1 hs hx fun a' w' O' loc' h => ?_
      rw [hx] at he
      cases e1 with
      | norm => exact ihy _ hc.2 h he hQ
      | exit id =>
        simp only [Option.some.injEq, Prod.mk.injEq] at he
        obtain ⟨rfl, rfl⟩ := he
        exact hQ _ _ _ _ h
      | ret =>
        simp only [Option.some.injEq, Prod.mk.injEq] at he
        obtain ⟨rfl, rfl⟩ := he
        exact hQ _ _ _ _ h
  | cond b x y ihx ihy =>
    intro code hc Q st st' ex a w O loc hs he hQ
    cases code <;> try (simp [chkStm] at hc; done)
    case cond b' x' y' =>
      simp only [chkStm, Bool.and_eq_true] at hc
      simp only [execW] at he
      have hv := ev_VL hs hc.1.1
      split at he
      · rename_i t ht
        rw [ht] at hv
        have hb : a.eval b' = .bool t := by
          generalize a.eval b' = A at hv
          cases hv; rfl
        refine Go.wp_cond_split hb (fun e => ?_) (fun e => ?_)
        · subst e
          exact ihx _ hc.1.2 hs (by simpa using he) hQ
        · subst e
          exact ihy _ hc.2 hs (by simpa using he) hQ
      · simp at he
  | block id x ih =>
    intro code hc Q st st' ex a w O loc hs he hQ
    cases code <;> simp only [chkStm, Bool.false_eq_true, Bool.and_eq_true, beq_iff_eq] at hc
    obtain ⟨rfl, hc⟩ := hc
    simp only [execW] at he
    refine Go.wp_block ?_
    cases hx : execW c (iter N) x st with
    | none => simp [hx] at he
    | some r =>
      obtain ⟨e1, s1⟩ := r
      refine ih _ hc hs hx fun a' w' O' loc' h => ?_
      rw [hx] at he
      cases e1 with
      | norm =>
        simp only [Option.some.injEq, Prod.mk.injEq] at he
        obtain ⟨rfl, rfl⟩ := he
        exact hQ _ _ _ _ h
      | exit j =>
        simp only [exG, Go.Exit.inBlock]
        simp only at he
        split at he
        · rename_i hj
          simp only [Option.some.injEq, Prod.mk.injEq] at he
          obtain ⟨rfl, rfl⟩ := he
          rw [if_pos hj]
          exact hQ _ _ _ _ h
        · rename_i hj
          simp only [Option.some.injEq, Prod.mk.injEq] at he
          obtain ⟨rfl, rfl⟩ := he
          rw [if_neg hj]
          exact hQ _ _ _ _ h
      | ret =>
        simp only [Option.some.injEq, Prod.mk.injEq] at he
        obtain ⟨rfl, rfl⟩ := he
        exact hQ _ _ _ _ h
  | loop keep x ih =>
    intro code hc Q st st' ex a w O loc hs he hQ
    cases code <;> simp only [chkStm, Bool.false_eq_true] at hc
    simp only [execW] at he
    refine wp_loop_n (m := N) (fun m a w => ∃ st O loc, Sim φ B n st a w O loc [] ∧ iter m (execW c (iter N) x) st = some (ex, st')) ?_ ?_ ⟨_, O, loc, hs.keep keep, he⟩
    · rintro a w ⟨st, O, loc, _, h⟩
      simp [iter] at h
    · rintro m a w ⟨st, O, loc, hs, h⟩
      simp only [iter] at h
      cases hx : execW c (iter N) x st with
      | none => simp [hx] at h
      | some r =>
        obtain ⟨e1, s1⟩ := r
        refine ih _ hc hs hx fun a' w' O' loc' h' => ?_
        rw [hx] at h
        cases e1 with
        | norm => exact ⟨s1, O', loc', h', h⟩
        | exit j =>
          simp only [Option.some.injEq, Prod.mk.injEq] at h
          obtain ⟨rfl, rfl⟩ := h
          exact hQ _ _ _ _ h'
        | ret =>
          simp only [Option.some.injEq, Prod.mk.injEq] at h
          obtain ⟨rfl, rfl⟩ := h
          exact hQ _ _ _ _ h'
  | exit id keep =>
    intro code hc Q st st' ex a w O loc hs he hQ
    cases code <;> simp only [chkStm, Bool.false_eq_true, beq_iff_eq] at hc
    subst hc
    simp only [execW, Option.some.injEq, Prod.mk.injEq] at he
    obtain ⟨rfl, rfl⟩ := he
    exact Go.wp_exit (hQ _ _ _ _ (hs.keep keep))
  | ret =>
    intro code hc Q st st' ex a w O loc hs he hQ
    cases code <;> simp only [chkStm, Bool.false_eq_true] at hc
    simp only [execW, Option.some.injEq, Prod.mk.injEq] at he
    obtain ⟨rfl, rfl⟩ := he
    exact Go.wp_ret (hQ _ _ _ _ hs)

/- ## More slots do no harm -/

theorem dstOk_mono {n n' : Nat} (h : n ≤ n') {m : MO} (hm : dstOk n m = true) : dstOk n' m = true := by
  simp only [dstOk, Bool.and_eq_true] at hm ⊢
  refine ⟨⟨hm.1.1, ?_⟩, hm.2⟩
  have := hm.1.2
  split at this <;> simp only [decide_eq_true_eq] at this ⊢
  omega

theorem chkOpers_mono {n n' : Nat} (h : n ≤ n') {ops : List Oper} : ∀ (os : List Oper) (ms : List MO), chkOpers P φ ψ n ops os ms = true → chkOpers P φ ψ n' ops os ms = true
  | [], [], _ => rfl
  | [], _ :: _, h => by simp [chkOpers] at h
  | _ :: _, [], h => by simp [chkOpers] at h
  | o :: os, m :: ms, hh => by
    simp only [chkOpers, chkOper, Bool.and_eq_true] at hh ⊢
    exact ⟨⟨⟨⟨hh.1.1.1.1, dstOk_mono h hh.1.1.1.2⟩, hh.1.1.2⟩, hh.1.2⟩, chkOpers_mono h os ms hh.2⟩

theorem chkStm_mono {n n' : Nat} (h : n ≤ n') : ∀ (s : Stm) (code : Code), chkStm P φ ψ n code s = true → chkStm P φ ψ n' code s = true := by
  intro s
  induction s with
  | reg ms keep =>
    intro code hc
    cases code <;> try (simp [chkStm] at hc; done)
    case skip =>
      cases ms with
      | nil => rfl
      | cons m ms => simp [chkStm] at hc
    case region id ops draw =>
      simp only [chkStm, chkReg, Bool.and_eq_true] at hc ⊢
      exact ⟨⟨chkOpers_mono h _ _ hc.1.1, hc.1.2⟩, hc.2⟩
  | seq x y ihx ihy =>
    intro code hc
    cases code <;> simp only [chkStm, Bool.false_eq_true, Bool.and_eq_true] at hc
    simp only [chkStm, Bool.and_eq_true]
    exact ⟨ihx _ hc.1, ihy _ hc.2⟩
  | cond b x y ihx ihy =>
    intro code hc
    cases code <;> simp only [chkStm, Bool.false_eq_true, Bool.and_eq_true] at hc
    simp only [chkStm, Bool.and_eq_true]
    exact ⟨⟨hc.1.1, ihx _ hc.1.2⟩, ihy _ hc.2⟩
  | block id x ih =>
    intro code hc
    cases code <;> simp only [chkStm, Bool.false_eq_true, Bool.and_eq_true] at hc
    simp only [chkStm, Bool.and_eq_true]
    exact ⟨hc.1, ih _ hc.2⟩
  | loop keep x ih =>
    intro code hc
    cases code <;> simp only [chkStm, Bool.false_eq_true] at hc
    simp only [chkStm]
    exact ih _ hc
  | exit id keep =>
    intro code hc
    cases code <;> simp only [chkStm, Bool.false_eq_true] at hc ⊢
    exact hc
  | ret =>
    intro code hc
    cases code <;> simp only [chkStm, Bool.false_eq_true] at hc ⊢

end
end Mir

namespace Mir
open Go (Value Addr IntKind World Obj Act Program FuncId TypeId Operand Op Oper Code TypeDesc Sem Result)

/- ## Results -/

def resSem (tmps : Array Value) : Go.ResultVar → Sem Value
  | .tmp t => pure (tmps.getD t Go.undef)
  | .cell a t => do Go.loadVar t (← Go.asAddr (tmps.getD a Go.undef))

theorem results_eq (fn : Go.Func) (tmps : Array Value) : Go.results fn tmps = (do
    let vs ← fn.results.mapM (resSem tmps)
    pure (if h : vs.size = 1 then vs[0] else .tuple vs)) := by
  unfold Go.results
  congr 1

def chkRes (P : Program) : List Go.ResultVar → List Res → Bool
  | [], [] => true
  | .tmp t :: l, .tmp s :: m => t == s && chkRes P l m
  | .cell a t :: l, .cell s n :: m => a == s && partOk P t n && chkRes P l m
  | _, _ => false

section
variable {P : Program} {φ : Nat → Option FuncId} {ψ : Prim → FuncId → Bool} {B : Base} {n : Nat} {c : Call} {st : St} {a : Act} {w : World} {O : Nat → Prop} {loc : List (Nat × Nat)}

theorem res_one (hs : Sim φ B n st a w O loc []) {r : Go.ResultVar} {q : Res} (h : chkRes P [r] [q] = true) {v : V} (hv : resOne st.e q = some v) :
    ∃ x, (resSem a.tmps r).run P w = .ok x w ∧ VR φ (CxOf w O loc) v x := by
  cases r <;> cases q <;> simp only [chkRes, Bool.false_eq_true, Bool.and_eq_true, beq_iff_eq, Bool.and_true] at h
  · subst h
    rename_i t
    simp only [resOne, Option.some.injEq] at hv
    subst hv
    have h1 := ev_VL hs (x := .tmp t) (y := .t t) (by simp [chkX])
    refine ⟨_, rfl, VL_plain h1 (fun s o e => ?_) (fun z s o m k e => ?_)⟩
    · have := (LpIn_ev hs (.t t) (fun v h => by simp at h)).1 s o e
      simp at this
    · have := (LpIn_ev hs (.t t) (fun v h => by simp at h)).2 z s o m k e
      simp at this
  · obtain ⟨rfl, hp⟩ := h
    rename_i s t q
    simp only [resOne] at hv
    split at hv
    · rename_i l hl
      obtain ⟨b, hb, _, cs, T, fz, _, _, _, y, hy1, hy2⟩ := loc_ok hs hl
      obtain ⟨x, hx1, hx2⟩ := run_loadVar (δ := 0) hp hv w (fun j hj => by simpa using hy1 j hj) hy2
      refine ⟨x, ?_, hx2⟩
      have h1 : a.tmps.getD s Go.undef = ptrV b 0 := by simp [hb]
      simp only [resSem, h1, Go.Sem.run_bind]
      simpa [ptrV, Go.asAddr] using hx1
    · simp at hv

theorem chkRes_cons {r : Go.ResultVar} {l : List Go.ResultVar} {q : Res} {m : List Res} : chkRes P (r :: l) (q :: m) = true ↔ chkRes P [r] [q] = true ∧ chkRes P l m = true := by
  cases r <;> cases q <;> simp [chkRes]

theorem res_list (hs : Sim φ B n st a w O loc []) : ∀ (l : List Go.ResultVar) (qs : List Res) (us : List V), chkRes P l qs = true → resAll st.e qs = some us →
    ∃ xs : List Value, (l.mapM (resSem a.tmps)).run P w = .ok xs w ∧ VRs φ (CxOf w O loc) us xs
  | [], [], us, _, h => by simp [resAll] at h; subst h; exact ⟨[], by simp, rfl, fun j h => absurd h (by simp)⟩
  | [], _ :: _, us, h, _ => by simp [chkRes] at h
  | r :: l, [], us, h, _ => by cases r <;> simp [chkRes] at h
  | r :: l, q :: qs, us, h, hu => by
    obtain ⟨h1, h2⟩ := chkRes_cons.1 h
    simp only [resAll] at hu
    split at hu
    · rename_i v vs g1 g2
      simp only [Option.some.injEq] at hu
      subst hu
      obtain ⟨x, e1, e2⟩ := res_one hs h1 g1
      obtain ⟨xs, e3, e4, e5⟩ := res_list hs l qs vs h2 g2
      refine ⟨x :: xs, ?_, by simp [e4], fun j hj hj' => ?_⟩
      · simp only [List.mapM_cons, Go.Sem.run_bind, e1, Result.andThen_ok, e3, Go.Sem.run_pure]
      · cases j with
        | zero => exact e2
        | succ j => exact e5 j (by simpa using hj) (by simpa using hj')
    · simp at hu

theorem res_all (hs : Sim φ B n st a w O loc []) {fn : Go.Func} {qs : List Res} (h : chkRes P fn.results.toList qs = true) {v : V} (hv : resV st.e qs = some v) :
    ∃ x, (Go.results fn a.tmps).run P w = .ok x w ∧ VR φ (CxOf w O loc) v x := by
  rw [results_eq, Array.mapM_eq_mapM_toList]
  by_cases h1 : ∃ q, qs = [q]
  · obtain ⟨q, rfl⟩ := h1
    simp only [resV] at hv
    have : resAll st.e [q] = some [v] := by simp [resAll, hv]
    obtain ⟨xs, e1, e2, e3⟩ := res_list hs _ _ _ h this
    cases xs with
    | nil => simp at e2
    | cons x xs =>
      cases xs with
      | cons _ _ => simp at e2
      | nil => exact ⟨x, by simp [e1], e3 0 (by simp) (by simp)⟩
  · have hv' : (resAll st.e qs).map V.tup = some v := by
      cases qs with
      | nil => exact hv
      | cons q qs =>
        cases qs with
        | nil => exact absurd ⟨q, rfl⟩ h1
        | cons _ _ => exact hv
    simp only [Option.map_eq_some_iff] at hv'
    obtain ⟨us, h2, rfl⟩ := hv'
    obtain ⟨xs, e1, e2, e3⟩ := res_list hs _ _ _ h h2
    have hlen : xs.length ≠ 1 := by
      intro hx
      have : qs.length = us.length := by
        clear h1 h e1 e2 e3 hv
        induction qs generalizing us with
        | nil => simp [resAll] at h2; subst h2; rfl
        | cons q qs ih =>
          simp only [resAll] at h2
          split at h2
          · rename_i v vs g1 g2
            simp only [Option.some.injEq] at h2
            subst h2
            simp [ih vs g2]
          · simp at h2
      rw [← e2, ← this] at hx
      exact h1 (List.length_eq_one_iff.1 hx)
    exact ⟨.tuple xs.toArray, by simp [e1, hlen], .tup _ _ (by simpa using e2) fun j hj hj' => by simpa using e3 j hj (by simpa using hj')⟩

end
end Mir

namespace Mir
open Go (Value Addr IntKind World Obj Act Program FuncId TypeId Operand Op Oper Code TypeDesc Sem Result)

section
variable {P : Program} {φ : Nat → Option FuncId} {ψ : Prim → FuncId → Bool} {B : Base} {n : Nat} {c : Call} {st : St} {a : Act} {w : World} {O : Nat → Prop} {loc : List (Nat × Nat)}

/-- What is still owned when the function's own rows are given up. -/
def leftO (h : Heap) (loc : List (Nat × Nat)) (base : Nat) (O : Nat → Prop) (b : Nat) : Prop :=
  O b ∧ ¬ ∃ k l δ, base ≤ k ∧ row h k = some l ∧ loc[k]? = some (b, δ)

theorem mapO_length {f : V → Option V} : ∀ {l m : List V}, mapO f l = some m → m.length = l.length ∧ ∀ (j : Nat) v u, l[j]? = some v → m[j]? = some u → f v = some u
  | [], m, h => by simp [mapO] at h; subst h; simp
  | v :: r, m, h => by
    simp only [mapO] at h
    split at h
    · rename_i x y h1 h2
      simp only [Option.some.injEq] at h
      subst h
      obtain ⟨g1, g2⟩ := mapO_length h2
      refine ⟨by simp [g1], fun j v' u hv hu => ?_⟩
      cases j with
      | zero => simp at hv hu; subst hv hu; exact h1
      | succ j => exact g2 j v' u (by simpa using hv) (by simpa using hu)
    · simp at h

theorem fz_ok {h : Heap} (hh : HR φ h (CxOf w O loc)) {nk : Bool} {base : Nat} : ∀ (m : Nat) (v u : V) (x : Value), VR φ (CxOf w O loc) v x → fzV nk h base m v = some u →
    VR φ (CxOf w (leftO h loc base O) (loc.take base)) u x
  | 0, v, u, x, _, hf => by simp [fzV] at hf
  | m + 1, v, u, x, hv, hf => by
    have le : ∀ b, ¬ (CxOf w O loc).own b → ¬ (CxOf w (leftO h loc base O) (loc.take base)).own b := fun b (h1 : ¬ O b) (h2 : leftO h loc base O b) => h1 h2.1
    have hp : (CxOf w (leftO h loc base O) (loc.take base)).hp = (CxOf w O loc).hp := rfl
    have locT : ∀ k y, k < base → loc[k]? = some y → (loc.take base)[k]? = some y := fun k y h1 h2 => by rw [List.getElem?_take]; simp [h1, h2]
    -- a row of the function's own
    have rows : ∀ (k : Nat) (l : List V) (b δ : Nat), base ≤ k → row h k = some l → loc[k]? = some (b, δ) → ¬ (leftO h loc base O) b ∧ ∃ cs : Array Value, δ + l.length ≤ cs.size ∧
        (∀ j, j < cs.size → cellH (fun b => w.heap[b]?) b j = some (cs.getD j default)) ∧ ∀ j (h : j < l.length), VR φ (CxOf w O loc) l[j] (cs.getD (δ + j) default) := by
      intro k l b δ h1 h2 h3
      refine ⟨fun h4 => h4.2 ⟨k, l, δ, h1, h2, h3⟩, ?_⟩
      obtain ⟨b', δ', cs, T, fz, g1, g2, g3⟩ := hh.rows k l h2
      simp only [CxOf] at g1
      rw [h3] at g1
      simp at g1
      obtain ⟨rfl, rfl⟩ := g1
      have hbl := g3.block
      simp only [CxOf] at hbl
      refine ⟨cs, g3.room, fun j hj => by simp [cellH, hbl, hj], fun j hj => ?_⟩
      have hj' : δ + j < cs.size := by have := g3.room; omega
      have := g3.cell j hj hj'
      have e : cs.getD (δ + j) default = cs[δ + j] := by simp [hj']
      rw [e]; exact this
    have all : ∀ (l l' : List V) (y : Nat → Value), (∀ j (h : j < l.length), VR φ (CxOf w O loc) l[j] (y j)) → mapO (fzV nk h base m) l = some l' →
        l'.length = l.length ∧ ∀ j (hj : j < l'.length), VR φ (CxOf w (leftO h loc base O) (loc.take base)) l'[j] (y j) := by
      intro l l' y h1 h2
      obtain ⟨h3, h4⟩ := mapO_length h2
      refine ⟨h3, fun j hj => fz_ok hh m _ _ _ (h1 j (by omega)) (h4 j l[j] l'[j] (by simp) (by simp))⟩
    cases v <;> simp only [fzV] at hf
    case i z => simp at hf; subst hf; cases hv; exact .i _ ‹_› ‹_›
    case u k z => simp at hf; subst hf; cases hv; exact .u _ _ _ ‹_› ‹_›
    case b z => simp at hf; subst hf; cases hv; exact .b _
    case s l => simp at hf; subst hf; cases hv; exact .s _ _ ‹_›
    case nilp => simp at hf; subst hf; cases hv; exact .nilp
    case nils =>
      simp at hf; subst hf; cases hv
      cases nk
      · exact .vsn
      · exact .nils
    case vs k l =>
      split at hf
      · rename_i hn
        simp at hf; subst hf
        exact VR.noHp hp le 8 _ _ hv hn
      · simp at hf
    case vr l o =>
      split at hf
      · rename_i hn
        simp at hf; subst hf
        exact VR.noHp hp le 8 _ _ hv hn
      · simp at hf
    case fn f l k =>
      split at hf
      · rename_i hn
        simp only [Bool.and_eq_true, List.all_eq_true] at hn
        simp at hf; subst hf
        cases hv with
        | fn f F l m xs ys h1 h2 h3 h4 h5 =>
          exact .fn _ _ _ _ _ _ h1 h2 (fun j hj hj' => VR.noHp hp le 8 _ _ (h3 j hj hj') (hn.1 _ (List.getElem_mem hj))) h4 (fun j hj hj' => VR.noHp hp le 8 _ _ (h5 j hj hj') (hn.2 _ (List.getElem_mem hj)))
      · simp at hf
    case agg l =>
      simp only [Option.map_eq_some_iff] at hf
      obtain ⟨l', h1, rfl⟩ := hf
      cases hv with
      | agg l cs h2 h3 =>
        obtain ⟨g1, g2⟩ := all l l' (fun j => cs.getD j default) (fun j hj => by
          have : j < cs.size := by omega
          have e : cs.getD j default = cs[j] := by simp [this]
          rw [e]; exact h3 j hj this) h1
        refine .agg _ _ (by omega) fun j hj hj' => ?_
        have e : cs.getD j default = cs[j] := by simp [hj']
        rw [← e]; exact g2 j hj
    case tup l =>
      simp only [Option.map_eq_some_iff] at hf
      obtain ⟨l', h1, rfl⟩ := hf
      cases hv with
      | tup l cs h2 h3 =>
        obtain ⟨g1, g2⟩ := all l l' (fun j => cs.getD j default) (fun j hj => by
          have : j < cs.size := by omega
          have e : cs.getD j default = cs[j] := by simp [this]
          rw [e]; exact h3 j hj this) h1
        refine .tup _ _ (by omega) fun j hj hj' => ?_
        have e : cs.getD j default = cs[j] := by simp [hj']
        rw [← e]; exact g2 j hj
    case hp k o =>
      cases hv with
      | hp k o b δ h1 =>
        simp only [CxOf] at h1
        split at hf
        · rename_i hk
          simp at hf; subst hf
          exact .hp _ _ _ _ (locT _ _ hk h1)
        · rename_i hk
          split at hf
          · rename_i l hl
            simp only [Option.map_eq_some_iff] at hf
            obtain ⟨l', h2, rfl⟩ := hf
            obtain ⟨g1, cs, g2, g3, g4⟩ := rows k l b δ (by omega) hl h1
            obtain ⟨g5, g6⟩ := all l l' (fun j => cs.getD (δ + j) default) g4 h2
            exact .vr _ _ b δ (fun j => cs.getD (δ + j) default) (fun _ => g1) (fun j hj => g3 _ (by omega)) g6
          · simp at hf
    case hs sz k o len cap =>
      cases hv with
      | hs sz k o len cap b δ cap' ad h1 h2 h3 h4 =>
        simp only [CxOf] at h1
        split at hf
        · rename_i hk
          simp at hf; subst hf
          exact .hs _ _ _ _ _ _ _ _ _ (locT _ _ hk h1) h2 h3 h4
        · rename_i hk
          split at hf
          · rename_i l hl
            split at hf
            · rename_i hle
              simp only [Option.map_eq_some_iff] at hf
              obtain ⟨l', h5, rfl⟩ := hf
              rcases Nat.eq_zero_or_pos cap' with h0 | h0
              · have : len = 0 := by omega
                subst this
                simp [mapO] at h5
                subst h5
                exact .vs0 _ _
              · obtain ⟨g1, cs, g2, g3, g4⟩ := rows k l b δ (by omega) hl h1
                obtain ⟨g5, g6⟩ := all _ l' (fun j => cs.getD (δ + (o + j)) default) (fun j hj => by
                  simp only [List.getElem_take, List.getElem_drop]
                  exact g4 _ _) h5
                have hl2 : l'.length = len * sz := by rw [g5]; simp; omega
                rw [(h4 h0).1]
                exact .vs _ _ b (δ + o) cap' (fun j => cs.getD (δ + (o + j)) default) (by omega) (fun _ => g1) (fun j hj => by
                  have := g3 (δ + (o + j)) (by omega)
                  rw [← Nat.add_assoc] at this
                  simpa [CxOf, Nat.add_assoc] using this) g6
            · simp at hf
          · simp at hf
    all_goals simp at hf


theorem low_ok {base : Nat} {O' : Nat → Prop} (hO : ∀ b, O' b → O b) {v : V} {x : Value} (hv : VR φ (CxOf w O loc) v x) (hl : lowV base v = true) : VR φ (CxOf w O' (loc.take base)) v x := by
  have le : ∀ b, ¬ (CxOf w O loc).own b → ¬ (CxOf w O' (loc.take base)).own b := fun b (h1 : ¬ O b) (h2 : O' b) => h1 (hO b h2)
  have hp : (CxOf w O' (loc.take base)).hp = (CxOf w O loc).hp := rfl
  have locT : ∀ k y, k < base → loc[k]? = some y → (loc.take base)[k]? = some y := fun k y h1 h2 => by rw [List.getElem?_take]; simp [h1, h2]
  cases v <;> simp only [lowV, Bool.false_eq_true, Bool.and_eq_true, decide_eq_true_eq] at hl
  case i z => cases hv; exact .i _ ‹_› ‹_›
  case u k z => cases hv; exact .u _ _ _ ‹_› ‹_›
  case b z => cases hv; exact .b _
  case s l => cases hv; exact .s _ _ ‹_›
  case nilp => cases hv; exact .nilp
  case nils => cases hv; exact .nils
  case vs k l => exact VR.noHp hp le 8 _ _ hv hl
  case vr l o => exact VR.noHp hp le 8 _ _ hv hl
  case fn f l k =>
    simp only [List.all_eq_true] at hl
    cases hv with
    | fn f F l m xs ys h1 h2 h3 h4 h5 =>
      exact .fn _ _ _ _ _ _ h1 h2 (fun j hj hj' => VR.noHp hp le 8 _ _ (h3 j hj hj') (hl.1 _ (List.getElem_mem hj))) h4 (fun j hj hj' => VR.noHp hp le 8 _ _ (h5 j hj hj') (hl.2 _ (List.getElem_mem hj)))
  case hp k o =>
    cases hv with
    | hp k o b δ h1 => exact .hp _ _ _ _ (locT _ _ hl h1)
  case hs sz k o len cap =>
    cases hv with
    | hs sz k o len cap b δ cap' ad h1 h2 h3 h4 => exact .hs _ _ _ _ _ _ _ _ _ (locT _ _ hl h1) h2 h3 h4

theorem row_take {h : Heap} {base k : Nat} {l : List V} (hr : row (h.take base) k = some l) : k < base ∧ row h k = some l := by
  unfold row at hr ⊢
  rw [List.getElem?_take] at hr
  by_cases hk : k < base
  · rw [if_pos hk] at hr; exact ⟨hk, hr⟩
  · rw [if_neg hk] at hr; simp at hr

/-- What a function hands back. -/
theorem back_ok {w0 : World} {O0 : Nat → Prop} {loc0 : List (Nat × Nat)} {H0 : Heap} (hlen : H0.length = loc0.length) (hs : Sim φ (baseOf w0 O0 loc0 H0) n st a w O loc []) {mode : Nat} {v u : V} {h' : Heap} {x : Value}
    (hv : VR φ (CxOf w O loc) v x) (hr : retV mode H0.length st.h v = some (u, h')) : Left φ (baseOf w0 O0 loc0 H0) u h' x w := by
  unfold retV at hr
  cases hm3 : Nat.beq mode 3 with
  | true =>
    simp only [hm3, cond_true, Option.some.injEq, Prod.mk.injEq] at hr
    obtain ⟨rfl, rfl⟩ := hr
    exact ⟨O, loc, hv, hs.heap, hs.own, hs.frame, hs.ext, hs.freshH⟩
  | false =>
  simp only [hm3, cond_false] at hr
  split at hr
  case isFalse => simp at hr
  rename_i hlow
  have hlow' : ∀ k l, row (st.h.take H0.length) k = some l → l.all (lowV H0.length) = true := by
    intro k l h
    rw [List.all_eq_true] at hlow
    unfold row at h
    split at h
    · rename_i l' hl'
      simp only [Option.some.injEq] at h
      subst h
      exact hlow _ (List.mem_of_getElem? hl')
    · simp at h
  have hHlen := hs.heap.len
  simp only [CxOf] at hHlen
  have hpre : ∀ (k : Nat) y, loc0[k]? = some y → (loc.take H0.length)[k]? = some y := by
    intro k y h
    have h1 := hs.ext.pre k y h
    have h2 : k < H0.length := by rw [hlen]; exact (List.getElem?_eq_some_iff.1 h).1
    rw [List.getElem?_take, if_pos h2]; exact h1
  have hO : ∀ b, leftO st.h loc H0.length O b → O b := fun b h => h.1
  -- the old rows, read with less owned
  have rowsT : ∀ (O' : Nat → Prop) (ext : List (Nat × Nat)), (∀ b, O' b → O b) → (∀ b, leftO st.h loc H0.length O b → O' b) → ∀ k l, row (st.h.take H0.length) k = some l →
      ∃ b δ cs T fz, (loc.take H0.length ++ ext)[k]? = some (b, δ) ∧ O' b ∧ RowAt φ (CxOf w O' (loc.take H0.length ++ ext)) l b δ cs T fz ∧ loc[k]? = some (b, δ) := by
    intro O' ext hO1 hO2 k l h
    obtain ⟨hk, h1⟩ := row_take h
    obtain ⟨b, δ, cs, T, fz, g1, g2, g3⟩ := hs.heap.rows k l h1
    simp only [CxOf] at g1
    have hk2 : k < loc.length := (List.getElem?_eq_some_iff.1 g1).1
    have g1' : (loc.take H0.length ++ ext)[k]? = some (b, δ) := by
      rw [List.getElem?_append_left (by simp; omega), List.getElem?_take, if_pos hk]; exact g1
    refine ⟨b, δ, cs, T, fz, g1', hO2 b ⟨g2, ?_⟩, ⟨g3.block, g3.room, fun j h2 h3 => ?_, g3.free⟩, g1⟩
    · rintro ⟨k', l', δ', e1, e2, e3⟩
      have := hs.heap.apart k k' l l' b δ δ' h1 e2 g1 e3
      omega
    · have h4 := hlow' k l h
      rw [List.all_eq_true] at h4
      have h5 := low_ok (O' := O') hO1 (g3.cell j h2 h3) (h4 _ (List.getElem_mem h2))
      have hle : (CxOf w O' (loc.take H0.length)).Le (CxOf w O' (loc.take H0.length ++ ext)) := ⟨fun b _ h => ⟨h, rfl⟩, fun k y h => by simp only [CxOf] at h ⊢; rw [List.getElem?_append_left (List.getElem?_eq_some_iff.1 h).1]; exact h, fun b => Nat.le_refl _⟩
      exact h5.mono hle
  have keepT : HR φ (st.h.take H0.length) (CxOf w (leftO st.h loc H0.length O) (loc.take H0.length)) ∧ (∀ b, leftO st.h loc H0.length O b → b < w.heap.size) ∧ KeptW (baseOf w0 O0 loc0 H0) w ∧ ExtB (baseOf w0 O0 loc0 H0) (leftO st.h loc H0.length O) (loc.take H0.length) ∧
      (∀ k r b δ, row (st.h.take H0.length) k = some r → (loc.take H0.length)[k]? = some (b, δ) → (baseOf w0 O0 loc0 H0).live b ∨ (baseOf w0 O0 loc0 H0).w.heap.size ≤ b) := by
    refine ⟨⟨by simp [CxOf, hHlen], fun k l h => ?_, fun k k' l l' b δ δ' h1 h2 h3 h4 => ?_⟩, fun b h => hs.own b h.1, hs.frame, ?_, ?_⟩
    · obtain ⟨b, δ, cs, T, fz, g1, g2, g3, _⟩ := rowsT _ [] hO (fun _ h => h) k l h
      rw [List.append_nil] at g1 g3
      exact ⟨b, δ, cs, T, fz, g1, g2, g3⟩
    · obtain ⟨k1, e1⟩ := row_take h1
      obtain ⟨k2, e2⟩ := row_take h2
      simp only [CxOf] at h3 h4
      rw [List.getElem?_take, if_pos k1] at h3
      rw [List.getElem?_take, if_pos k2] at h4
      exact hs.heap.apart k k' l l' b δ δ' e1 e2 h3 h4
    · refine ⟨hs.ext.bnd, fun b h hn => ⟨hs.ext.le b h hn, ?_⟩, fun b h => hs.ext.new b h.1, hpre⟩
      rintro ⟨k, l, δ, e1, e2, e3⟩
      rcases hs.freshH k l b δ e2 e3 with h1 | h1
      · exact hn h1
      · exact absurd (hs.ext.bnd b h) (Nat.not_lt.2 h1)
    · intro k r b δ h1 h2
      obtain ⟨k1, e1⟩ := row_take h1
      rw [List.getElem?_take, if_pos k1] at h2
      exact hs.freshH k r b δ e1 h2
  have fz : ∀ nk, ((fzV nk st.h H0.length 6 v).map fun x => (x, st.h.take H0.length)) = some (u, h') → Left φ (baseOf w0 O0 loc0 H0) u h' x w := by
    intro nk h
    simp only [Option.map_eq_some_iff, Prod.mk.injEq] at h
    obtain ⟨u', hf, rfl, rfl⟩ := h
    exact ⟨leftO st.h loc H0.length O, loc.take H0.length, fz_ok hs.heap 6 v u' x hv hf, keepT⟩
  -- a slice handed out with its row
  have own : ∀ (y z : V) (X : Value) (h2 : Heap), VR φ (CxOf w O loc) y X → ownV st.h H0.length y = some (z, h2) → ∃ O' loc', VR φ (CxOf w O' loc') z X ∧ HR φ h2 (CxOf w O' loc') ∧ (∀ b, O' b → b < w.heap.size) ∧
      KeptW (baseOf w0 O0 loc0 H0) w ∧ ExtB (baseOf w0 O0 loc0 H0) O' loc' ∧ (∀ k r b δ, row h2 k = some r → loc'[k]? = some (b, δ) → (baseOf w0 O0 loc0 H0).live b ∨ (baseOf w0 O0 loc0 H0).w.heap.size ≤ b) := by
    intro y z X h2 hy ho
    cases y <;> simp only [ownV] at ho <;> try (simp at ho; done)
    case nils =>
      simp only [Option.some.injEq, Prod.mk.injEq] at ho
      obtain ⟨rfl, rfl⟩ := ho
      refine ⟨leftO st.h loc H0.length O, loc.take H0.length, ?_, keepT⟩
      cases hy
      exact .nils
    rename_i sz k o len cap
    split at ho
    · simp at ho
    rename_i hk
    split at ho
    case h_2 => simp at ho
    rename_i l hl
    split at ho
    case isFalse => simp at ho
    rename_i hcond
    obtain ⟨hle, hflat⟩ := hcond
    simp only [Option.some.injEq, Prod.mk.injEq] at ho
    obtain ⟨rfl, rfl⟩ := ho
    cases hy with
    | hs sz k o len cap b δ cap' ad g1 g2 g3 g4 =>
      simp only [CxOf] at g1
      obtain ⟨b', δ', cs, T, fz, e1, e2, e3⟩ := hs.heap.rows k l hl
      simp only [CxOf] at e1
      rw [g1] at e1
      simp at e1
      obtain ⟨rfl, rfl⟩ := e1
      let O' : Nat → Prop := fun b1 => leftO st.h loc H0.length O b1 ∨ b1 = b
      have hO1 : ∀ b1, O' b1 → O b1 := fun b1 h => h.elim (fun h => h.1) (fun h => h ▸ e2)
      have hO2 : ∀ b1, leftO st.h loc H0.length O b1 → O' b1 := fun b1 h => .inl h
      have hlenT : (st.h.take H0.length).length = (loc.take H0.length).length := by simp [hHlen]
      have hkl : k < st.h.length := row_lt hl
      have hT : (loc.take H0.length).length = H0.length := by simp; omega
      have hT2 : (st.h.take H0.length).length = H0.length := by simp; omega
      have hnew : (loc.take H0.length ++ [(b, δ + o)])[H0.length]? = some (b, δ + o) := by
        rw [List.getElem?_append_right (by omega), hT]; simp
      have rowC : ∀ k1 l1, row (st.h.take H0.length ++ [some ((l.drop o).take (cap * sz))]) k1 = some l1 → (k1 < H0.length ∧ row (st.h.take H0.length) k1 = some l1) ∨ (k1 = H0.length ∧ l1 = (l.drop o).take (cap * sz)) := by
        intro k1 l1 h
        rcases Nat.lt_trichotomy k1 H0.length with h1 | h1 | h1
        · left
          refine ⟨h1, ?_⟩
          unfold row at h ⊢
          rw [List.getElem?_append_left (by omega)] at h
          exact h
        · right
          unfold row at h
          rw [List.getElem?_append_right (by omega), hT2, h1] at h
          simp at h
          exact ⟨h1, h.symm⟩
        · exfalso
          unfold row at h
          rw [List.getElem?_eq_none (by simp; omega)] at h
          simp at h
      refine ⟨O', loc.take H0.length ++ [(b, δ + o)], ?_, ⟨?_, ?_, ?_⟩, fun b1 h => hs.own b1 (hO1 b1 h), hs.frame, ?_, ?_⟩
      · refine .hs _ _ _ _ _ b (δ + o) cap' ad hnew g2 g3 fun h => ?_
        obtain ⟨q1, q2⟩ := g4 h
        exact ⟨by rw [q1]; simp, by rw [Nat.add_zero]; exact q2⟩
      · simp [CxOf, hlenT]
      · intro k1 l1 h
        rcases rowC k1 l1 h with ⟨h1, h2⟩ | ⟨rfl, rfl⟩
        · obtain ⟨b1, δ1, cs1, T1, fz1, q1, q2, q3, _⟩ := rowsT O' [(b, δ + o)] hO1 hO2 k1 l1 h2
          exact ⟨b1, δ1, cs1, T1, fz1, q1, q2, q3⟩
        · refine ⟨b, δ + o, cs, T, fz, hnew, .inr rfl, ⟨e3.block, ?_, fun j hj hj' => ?_, e3.free⟩⟩
          · have := e3.room
            simp; omega
          · have hj2 : o + j < l.length := by simp at hj; omega
            rw [List.all_eq_true] at hflat
            have hf := hflat _ (List.getElem_mem hj)
            simp only [List.getElem_take, List.getElem_drop] at hf ⊢
            have := e3.cell (o + j) hj2 (by omega)
            simp only [← Nat.add_assoc] at this
            exact this.flat _ hf
      · intro k1 k2 l1 l2 b1 δ1 δ2 h1 h2 h3 h4
        simp only [CxOf] at h3 h4
        have old : ∀ k1 l1 b1 δ1, k1 < H0.length → row (st.h.take H0.length) k1 = some l1 → (loc.take H0.length ++ [(b, δ + o)])[k1]? = some (b1, δ1) → row st.h k1 = some l1 ∧ loc[k1]? = some (b1, δ1) := by
          intro k1 l1 b1 δ1 p1 p2 p3
          rw [List.getElem?_append_left (by omega), List.getElem?_take, if_pos p1] at p3
          exact ⟨(row_take p2).2, p3⟩
        rcases rowC k1 l1 h1 with ⟨p1, p2⟩ | ⟨rfl, rfl⟩
        · obtain ⟨q1, q2⟩ := old _ _ _ _ p1 p2 h3
          rcases rowC k2 l2 h2 with ⟨p3, p4⟩ | ⟨rfl, rfl⟩
          · obtain ⟨q3, q4⟩ := old _ _ _ _ p3 p4 h4
            exact hs.heap.apart _ _ _ _ _ _ _ q1 q3 q2 q4
          · rw [hnew] at h4
            simp at h4
            have := hs.heap.apart _ _ _ _ _ _ _ q1 hl q2 (h4.1 ▸ g1)
            omega
        · rcases rowC k2 l2 h2 with ⟨p3, p4⟩ | ⟨rfl, rfl⟩
          · obtain ⟨q3, q4⟩ := old _ _ _ _ p3 p4 h4
            rw [hnew] at h3
            simp at h3
            have := hs.heap.apart _ _ _ _ _ _ _ q3 hl q4 (h3.1 ▸ g1)
            omega
          · rfl
      · refine ⟨hs.ext.bnd, fun b1 h hn => .inl ⟨hs.ext.le b1 h hn, ?_⟩, fun b1 h => hs.ext.new b1 (hO1 b1 h), fun k1 y1 h => ?_⟩
        · rintro ⟨k1, l1, δ1, p1, p2, p3⟩
          rcases hs.freshH k1 l1 b1 δ1 p2 p3 with h1 | h1
          · exact hn h1
          · exact absurd (hs.ext.bnd b1 h) (Nat.not_lt.2 h1)
        · have := hpre k1 y1 h
          rw [List.getElem?_append_left (List.getElem?_eq_some_iff.1 this).1]
          exact this
      · intro k1 r1 b1 δ1 h1 h2
        rcases rowC k1 r1 h1 with ⟨p1, p2⟩ | ⟨rfl, rfl⟩
        · rw [List.getElem?_append_left (by omega), List.getElem?_take, if_pos p1] at h2
          exact hs.freshH k1 r1 b1 δ1 (row_take p2).2 h2
        · rw [hnew] at h2
          simp at h2
          exact hs.freshH k l b1 δ hl (h2.1 ▸ g1)
  unfold handV at hr
  split at hr
  · exact fz false hr
  · exact fz true hr
  · split at hr
    · rename_i y r
      split at hr
      · rename_i z h2 ho
        split at hr
        · rename_i hfl
          simp only [Option.some.injEq, Prod.mk.injEq] at hr
          obtain ⟨rfl, rfl⟩ := hr
          cases hv with
          | tup l cs g1 g2 =>
            obtain ⟨O', loc', q1, q2⟩ := own y z _ h2 (g2 0 (by simp) (by rw [← g1]; simp)) ho
            refine ⟨O', loc', .tup _ _ (by simpa using g1) (fun j hj hj' => ?_), q2⟩
            cases j with
            | zero => exact q1
            | succ j =>
              rw [List.all_eq_true] at hfl
              have hj1 : j < r.length := by simpa using hj
              exact (g2 (j + 1) (by simpa using hj1) hj').flat1 _ (hfl _ (List.getElem_mem hj1))
        · simp at hr
      · simp at hr
    · exact own _ _ _ _ hv hr

/- ## Calls -/

def chkFn (P : Program) (φ : Nat → Option FuncId) (ψ : Prim → FuncId → Bool) (F : FuncId) (m : MFn) : Bool :=
  match P.funcs[F]? with
  | some fn => (match fn.body with
    | some code => chkStm P φ ψ fn.ntmps code m.body && chkRes P fn.results.toList m.res && fn.name != "runtime.NumGoroutine"
    | none => false)
  | none => false

theorem zipE_get : ∀ (l : List V) (k s : Nat), get (zipE k l) s = if k ≤ s then (l[s - k]?).getD .undef else .undef
  | [], k, s => by simp [zipE, get]
  | v :: l, k, s => by
    simp only [zipE, get_cons, zipE_get l (k + 1) s]
    rcases Nat.lt_trichotomy k s with h | h | h
    · have h1 : s - k = s - (k + 1) + 1 := by omega
      rw [if_neg (by omega), if_pos (by omega), if_pos (by omega), h1]
      simp
    · subst h; simp
    · rw [if_neg (by omega), if_neg (by omega), if_neg (by omega)]

/-- Every call that the small language can make, the machine makes alike. -/
theorem run_ok {T : Nat → Option MFn} (hE : Env0 P φ ψ) (hm : P.follows .mixedOrders = true) (hT : ∀ f F m, φ f = some F → T f = some m → chkFn P φ ψ F m = true) : ∀ N, CallOk P φ (run T N)
  | 0 => by intro f F args H v H' _ h; simp [run] at h
  | N + 1 => by
    intro f F args H v H' hF hrun vals w O loc hh ho hargs
    have ih := run_ok hE hm hT N
    simp only [run] at hrun
    split at hrun
    · rename_i m hTm
      have hc := hT f F m hF hTm
      unfold chkFn at hc
      split at hc
      · rename_i fn hfn
        split at hc
        · rename_i code hcode
          simp only [Bool.and_eq_true] at hc
          obtain ⟨⟨hc1, hc2⟩, _⟩ := hc
          have hlen : H.length = loc.length := hh.len
          unfold finish at hrun
          let tm : Array Value := vals ++ Array.replicate (fn.ntmps - vals.size) Go.undef
          have hsz : fn.ntmps ≤ tm.size := by simp [tm]; omega
          have hs0 : Sim φ (baseOf w O loc H) tm.size ⟨zipE 0 args, H⟩ { tmps := tm, defers := [] } w O loc [] := by
            have hget : ∀ s v, get (zipE 0 args) s = v → v ≠ .undef → ∃ h : s < args.length, v = args[s] := by
              intro s v h hv
              rw [zipE_get] at h
              simp only [Nat.zero_le, if_true, Nat.sub_zero] at h
              by_cases hlt : s < args.length
              · exact ⟨hlt, by simp [hlt] at h; exact h.symm⟩
              · simp [Nat.not_lt.1 hlt] at h
                exact absurd h.symm hv
            have hval : ∀ s (h : s < args.length), ∃ x, tm[s]? = some x ∧ VR φ (CxOf w O loc) args[s] x := by
              intro s h
              have h1 : s < vals.toList.length := by rw [← hargs.1]; exact h
              have h2 : s < vals.size := by simpa using h1
              refine ⟨vals[s], by simp [tm, Array.getElem?_append, h2], by simpa using hargs.2 s h h1⟩
            have hpl : ∀ s v, get (zipE 0 args) s = v → (∀ l, v ≠ .loc l) ∧ (∀ s' o, v ≠ .lp s' o) ∧ (∀ z s' o p q, v ≠ .ls z s' o p q) := by
              intro s v h
              by_cases hu : v = .undef
              · subst hu; simp
              · obtain ⟨hlt, rfl⟩ := hget s v h hu
                obtain ⟨x, _, hx⟩ := hval s hlt
                generalize args[s] = u at hx
                cases hx <;> simp
            refine ⟨rfl, rfl, hh, fun s => ?_, fun s s' o h => absurd rfl ((hpl s _ h).2.1 s' o), fun s z s' o p q h => absurd rfl ((hpl s _ h).2.2 z s' o p q), fun s s' l l' b h => absurd rfl ((hpl s _ h).1 l),
              fun s l b k r δ h => absurd rfl ((hpl s _ h).1 l), fun s l b h => absurd rfl ((hpl s _ h).1 l), fun k r b δ h1 h2 => .inl ⟨k, r, δ, h1, h2⟩, ho, ⟨rfl, rfl, rfl, Nat.le_refl _, fun b => Nat.le_refl _, fun b _ _ => rfl⟩,
              ⟨ho, fun b h _ => h, fun b h => .inl h, fun k x h => h⟩⟩
            show ER φ _ _ s (get (zipE 0 args) s)
            by_cases hu : get (zipE 0 args) s = .undef
            · rw [hu]; trivial
            · obtain ⟨hlt, he⟩ := hget s _ rfl hu
              obtain ⟨x, hx1, hx2⟩ := hval s hlt
              rw [he]
              have h3 := hpl s _ rfl
              rw [he] at h3
              generalize args[s] = u at hx2 h3
              cases u <;> first
                | exact ⟨x, hx1, VL_of_VR hx2⟩
                | exact absurd rfl (h3.1 _)
                | trivial
          -- the body
          have fin : ∀ ex st', execW (run T N) (iter N) m.body ⟨zipE 0 args, H⟩ = some (ex, st') → (∀ id, ex ≠ .exit id) → (match resV st'.e m.res with | some v => retV m.mode H.length st'.h v | none => none) = some (v, H') →
              Go.Calls P F vals w fun | .returned x, w' => Left φ (baseOf w O loc H) v H' x w' | _, _ => False := by
            intro ex st' hx hne hres
            refine Go.calls_of_wp hfn hcode ?_
            refine stm_wp hE ih hm N m.body code (chkStm_mono hsz _ _ hc1) hs0 hx fun a' w' O' loc' h => ?_
            split at hres
            · rename_i v0 hv0
              obtain ⟨x, e1, e2⟩ := res_all h hc2 hv0
              have hl := back_ok hlen h e2 hres
              cases ex with
              | norm => exact ⟨h.defers, x, e1, hl⟩
              | exit id => exact absurd rfl (hne id)
              | ret => exact ⟨h.defers, x, e1, hl⟩
            · simp at hres
          cases hx : execW (run T N) (iter N) m.body ⟨zipE 0 args, H⟩ with
          | none => simp [hx] at hrun
          | some r =>
            obtain ⟨ex, st'⟩ := r
            rw [hx] at hrun
            cases ex with
            | norm => exact fin _ _ hx (by simp) hrun
            | exit id => simp at hrun
            | ret => exact fin _ _ hx (by simp) hrun
        · simp at hc
      · simp at hc
    · simp at hrun

theorem Run_ok {T : Nat → Option MFn} (hE : Env0 P φ ψ) (hm : P.follows .mixedOrders = true) (hT : ∀ f F m, φ f = some F → T f = some m → chkFn P φ ψ F m = true) : CallOk P φ (Run T) := by
  intro f F args H v H' hF hrun
  obtain ⟨N, h⟩ := (Run_some T).1 hrun
  exact run_ok hE hm hT N f F args H v H' hF h

end
end Mir

