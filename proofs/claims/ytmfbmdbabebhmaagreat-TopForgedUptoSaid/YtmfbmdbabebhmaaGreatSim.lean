/- The invariant between a state of the small language and a frame of the machine; how it is kept. Conditions: none. -/
import Derived.Test.YtmfbmdbabebhmaaGreatChk
set_option linter.unusedVariables false
set_option linter.unusedSimpArgs false
namespace Mir
open Go (Value Addr IntKind World Obj Act Program FuncId TypeId Operand Op Oper Code TypeDesc)

abbrev ptrV (b o : Nat) : Value := .pointer (some ⟨b, o, none⟩)

/-- How a slot's value stands to the machine's (addresses of local variables too). -/
def VL (φ : Nat → Option FuncId) (c : Cx) (t : Array Value) : V → Value → Prop
  | .lp s o, x => ∃ b, t[s]? = some (ptrV b 0) ∧ x = ptrV b o
  | .ls _ s o len cap, x => ∃ b ad cap', t[s]? = some (ptrV b 0) ∧ x = .slice (some ad) len cap' ∧ len ≤ cap ∧ cap ≤ cap' ∧ (0 < cap' → ad = ⟨b, o, none⟩)
  | .loc _, _ => False
  | v, x => VR φ c v x

def ER (φ : Nat → Option FuncId) (c : Cx) (t : Array Value) (s : Nat) : V → Prop
  | .loc l => ∃ b cs T fz, t[s]? = some (ptrV b 0) ∧ c.own b ∧ l.length = cs.size ∧ RowAt φ c l b 0 cs T fz
  | .undef => True
  | v => ∃ x, t[s]? = some x ∧ VL φ c t v x

/-- What stood when the call began: the world, the blocks that its small heap could write. -/
structure Base where
  w : World
  live : Nat → Prop
  own : Nat → Prop
  loc : List (Nat × Nat)

/-- What was own then (and in no row) is own now; what came to it is new. -/
structure ExtB (B : Base) (O : Nat → Prop) (loc : List (Nat × Nat)) : Prop where
  bnd : ∀ b, B.own b → b < B.w.heap.size
  le : ∀ b, B.own b → ¬ B.live b → O b
  new : ∀ b, O b → B.own b ∨ B.w.heap.size ≤ b
  pre : ∀ (k : Nat) (x : Nat × Nat), B.loc[k]? = some x → loc[k]? = some x

structure KeptW (B : Base) (w : World) : Prop where
  os : w.os = B.w.os
  tape : w.tape = B.w.tape
  output : w.output = B.w.output
  size : B.w.heap.size ≤ w.heap.size
  bs : ∀ b, bsize (fun b => B.w.heap[b]?) b ≤ bsize (fun b => w.heap[b]?) b
  block : ∀ b, b < B.w.heap.size → ¬ B.live b → w.heap[b]? = B.w.heap[b]?

structure Sim (φ : Nat → Option FuncId) (B : Base) (n : Nat) (st : St) (a : Act) (w : World) (O : Nat → Prop) (loc : List (Nat × Nat)) (D : List Nat) : Prop where
  size : a.tmps.size = n
  defers : a.defers = []
  heap : HR φ st.h (CxOf w O loc)
  env : ∀ s, ER φ (CxOf w O loc) a.tmps s (get st.e s)
  lps : ∀ s s' o, get st.e s = .lp s' o → s' ∈ D
  lss : ∀ s z s' o m k, get st.e s = .ls z s' o m k → s' ∈ D
  locs : ∀ s s' l l' b, get st.e s = .loc l → get st.e s' = .loc l' → a.tmps[s]? = some (ptrV b 0) → a.tmps[s']? = some (ptrV b 0) → s = s'
  locH : ∀ s l b k r δ, get st.e s = .loc l → a.tmps[s]? = some (ptrV b 0) → row st.h k = some r → loc[k]? = some (b, δ) → False
  fresh : ∀ s l b, get st.e s = .loc l → a.tmps[s]? = some (ptrV b 0) → B.w.heap.size ≤ b
  freshH : ∀ k r b δ, row st.h k = some r → loc[k]? = some (b, δ) → B.live b ∨ B.w.heap.size ≤ b
  own : ∀ b, O b → b < w.heap.size
  frame : KeptW B w
  ext : ExtB B O loc

section
variable {P : Program} {φ : Nat → Option FuncId} {B : Base} {n : Nat} {st : St} {a : Act} {w : World} {O : Nat → Prop} {loc : List (Nat × Nat)} {D : List Nat}

theorem get_cons (t : Nat) (v : V) (e : Env) (s : Nat) : get ((t, v) :: e) s = if t = s then v else get e s := by
  simp only [get]
  by_cases h : t = s
  · subst h; simp
  · have : Nat.beq t s = false := by rw [← Bool.not_eq_true, Nat.beq_eq]; exact h
    simp [h, this]

theorem get_put (d : Nat) (v : V) (e : Env) (s : Nat) : get (put (some d) v e) s = if d = s then v else get e s := get_cons d v e s

theorem VL_of_VR {c : Cx} {t : Array Value} {v : V} {x : Value} (h : VR φ c v x) : VL φ c t v x := by
  cases h <;> simp only [VL]
  · exact .i _ ‹_› ‹_›
  · exact .u _ _ _ ‹_› ‹_›
  · exact .b _
  · exact .s _ _ ‹_›
  · exact .agg _ _ ‹_› ‹_›
  · exact .tup _ _ ‹_› ‹_›
  · exact .nilp
  · exact .vr _ _ _ _ _ ‹_› ‹_› ‹_›
  · exact .hp _ _ _ _ ‹_›
  · exact .nils
  · exact .vsn
  · exact .vs0 _ _
  · exact .vs _ _ _ _ _ _ ‹_› ‹_› ‹_› ‹_›
  · exact .hs _ _ _ _ _ _ _ _ _ ‹_› ‹_› ‹_› ‹_›
  · exact .fn _ _ _ _ _ _ ‹_› ‹_› ‹_› ‹_› ‹_›
  · exact .undef _
  · exact .nilf

theorem VR_of_chkC (c : Cx) (v : V) (x : Value) (h : chkC φ v x = true) : VR φ c v x := by
  unfold chkC at h
  split at h
  · simp only [Bool.and_eq_true, beq_iff_eq, decide_eq_true_eq] at h
    obtain ⟨⟨rfl, h1⟩, h2⟩ := h
    exact .i _ h1 h2
  · simp only [Bool.and_eq_true, beq_iff_eq, decide_eq_true_eq] at h
    obtain ⟨⟨h1, rfl⟩, h2⟩ := h
    exact .u _ _ _ h1 h2
  · simp only [beq_iff_eq] at h
    subst h; exact .b _
  · simp only [beq_iff_eq] at h
    exact .s _ _ h
  · exact .nilp
  · exact .nilf
  · simp only [Bool.and_eq_true, beq_iff_eq] at h
    obtain ⟨rfl, rfl⟩ := h
    exact .nils
  · simp only [Bool.and_eq_true, beq_iff_eq] at h
    obtain ⟨rfl, rfl⟩ := h
    exact .vsn
  · simp only [Bool.and_eq_true, beq_iff_eq] at h
    obtain ⟨⟨h1, h2⟩, h3⟩ := h
    exact .fn _ _ _ _ _ _ h1 (by simpa using h2.symm) (fun j hj => absurd hj (by simp)) (by simpa using h3.symm) (fun j hj => absurd hj (by simp))
  · simp at h

theorem VRs_of_chkVs (c : Cx) : ∀ (l : List V) (xs : List Value), chkVs φ l xs = true → VRs φ c l xs
  | [], [], _ => ⟨rfl, fun j h => absurd h (by simp)⟩
  | a :: l, b :: m, h => by
    simp only [chkVs, Bool.and_eq_true] at h
    have h1 := VR_of_chkC c a b h.1
    obtain ⟨h2, h3⟩ := VRs_of_chkVs c l m h.2
    refine ⟨by simp [h2], fun j hj hj' => ?_⟩
    cases j with
    | zero => exact h1
    | succ j => exact h3 j (by simpa using hj) (by simpa using hj')
  | [], _ :: _, h => by simp [chkVs] at h
  | _ :: _, [], h => by simp [chkVs] at h

theorem VR_of_chkV (c : Cx) (v : V) (x : Value) (h : chkV φ v x = true) : VR φ c v x := by
  unfold chkV at h
  split at h
  · obtain ⟨h1, h2⟩ := VRs_of_chkVs c _ _ h
    refine .agg _ _ (by simpa using h1) fun j hj hj' => ?_
    have := h2 j hj (by simpa using hj')
    simpa using this
  · obtain ⟨h1, h2⟩ := VRs_of_chkVs c _ _ h
    refine .tup _ _ (by simpa using h1) fun j hj hj' => ?_
    have := h2 j hj (by simpa using hj')
    simpa using this
  · exact VR_of_chkC c _ _ h

theorem eval_tmp (a : Act) (t : Nat) {x : Value} (h : a.tmps[t]? = some x) : a.eval (.tmp t) = x := by
  simp [Act.eval, h]

/-- An operand's value (of a local variable: its address). -/
theorem ea_VL (hs : Sim φ B n st a w O loc D) {x : Operand} {y : Opd} (h : chkX φ x y = true) :
    VL φ (CxOf w O loc) a.tmps (ea st.e y) (a.eval x) := by
  cases x with
  | tmp t =>
    cases y with
    | c v => simp [chkX] at h
    | t s =>
      simp only [chkX, beq_iff_eq] at h
      subst h
      have he := hs.env t
      simp only [ea]
      cases hg : get st.e t <;> simp only [hg, ER] at he <;> try (obtain ⟨x, hx, hv⟩ := he; rw [eval_tmp a t hx]; exact hv)
      · obtain ⟨b, cs, T, fz, hx, _⟩ := he
        rw [eval_tmp a t hx]
        exact ⟨b, hx, rfl⟩
      · exact .undef _
  | const v =>
    cases y with
    | t s => simp [chkX] at h
    | c u => exact VL_of_VR (VR_of_chkV _ _ _ h)
  | global g => cases y <;> simp [chkX] at h
  | func F =>
    cases y with
    | t s => simp [chkX] at h
    | c u =>
      cases u <;> simp only [chkX, Bool.false_eq_true] at h
      rename_i f l m
      cases l <;> cases m <;> simp only [chkX, Bool.false_eq_true, beq_iff_eq] at h
      exact .fn _ _ _ _ _ _ h rfl (fun j hj => absurd hj (by simp)) rfl (fun j hj => absurd hj (by simp))

theorem ev_VL (hs : Sim φ B n st a w O loc D) {x : Operand} {y : Opd} (h : chkX φ x y = true) :
    VL φ (CxOf w O loc) a.tmps (ev st.e y) (a.eval x) := by
  cases y with
  | c v => exact ea_VL hs h
  | t s =>
    have h1 := ea_VL hs h
    simp only [ea, ev] at *
    cases hg : get st.e s <;> simp only [hg] at h1 ⊢ <;> first | exact h1 | exact .undef _

theorem Cx.le_of {w w' : World} {O O' : Nat → Prop} {loc loc' : List (Nat × Nat)}
    (h1 : ∀ b, b < w.heap.size → ¬ O b → ¬ O' b ∧ w'.heap[b]? = w.heap[b]?) (h2 : ∀ (k : Nat) (x : Nat × Nat), loc[k]? = some x → loc'[k]? = some x)
    (h3 : ∀ b, bsize (fun b => w.heap[b]?) b ≤ bsize (fun b => w'.heap[b]?) b) :
    (CxOf w O loc).Le (CxOf w' O' loc') := by
  refine ⟨fun b hb ho => h1 b ?_ ho, h2, h3⟩
  rcases Nat.lt_or_ge b w.heap.size with h | h
  · exact h
  · exact absurd (by simp [CxOf, Array.getElem?_eq_none h]) hb

theorem RowAt.mono {c c' : Cx} {l : List V} {b δ : Nat} {cs : Array Value} {T : Nat} {fz : Nat × Nat} (h : RowAt φ c l b δ cs T fz) (hc : c.Le c')
    (hb : c'.hp b = c.hp b) : RowAt φ c' l b δ cs T fz :=
  ⟨hb.trans h.block, h.room, fun j h1 h2 => (h.cell j h1 h2).mono hc, h.free⟩

theorem VL.mono {c c' : Cx} {t : Array Value} (hc : c.Le c') {v : V} {x : Value} (h : VL φ c t v x) : VL φ c' t v x := by
  cases v <;> first | exact h | exact VR.mono hc h

theorem ER.mono {c c' : Cx} {t : Array Value} {s : Nat} (hc : c.Le c') {v : V} (h : ER φ c t s v)
    (hb : ∀ l b, v = .loc l → t[s]? = some (ptrV b 0) → c'.hp b = c.hp b ∧ c'.own b) : ER φ c' t s v := by
  cases v <;> simp only [ER] at h ⊢ <;> try (obtain ⟨x, hx, hv⟩ := h; exact ⟨x, hx, VL.mono hc hv⟩)
  obtain ⟨b, cs, T, fz, hx, ho, hl, hr⟩ := h
  obtain ⟨h1, h2⟩ := hb _ b rfl hx
  exact ⟨b, cs, T, fz, hx, h2, hl, hr.mono hc h1⟩

/-- Memory outside the local variables has changed. -/
theorem Sim.world (hs : Sim φ B n st a w O loc D) {w' : World} {O' : Nat → Prop} {loc' : List (Nat × Nat)} {h' : Heap}
    (hc : (CxOf w O loc).Le (CxOf w' O' loc')) (hl : ∀ s l b, get st.e s = .loc l → a.tmps[s]? = some (ptrV b 0) → w'.heap[b]? = w.heap[b]? ∧ O' b)
    (hh : HR φ h' (CxOf w' O' loc')) (h1 : ∀ s l b k r δ, get st.e s = .loc l → a.tmps[s]? = some (ptrV b 0) → row h' k = some r → loc'[k]? = some (b, δ) → False)
    (h2 : ∀ k r b δ, row h' k = some r → loc'[k]? = some (b, δ) → B.live b ∨ B.w.heap.size ≤ b) (h3 : ∀ b, O' b → b < w'.heap.size) (h4 : KeptW B w') (h5 : ExtB B O' loc') :
    Sim φ B n ⟨st.e, h'⟩ a w' O' loc' D where
  size := hs.size
  defers := hs.defers
  heap := hh
  env s := (hs.env s).mono hc fun l b hv hx => hl s l b hv hx
  lps := hs.lps
  lss := hs.lss
  locs := hs.locs
  locH := h1
  fresh := hs.fresh
  freshH := h2
  own := h3
  frame := h4
  ext := h5

theorem tmps_put (a : Act) (d : Nat) (x : Value) : (a.put (some d) x).tmps = a.tmps.setIfInBounds d x := rfl

theorem tmps_put_same {a : Act} {d : Nat} (x : Value) (h : d < a.tmps.size) : (a.put (some d) x).tmps[d]? = some x := by
  simp [tmps_put, Array.getElem?_setIfInBounds, h]

theorem tmps_put_ne {a : Act} {d s : Nat} (x : Value) (h : d ≠ s) : (a.put (some d) x).tmps[s]? = a.tmps[s]? := by
  simp [tmps_put, Array.getElem?_setIfInBounds, h]

theorem VL.put {c : Cx} {a : Act} {d : Nat} {x : Value} {v : V} {y : Value} (h : VL φ c a.tmps v y) (h1 : ∀ s o, v = .lp s o → s ≠ d) (h2 : ∀ z s o m k, v = .ls z s o m k → s ≠ d) :
    VL φ c (a.put (some d) x).tmps v y := by
  cases v <;> try exact h
  · obtain ⟨b, hb, he⟩ := h
    exact ⟨b, by rw [tmps_put_ne x (Ne.symm (h1 _ _ rfl))]; exact hb, he⟩
  · obtain ⟨b, ad, cap', hb, he⟩ := h
    exact ⟨b, ad, cap', by rw [tmps_put_ne x (Ne.symm (h2 _ _ _ _ _ rfl))]; exact hb, he⟩

/-- A slot is given a new value. -/
theorem Sim.put (hs : Sim φ B n st a w O loc D) {d : Nat} {v : V} {x : Value} (hv : VL φ (CxOf w O loc) a.tmps v x) (hd : d < n) (hD : d ∉ D) (D' : List Nat) (hDD : ∀ s, s ∈ D → s ∈ D')
    (hl : ∀ s o, v = .lp s o → s ∈ D' ∧ s ≠ d) (hl2 : ∀ z s o m k, v = .ls z s o m k → s ∈ D' ∧ s ≠ d) :
    Sim φ B n ⟨Mir.put (some d) v st.e, st.h⟩ (a.put (some d) x) w O loc D' := by
  have hda : d < a.tmps.size := by rw [hs.size]; exact hd
  have hnl : ∀ l, v ≠ .loc l := by rintro l rfl; exact hv.elim
  have old : ∀ s l, get (Mir.put (some d) v st.e) s = .loc l → d ≠ s ∧ get st.e s = .loc l := by
    intro s l h
    rw [get_put] at h
    by_cases e : d = s
    · rw [if_pos e] at h; exact absurd h (hnl l)
    · rw [if_neg e] at h; exact ⟨e, h⟩
  refine ⟨by simp [tmps_put, hs.size], hs.defers, hs.heap, fun s => ?_, fun s s' o h => ?_, fun s z s' o m k h => ?_, ?_, ?_, ?_, hs.freshH, hs.own, hs.frame, hs.ext⟩
  · show ER φ _ _ s (get (Mir.put (some d) v st.e) s)
    rw [get_put]
    by_cases e : d = s
    · subst e
      rw [if_pos rfl]
      have hv' := hv.put (x := x) (d := d) (fun s o h => (hl s o h).2) (fun z s o m k h => (hl2 z s o m k h).2)
      cases v <;> simp only [ER] <;> first | exact ⟨x, tmps_put_same x hda, hv'⟩ | exact hv.elim | skip
    · rw [if_neg e]
      have he := hs.env s
      cases hg : get st.e s <;> simp only [hg, ER] at he ⊢ <;> try (
        obtain ⟨y, hy, hvy⟩ := he
        refine ⟨y, by rw [tmps_put_ne x e]; exact hy, VL.put hvy (fun s' o h => ?_) (fun z s' o m k h => ?_)⟩ <;> first
          | (exact fun e => hD (e ▸ hs.lps s s' o (hg.trans h)))
          | (exact fun e => hD (e ▸ hs.lss s z s' o m k (hg.trans h))))
      obtain ⟨b, cs, T, fz, hx, rest⟩ := he
      exact ⟨b, cs, T, fz, by rw [tmps_put_ne x e]; exact hx, rest⟩
  · change get (Mir.put (some d) v st.e) s = _ at h
    rw [get_put] at h
    by_cases e : d = s
    · rw [if_pos e] at h; exact (hl s' o h).1
    · rw [if_neg e] at h; exact hDD _ (hs.lps s s' o h)
  · change get (Mir.put (some d) v st.e) s = _ at h
    rw [get_put] at h
    by_cases e : d = s
    · rw [if_pos e] at h; exact (hl2 z s' o m k h).1
    · rw [if_neg e] at h; exact hDD _ (hs.lss s z s' o m k h)
  · intro s s' l l' b h h' hx hx'
    obtain ⟨e, h⟩ := old s l h
    obtain ⟨e', h'⟩ := old s' l' h'
    rw [tmps_put_ne x e] at hx
    rw [tmps_put_ne x e'] at hx'
    exact hs.locs s s' l l' b h h' hx hx'
  · intro s l b k r δ h hx
    obtain ⟨e, h⟩ := old s l h
    rw [tmps_put_ne x e] at hx
    exact hs.locH s l b k r δ h hx
  · intro s l b h hx
    obtain ⟨e, h⟩ := old s l h
    rw [tmps_put_ne x e] at hx
    exact hs.fresh s l b h hx

/-- More addresses may have been made. -/
theorem Sim.more (hs : Sim φ B n st a w O loc D) (D' : List Nat) (h : ∀ s, s ∈ D → s ∈ D') : Sim φ B n st a w O loc D' :=
  { hs with lps := fun s s' o e => h _ (hs.lps s s' o e), lss := fun s z s' o m k e => h _ (hs.lss s z s' o m k e) }

end
end Mir
