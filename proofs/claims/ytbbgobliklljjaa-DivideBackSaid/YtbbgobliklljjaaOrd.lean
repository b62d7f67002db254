/- Operations that do not touch each other may change places. Pure facts on the small language. Conditions: none. -/
import Derived.Test.YtbbgobliklljjaaChk
set_option linter.unusedVariables false
set_option linter.unusedSimpArgs false
namespace Mir

section
variable {c : Nat → List V → Heap → Option (V × Heap)} {e e' : Env}

def Agree (l : List Nat) (e e' : Env) : Prop := ∀ s, s ∈ l → get e' s = get e s

theorem Agree.sub {l m : List Nat} (h : Agree l e e') (hs : ∀ s, s ∈ m → s ∈ l) : Agree m e e' := fun s hm => h s (hs s hm)

theorem ev_agree {x : Opd} (h : Agree x.slots e e') : ev e' x = ev e x := by
  cases x with
  | c v => rfl
  | t s => simp only [ev, h s (by simp [Opd.slots])]

theorem ea_agree {x : Opd} (h : Agree x.slots e e') : ea e' x = ea e x := by
  cases x with
  | c v => rfl
  | t s => simp only [ea, h s (by simp [Opd.slots])]

theorem evAll_agree {xs : List Opd} (h : Agree (xs.flatMap Opd.slots) e e') : evAll e' xs = evAll e xs := by
  refine List.map_congr_left fun x hx => ev_agree (h.sub fun s hs => List.mem_flatMap.2 ⟨x, hx, hs⟩)

theorem eaAll_agree {xs : List Opd} (h : Agree (xs.flatMap Opd.slots) e e') : xs.map (ea e') = xs.map (ea e) := by
  refine List.map_congr_left fun x hx => ea_agree (h.sub fun s hs => List.mem_flatMap.2 ⟨x, hx, hs⟩)

theorem parts_agree {ps : List (Nat × Nat × Opd)} (h : Agree (ps.flatMap fun p => p.2.2.slots) e e') : parts e' ps = parts e ps := by
  refine List.map_congr_left fun p hp => ?_
  rw [ev_agree (h.sub fun s hs => List.mem_flatMap.2 ⟨p, hp, hs⟩)]

theorem bounds_agree {len cap : Nat} {lo hi : Option Opd} (h : Agree (oslots lo) e e') (h' : Agree (oslots hi) e e') : bounds len cap e' lo hi = bounds len cap e lo hi := by
  unfold bounds
  cases lo <;> cases hi <;> simp only [oslots] at h h' <;> simp only [] <;> try rw [ev_agree h] <;> try rw [ev_agree h']
  all_goals first | rfl | (simp only [ev_agree h, ev_agree h']) | (simp only [ev_agree h']) | (simp only [ev_agree h])

theorem slcV_agree {sz : Nat} {lo hi : Option Opd} {v : V} (h : Agree (oslots lo) e e') (h' : Agree (oslots hi) e e') : slcV e' sz lo hi v = slcV e sz lo hi v := by
  cases v <;> simp only [slcV, bounds_agree h h']

theorem slaV_agree {H : Heap} {n sz : Nat} {lo hi : Option Opd} {v : V} (h : Agree (oslots lo) e e') (h' : Agree (oslots hi) e e') : slaV e' H n sz lo hi v = slaV e H n sz lo hi v := by
  simp only [slaV, bounds_agree h h']

theorem lend_agree {rs : List Nat} {v : V} (h : Agree rs e e') : lend e' rs v = lend e rs v := by
  cases v <;> simp only [lend]
  all_goals
    split
    · rename_i hr
      rw [h _ (by simpa using hr)]
    · rfl

theorem lendAll_agree {rs : List Nat} (h : Agree rs e e') : ∀ l, lendAll e' rs l = lendAll e rs l
  | [] => rfl
  | v :: l => by simp only [lendAll, lend_agree h, lendAll_agree h l]

theorem sliceCellsL_agree {rs : List Nat} {H : Heap} {v : V} (h : Agree rs e e') : sliceCellsL e' H rs v = sliceCellsL e H rs v := by
  cases v <;> simp only [sliceCellsL]
  split
  · rename_i hr
    rw [h _ (by simpa using hr)]
  · rfl

theorem callV_agree {H : Heap} {f : Nat} {rs : List Nat} {l : List V} (h : Agree rs e e') : callV c e' H f rs l = callV c e H f rs l := by
  unfold callV
  cases rs <;> simp only [lendAll_agree h]

theorem Agree.left {l m : List Nat} (h : Agree (l ++ m) e e') : Agree l e e' := h.sub fun s hs => List.mem_append_left _ hs
theorem Agree.right {l m : List Nat} (h : Agree (l ++ m) e e') : Agree m e e' := h.sub fun s hs => List.mem_append_right _ hs
theorem Agree.head {s : Nat} {m : List Nat} (h : Agree (s :: m) e e') : get e' s = get e s := h s (by simp)
theorem Agree.tail {s : Nat} {m : List Nat} (h : Agree (s :: m) e e') : Agree m e e' := h.sub fun s hs => List.mem_cons_of_mem _ hs

/-- An operation's value hangs on what it reads alone. -/
theorem evalO_agree {o : MOp} {H : Heap} (h : Agree o.reads e e') : evalO c o e' H = evalO c o e H := by
  cases o <;> simp only [MOp.reads] at h <;> simp only [evalO]
  case pick a b d => rw [ev_agree h.left.left, ev_agree h.left.right, ev_agree h.right]
  case build z ps => rw [parts_agree h]
  case lit i sz k z ps => rw [parts_agree h]
  case ldl s q x => rw [ea_agree h.tail, h.head]
  case idx n sz x i => rw [ea_agree h.left, ev_agree h.right]
  case idxs sz x i => rw [ea_agree h.left, ev_agree h.right]
  case off k x => rw [ea_agree h]
  case nck x => rw [ea_agree h]
  case sls x lo hi => simp only [ev_agree h.left.left, bounds_agree h.left.right h.right]
  case slv sz x lo hi => simp only [ev_agree h.left.left, slcV_agree h.left.right h.right]
  case sla i n sz x lo hi => simp only [ea_agree h.left.left, slaV_agree h.left.right h.right]
  case fun_ f a b => rw [evAll_agree h.left, evAll_agree h.right]
  case call f rs args =>
    rw [callV_agree h.left]
    cases rs with
    | nil => simp only [evAll_agree h.right]
    | cons r rs => simp only [eaAll_agree h.right]
  case callp f args => simp only [evAll_agree h]
  case cal g args => simp only [ev_agree h.left, evAll_agree h.right, callV_agree (rs := []) (c := c) (e := e) (e' := e') (fun s hs => by simp at hs)]
  case prim p args => rw [evAll_agree h]
  all_goals first
    | (simp only [ev_agree h]; done)
    | (simp only [ev_agree h.left, ev_agree h.right]; done)
    | rfl

/-- An operation that leaves the small heap's cells unread: its value hangs not on them. -/
theorem evalO_heap0 {o : MOp} {H H' H1 : Heap} {v : V} (hc : o.cls = 0) (h : evalO c o e H = some (v, H')) : H' = H ∧ evalO c o e H1 = some (v, H1) := by
  cases o <;> simp only [MOp.cls] at hc <;> simp only [evalO] at h ⊢
  case ld i q x =>
    cases i <;> simp at hc
    split at h
    · rename_i l k hx
      simp only [Option.map_eq_some_iff, Prod.mk.injEq] at h ⊢
      obtain ⟨u, hu, rfl, rfl⟩ := h
      exact ⟨rfl, by simp [hu]⟩
    · rename_i k o' hx
      simp [row] at h
    · simp at h
  case b2s i x =>
    cases i <;> simp at hc
    simp only [if_true] at h ⊢
    split at h
    · rename_i l hl
      split at h
      · rename_i m hm
        split at h
        · rename_i hlen
          simp only [Option.some.injEq, Prod.mk.injEq] at h
          obtain ⟨rfl, rfl⟩ := h
          simp [hm, hlen]
        · simp at h
      · simp at h
    · simp at h
  case sla i n sz x lo hi =>
    cases i <;> simp at hc
    simp only [if_true, Option.map_eq_some_iff, Prod.mk.injEq] at h ⊢
    obtain ⟨u, hu, rfl, rfl⟩ := h
    exact ⟨rfl, by simp [hu]⟩
  case lit i sz k z ps =>
    cases i <;> simp at hc
    split at h
    · rename_i l hl
      simp only [if_true, Option.some.injEq, Prod.mk.injEq] at h ⊢
      obtain ⟨rfl, rfl⟩ := h
      simp
    · simp at h
  case callp f args =>
    split at h
    · rename_i hs
      split at h
      · rename_i u hu
        simp only [Option.some.injEq, Prod.mk.injEq] at h
        obtain ⟨rfl, rfl⟩ := h
        simp [hs]
      · simp at h
    · simp at h
  case box x =>
    split at h
    · rename_i hb
      simp only [Option.some.injEq, Prod.mk.injEq] at h
      obtain ⟨rfl, rfl⟩ := h
      simp [hb]
    · simp at h
  case boxv x =>
    split at h
    · rename_i hb
      simp only [Option.some.injEq, Prod.mk.injEq] at h
      obtain ⟨rfl, rfl⟩ := h
      simp [hb]
    · simp at h
  case fun_ f a b =>
    split at h
    · rename_i hb
      simp only [Option.some.injEq, Prod.mk.injEq] at h
      obtain ⟨rfl, rfl⟩ := h
      simp only [if_pos hb, and_self]
    · simp at h
  all_goals first
    | (simp at hc; done)
    | (simp at h; done)
    | (simp only [Option.map_eq_some_iff, Prod.mk.injEq] at h ⊢
       obtain ⟨u, hu, rfl, rfl⟩ := h
       exact ⟨rfl, u, hu, rfl, rfl⟩)
    | (simp only [Option.some.injEq, Prod.mk.injEq] at h ⊢
       exact ⟨h.2.symm, h.1, rfl⟩)
    | (repeat' split at h
       all_goals first
         | (simp at h; done)
         | (simp only [Option.some.injEq, Prod.mk.injEq] at h
            obtain ⟨rfl, rfl⟩ := h
            simp [*]; done)
         | (simp only [Option.map_eq_some_iff, Prod.mk.injEq] at h
            obtain ⟨u, hu, rfl, rfl⟩ := h
            simp [*]; done))

theorem evalO_heap1 {o : MOp} {H H' : Heap} {v : V} (hc : o.cls ≤ 1) (h : evalO c o e H = some (v, H')) : H' = H := by
  rcases Nat.lt_or_ge o.cls 1 with h0 | h0
  · exact (evalO_heap0 (H1 := H) (by omega) h).1
  have h1 : o.cls = 1 := by omega
  cases o <;> simp only [MOp.cls] at h1 <;> try (simp at h1; done)
  all_goals
    simp only [evalO] at h
    repeat' split at h
    all_goals first
      | (simp at h; done)
      | (simp only [Option.some.injEq, Prod.mk.injEq] at h; exact h.2.symm)
      | (simp only [Option.map_eq_some_iff, Prod.mk.injEq] at h
         obtain ⟨u, hu, _, rfl⟩ := h; rfl)
      | (exfalso; revert h1; split <;> simp_all; done)

theorem get_put' (d : Option Nat) (v : V) (e : Env) (s : Nat) : get (put d v e) s = if d = some s then v else get e s := by
  cases d with
  | none => simp [put]
  | some t =>
    simp only [put, get]
    by_cases h : t = s
    · subst h; simp
    · have : Nat.beq t s = false := by rw [← Bool.not_eq_true, Nat.beq_eq]; exact h
      simp [h, this]

theorem get_cons' (t : Nat) (v : V) (e : Env) (s : Nat) : get ((t, v) :: e) s = if t = s then v else get e s := by
  have := get_put' (some t) v e s
  simpa [put] using this

/-- What a step does, from a state that agrees on what it reads. -/
structure Frm (o : MO) (st st' st1 st2 : St) : Prop where
  wr : ∀ s, s ∈ o.writes → get st2.e s = get st'.e s
  rest : ∀ s, s ∉ o.writes → get st2.e s = get st1.e s
  low : o.op.cls ≤ 1 → st2.h = st1.h ∧ st'.h = st.h
  high : o.op.cls = 2 → st2.h = st'.h

theorem doO_frame {o : MO} {st st' st1 : St} (h : doO c o st = some st') (ha : Agree o.reads st.e st1.e) (hh : o.op.cls = 0 ∨ st1.h = st.h) :
    ∃ st2, doO c o st1 = some st2 ∧ Frm o st st' st1 st2 := by
  have gen : o.writes = o.d.toList → (match evalO c o.op st.e st.h with | some (v, h) => some (⟨put o.d v st.e, h⟩ : St) | none => none) = some st' →
      ∃ st2, (match evalO c o.op st1.e st1.h with | some (v, h) => some (⟨put o.d v st1.e, h⟩ : St) | none => none) = some st2 ∧ Frm o st st' st1 st2 := by
    intro hw h
    cases hx : evalO c o.op st.e st.h with
    | none => simp [hx] at h
    | some r =>
      obtain ⟨v, H'⟩ := r
      simp only [hx, Option.some.injEq] at h
      subst h
      have ha' : Agree o.op.reads st.e st1.e := ha.right
      have mk : ∀ H2, evalO c o.op st1.e st1.h = some (v, H2) → (o.op.cls ≤ 1 → H2 = st1.h ∧ H' = st.h) → (o.op.cls = 2 → H2 = H') →
          ∃ st2, (match evalO c o.op st1.e st1.h with | some (v, h) => some (⟨put o.d v st1.e, h⟩ : St) | none => none) = some st2 ∧ Frm o st ⟨put o.d v st.e, H'⟩ st1 st2 := by
        intro H2 h1 h2 h3
        refine ⟨⟨put o.d v st1.e, H2⟩, by rw [h1], ⟨fun s hs => ?_, fun s hs => ?_, h2, h3⟩⟩
        · rw [hw] at hs
          have : o.d = some s := by cases hd : o.d <;> simp [hd] at hs ⊢; exact hs.symm
          simp [get_put', this]
        · rw [hw] at hs
          have : o.d ≠ some s := by intro e; simp [e] at hs
          simp [get_put', this]
      rcases hh with h0 | h0
      · obtain ⟨g1, g2⟩ := evalO_heap0 (H1 := st1.h) h0 hx
        exact mk st1.h (by rw [evalO_agree ha']; exact g2) (fun _ => ⟨rfl, g1⟩) (fun e => by omega)
      · refine mk H' (by rw [evalO_agree ha', h0]; exact hx) (fun hl => ?_) (fun _ => rfl)
        have := evalO_heap1 hl hx
        exact ⟨by rw [this, h0], this⟩
  obtain ⟨d, g, op⟩ := o
  cases op
  case stl s k x v =>
    simp only [MO.reads, MOp.reads] at ha
    have ha' := ha.right
    simp only [doO] at h ⊢
    rw [ea_agree ha'.tail.left, ev_agree ha'.tail.right, ha'.head]
    split at h
    · rename_i s' k' hx
      split at h
      · rename_i hs'
        split at h
        · rename_i l hl
          split at h
          · rename_i hcond
            simp only [Option.some.injEq] at h
            subst h
            simp only [if_pos hs', if_pos hcond]
            refine ⟨_, rfl, fun t ht => ?_, fun t ht => ?_, fun _ => ⟨rfl, rfl⟩, fun e => by simp [MOp.cls] at e⟩
            · simp only [MO.writes, List.mem_singleton] at ht
              simp [get_cons', ht]
            · simp only [MO.writes, List.mem_singleton] at ht
              simp [get_cons', Ne.symm ht]
          · simp at h
        · simp at h
      · simp at h
    · simp at h
  case cpyl s sz rs x y =>
    simp only [MO.reads, MOp.reads] at ha
    have ha' := ha.right
    have hh' : st1.h = st.h := hh.resolve_left (by simp [MOp.cls])
    simp only [doO] at h ⊢
    rw [ev_agree ha'.tail.left.right, ev_agree ha'.tail.right, ha'.head, hh', sliceCellsL_agree ha'.tail.left.left]
    split at h
    · rename_i sz' s' off len cap hx
      split at h
      · rename_i hs'
        split at h
        · rename_i l m b hl hm hb
          split at h
          · rename_i hcond
            simp only [Option.some.injEq] at h
            subst h
            simp only [if_pos hs', if_pos hcond]
            refine ⟨_, rfl, fun t ht => ?_, fun t ht => ?_, fun e => by simp [MOp.cls] at e, fun _ => rfl⟩
            · simp only [MO.writes, List.mem_cons, Option.mem_toList] at ht
              simp only [get_put', get_cons']
              rcases ht with rfl | ht
              · simp
              · simp [ht]
            · simp only [MO.writes, List.mem_cons, Option.mem_toList, not_or] at ht
              simp [get_put', get_cons', ht.2, Ne.symm ht.1]
          · simp at h
        · simp at h
      · simp at h
    · simp at h
  all_goals exact gen (by simp [MO.writes]) h


theorem stepO_frame {o : MO} {st st' st1 : St} (h : stepO c o st = some st') (ha : Agree o.reads st.e st1.e) (hh : o.op.cls = 0 ∨ st1.h = st.h) (hw : ∀ d, o.g.isSome = true → o.d = some d → o.writes = [d]) (hw2 : o.g.isSome = true → o.d = none → o.writes = []) :
    ∃ st2, stepO c o st1 = some st2 ∧ Frm o st st' st1 st2 := by
  unfold stepO at h ⊢
  cases hg : o.g with
  | none => simp only [hg] at h ⊢; exact doO_frame h ha hh
  | some p =>
    obtain ⟨s, w⟩ := p
    simp only [hg] at h ⊢
    have he : get st1.e s = get st.e s := by
      have := ha s
      simp only [MO.reads, hg] at this
      exact this (by simp)
    have hsome : o.g.isSome = true := by simp [hg]
    have skip : ∀ v, Frm o st ⟨put o.d v st.e, st.h⟩ st1 ⟨put o.d v st1.e, st1.h⟩ := by
      intro v
      refine ⟨fun t ht => ?_, fun t ht => ?_, fun _ => ⟨rfl, rfl⟩, fun e => (hh.resolve_left (by omega))⟩
      · cases hd : o.d with
        | none => rw [hw2 hsome hd] at ht; simp at ht
        | some d =>
          rw [hw d hsome hd] at ht
          simp at ht
          simp [get_put', hd, ht]
      · cases hd : o.d with
        | none => simp [get_put']
        | some d =>
          rw [hw d hsome hd] at ht
          simp at ht
          simp [get_put', Ne.symm ht]
    rw [he]
    split at h
    · rename_i x hx
      by_cases hxw : x = w
      · simp only [hxw, if_true] at h ⊢
        exact doO_frame h ha hh
      · simp only [hxw, if_false, Option.some.injEq] at h ⊢
        subst h
        exact ⟨_, rfl, skip _⟩
    · rename_i hx
      simp only [Option.some.injEq] at h
      subst h
      exact ⟨_, rfl, skip _⟩
    · simp at h

/-- Only an operation without an effect on local variables may be guarded. -/
def guardW (o : MO) : Bool := match o.g, o.op with
  | some _, .stl _ _ _ _ => false
  | some _, .cpyl _ _ _ _ _ => false
  | _, _ => true

theorem guardW_ok {o : MO} (h : guardW o = true) : (∀ d, o.g.isSome = true → o.d = some d → o.writes = [d]) ∧ (o.g.isSome = true → o.d = none → o.writes = []) := by
  obtain ⟨d, g, op⟩ := o
  constructor
  · intro d' hg hd
    cases g with
    | none => simp at hg
    | some p =>
      simp only at hd
      subst hd
      cases op <;> simp [guardW] at h <;> simp [MO.writes]
  · intro hg hd
    cases g with
    | none => simp at hg
    | some p =>
      simp only at hd
      subst hd
      cases op <;> simp [guardW] at h <;> simp [MO.writes]

/-- The same slots' values, the same small heap. -/
structure Eqv (a b : St) : Prop where
  e : ∀ s, get a.e s = get b.e s
  h : a.h = b.h

theorem Eqv.refl (a : St) : Eqv a a := ⟨fun _ => rfl, rfl⟩
theorem Eqv.symm {a b : St} (h : Eqv a b) : Eqv b a := ⟨fun s => (h.e s).symm, h.h.symm⟩
theorem Eqv.trans {a b d : St} (h : Eqv a b) (h' : Eqv b d) : Eqv a d := ⟨fun s => (h.e s).trans (h'.e s), h.h.trans h'.h⟩

theorem Frm.self {o : MO} {st st' : St} (hg : guardW o = true) (h : stepO c o st = some st') : Frm o st st' st st' := by
  obtain ⟨st2, h1, h2⟩ := stepO_frame h (fun _ _ => rfl) (.inr rfl) (guardW_ok hg).1 (guardW_ok hg).2
  rw [h] at h1
  simp only [Option.some.injEq] at h1
  subst h1
  exact h2

theorem cls_le (m : MOp) : m.cls ≤ 2 := by
  cases m <;> simp only [MOp.cls] <;> (try split) <;> omega

theorem stepO_eqv {o : MO} {st st' st1 : St} (hg : guardW o = true) (h : stepO c o st = some st') (he : Eqv st st1) : ∃ st2, stepO c o st1 = some st2 ∧ Eqv st' st2 := by
  obtain ⟨st2, h1, h2⟩ := stepO_frame h (fun s _ => (he.e s).symm) (.inr he.h.symm) (guardW_ok hg).1 (guardW_ok hg).2
  have hf := Frm.self hg h
  refine ⟨st2, h1, fun s => ?_, ?_⟩
  · by_cases hs : s ∈ o.writes
    · exact (h2.wr s hs).symm
    · rw [h2.rest s hs, hf.rest s hs, he.e s]
  · have := cls_le o.op
    rcases Nat.lt_or_ge o.op.cls 2 with hc | hc
    · rw [(h2.low (by omega)).1, (h2.low (by omega)).2, he.h]
    · exact (h2.high (by omega)).symm

theorem execOps_eqv : ∀ (l : List MO) {st st' st1 : St}, (∀ o ∈ l, guardW o = true) → execOps c l st = some st' → Eqv st st1 → ∃ st2, execOps c l st1 = some st2 ∧ Eqv st' st2
  | [], st, st', st1, _, h, he => by simp [execOps] at h; subst h; exact ⟨st1, rfl, he⟩
  | o :: l, st, st', st1, hg, h, he => by
    simp only [execOps] at h
    split at h
    · rename_i s1 h1
      obtain ⟨s2, h2, e2⟩ := stepO_eqv (hg o (by simp)) h1 he
      obtain ⟨s3, h3, e3⟩ := execOps_eqv l (fun o ho => hg o (by simp [ho])) h e2
      exact ⟨s3, by simp [execOps, h2, h3], e3⟩
    · simp at h

/-- Two operations do not touch each other. -/
structure Indep (x y : MO) : Prop where
  xr : ∀ s, s ∈ x.writes → s ∉ y.reads
  xw : ∀ s, s ∈ x.writes → s ∉ y.writes
  yr : ∀ s, s ∈ y.writes → s ∉ x.reads
  hx : x.op.cls = 2 → y.op.cls = 0
  hy : y.op.cls = 2 → x.op.cls = 0

theorem swap {x y : MO} (hi : Indep x y) (gx : guardW x = true) (gy : guardW y = true) {st s1 s2 : St} (h1 : stepO c x st = some s1) (h2 : stepO c y s1 = some s2) :
    ∃ t1 t2, stepO c y st = some t1 ∧ stepO c x t1 = some t2 ∧ Eqv s2 t2 := by
  have fx := Frm.self gx h1
  have fy := Frm.self gy h2
  have cx := cls_le x.op
  have cy := cls_le y.op
  obtain ⟨t1, h3, f3⟩ := stepO_frame (st1 := st) h2 (fun s hs => (fx.rest s (fun h => hi.xr s h hs)).symm) (by
    rcases Nat.lt_or_ge x.op.cls 2 with h | h
    · exact .inr (fx.low (by omega)).2.symm
    · exact .inl (hi.hx (by omega))) (guardW_ok gy).1 (guardW_ok gy).2
  obtain ⟨t2, h4, f4⟩ := stepO_frame (st1 := t1) h1 (fun s hs => f3.rest s (fun h => hi.yr s h hs)) (by
    rcases Nat.lt_or_ge y.op.cls 2 with h | h
    · exact .inr (f3.low (by omega)).1
    · exact .inl (hi.hy (by omega))) (guardW_ok gx).1 (guardW_ok gx).2
  refine ⟨t1, t2, h3, h4, fun s => ?_, ?_⟩
  · by_cases hx : s ∈ x.writes
    · rw [f4.wr s hx, fy.rest s (hi.xw s hx)]
    · rw [f4.rest s hx]
      by_cases hy : s ∈ y.writes
      · rw [f3.wr s hy]
      · rw [f3.rest s hy, fy.rest s hy, fx.rest s hx]
  · rcases Nat.lt_or_ge x.op.cls 2 with hx | hx
    · rcases Nat.lt_or_ge y.op.cls 2 with hy | hy
      · rw [(f4.low (by omega)).1, (f3.low (by omega)).1, (f3.low (by omega)).2, (fx.low (by omega)).2]
      · rw [(f4.low (by omega)).1, f3.high (by omega)]
    · have := hi.hx (by omega)
      rw [f4.high (by omega), (f3.low (by omega)).2]

/-- An operation is brought ahead of others that it does not touch. -/
theorem bubble {x : MO} : ∀ (A B : List MO) {st st' : St}, (∀ o ∈ A, Indep o x) → (∀ o ∈ A, guardW o = true) → guardW x = true → (∀ o ∈ B, guardW o = true) →
    execOps c (A ++ x :: B) st = some st' → ∃ st2, execOps c (x :: (A ++ B)) st = some st2 ∧ Eqv st' st2
  | [], B, st, st', _, _, _, _, h => ⟨st', h, Eqv.refl _⟩
  | o :: A, B, st, st', hi, hg, gx, gB, h => by
    simp only [List.cons_append, execOps] at h
    split at h
    · rename_i s1 h1
      obtain ⟨s2, h2, e2⟩ := bubble A B (fun o ho => hi o (by simp [ho])) (fun o ho => hg o (by simp [ho])) gx gB h
      simp only [execOps] at h2
      split at h2
      · rename_i s3 h3
        obtain ⟨t1, t2, g1, g2, e3⟩ := swap (hi o (by simp)) (hg o (by simp)) gx h1 h3
        obtain ⟨s4, h4, e4⟩ := execOps_eqv (A ++ B) (fun o ho => by rcases List.mem_append.1 ho with h | h; exact hg o (by simp [h]); exact gB o h) h2 e3
        exact ⟨s4, by simp [execOps, g1, g2, h4], e2.trans e4⟩
      · simp at h2
    · simp at h

def ins (x : Nat) : List Nat → List Nat
  | [] => [x]
  | y :: l => if x < y then x :: y :: l else y :: ins x l

def isort : List Nat → List Nat
  | [] => []
  | x :: l => ins x (isort l)

theorem ins_spec (x : Nat) : ∀ l : List Nat, l.Pairwise (· < ·) → x ∉ l → ∃ A B, l = A ++ B ∧ ins x l = A ++ x :: B ∧ (∀ y ∈ A, y < x) ∧ (∀ y ∈ B, x < y)
  | [], _, _ => ⟨[], [], rfl, rfl, by simp, by simp⟩
  | y :: l, hp, hx => by
    simp only [ins]
    by_cases h : x < y
    · refine ⟨[], y :: l, rfl, by simp [h], by simp, fun z hz => ?_⟩
      rcases List.mem_cons.1 hz with rfl | hz
      · exact h
      · exact Nat.lt_trans h ((List.pairwise_cons.1 hp).1 z hz)
    · obtain ⟨A, B, h1, h2, h3, h4⟩ := ins_spec x l (List.pairwise_cons.1 hp).2 (fun h => hx (by simp [h]))
      have hne : x ≠ y := fun e => hx (by simp [e])
      refine ⟨y :: A, B, by simp [h1], by simp [h, h2], fun z hz => ?_, h4⟩
      rcases List.mem_cons.1 hz with rfl | hz
      · omega
      · exact h3 z hz

theorem isort_spec : ∀ l : List Nat, l.Nodup → (isort l).Pairwise (· < ·) ∧ (isort l).Perm l
  | [], _ => ⟨List.Pairwise.nil, .refl _⟩
  | x :: l, h => by
    obtain ⟨h1, h2⟩ := List.nodup_cons.1 h
    obtain ⟨h3, h4⟩ := isort_spec l h2
    obtain ⟨A, B, e1, e2, h5, h6⟩ := ins_spec x (isort l) h3 (fun hm => h1 (h4.subset hm))
    simp only [isort]
    rw [e2]
    rw [e1] at h3 h4
    refine ⟨?_, List.perm_middle.trans (List.Perm.cons x h4)⟩
    rw [List.pairwise_append] at h3 ⊢
    refine ⟨h3.1, List.pairwise_cons.2 ⟨h6, h3.2.1⟩, fun a ha b hb => ?_⟩
    rcases List.mem_cons.1 hb with rfl | hb
    · exact h5 a ha
    · exact h3.2.2 a ha b hb

/-- Whatever the order: if only operations that do not touch each other change places, the same comes out. -/
theorem order_free (M : Nat → MO) : ∀ (L : List Nat), L.Nodup → L.Pairwise (fun x y => y < x → Indep (M y) (M x)) → (∀ i ∈ L, guardW (M i) = true) →
    ∀ {st st' : St}, execOps c ((isort L).map M) st = some st' → ∃ st2, execOps c (L.map M) st = some st2 ∧ Eqv st' st2
  | [], _, _, _, st, st', h => ⟨st', h, Eqv.refl _⟩
  | x :: L, hn, hp, hg, st, st', h => by
    obtain ⟨h1, h2⟩ := List.nodup_cons.1 hn
    obtain ⟨p1, p2⟩ := List.pairwise_cons.1 hp
    obtain ⟨h3, h4⟩ := isort_spec L h2
    obtain ⟨A, B, e1, e2, h5, h6⟩ := ins_spec x (isort L) h3 (fun hm => h1 (h4.subset hm))
    simp only [isort] at h
    rw [e2] at h
    simp only [List.map_append, List.map_cons] at h
    have inL : ∀ y, y ∈ A ++ B → y ∈ L := fun y hy => h4.subset (e1 ▸ hy)
    obtain ⟨s2, g2, f2⟩ := bubble (A.map M) (B.map M) (fun o ho => by
        obtain ⟨y, hy, rfl⟩ := List.mem_map.1 ho
        exact p1 y (inL y (by simp [hy])) (h5 y hy))
      (fun o ho => by obtain ⟨y, hy, rfl⟩ := List.mem_map.1 ho; exact hg y (by simp [inL y (by simp [hy])])) (hg x (by simp))
      (fun o ho => by obtain ⟨y, hy, rfl⟩ := List.mem_map.1 ho; exact hg y (by simp [inL y (by simp [hy])])) h
    simp only [execOps] at g2
    split at g2
    · rename_i s3 g3
      rw [← List.map_append, ← e1] at g2
      obtain ⟨s4, g4, f4⟩ := order_free M L h2 p2 (fun i hi => hg i (by simp [hi])) g2
      exact ⟨s4, by simp [execOps, g3, g4], f2.trans f4⟩
    · simp at g2

theorem isort_range {L : List Nat} {n : Nat} (h : L.Perm (List.range n)) : isort L = List.range n := by
  have hn : L.Nodup := h.nodup_iff.2 List.nodup_range
  obtain ⟨h1, h2⟩ := isort_spec L hn
  exact List.Perm.eq_of_pairwise (fun a b _ _ h h' => absurd (Nat.lt_trans h h') (Nat.lt_irrefl _)) h1 List.pairwise_lt_range (h2.trans h)

end
end Mir
