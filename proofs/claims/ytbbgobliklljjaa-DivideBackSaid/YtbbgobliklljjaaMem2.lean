/- How the invariant is kept when cells are written over. Conditions: none. -/
import Derived.Test.YtbbgobliklljjaaMem
set_option linter.unusedVariables false
set_option linter.unusedSimpArgs false
namespace Mir
open Go (Value Addr IntKind World Obj Act Program FuncId TypeId Operand Op Oper Code TypeDesc Sem Result)

section
variable {P : Program} {φ : Nat → Option FuncId} {ψ : Prim → FuncId → Bool} {B : Base} {n : Nat} {st : St} {a : Act} {w : World} {O : Nat → Prop} {loc : List (Nat × Nat)} {D : List Nat}

theorem storeCells_ok (g o : Nat) (t : TypeId) (fz : Nat × Nat) : ∀ (vs : List Value) (i : Nat) (cur : Array Value) (w : World), w.heap[g]? = some (.cells cur t fz) → o + i + vs.length ≤ cur.size →
    (∀ j, j < cur.size → ¬ (fz.1 ≤ j ∧ j < fz.2)) → (∀ v ∈ vs, v.oneCell' = true) →
    (Go.storeCells ⟨g, o, none⟩ vs i).run P w = .ok () (w.setRow g (cur.toList.take (o + i) ++ vs ++ cur.toList.drop (o + i + vs.length)).toArray)
  | [], i, cur, w, hg, _, _, _ => by
    simp only [Go.storeCells, List.append_nil, List.length_nil, Nat.add_zero, List.take_append_drop, Array.toArray_toList]
    rw [Go.setRow_self w g cur t fz hg]
    rfl
  | v :: rest, i, cur, w, hg, hl, hf, h1 => by
    have hi : o + i < cur.size := by simp at hl; omega
    have hcell : w.cell? ⟨g, o + i, none⟩ = some cur[o + i] := by simp [World.cell?, hg, hi]
    have hfro : w.frozen? ⟨g, o + i, none⟩ = false := by
      have := hf (o + i) hi
      simp only [World.frozen?, hg]
      rw [← Bool.not_eq_true]
      simpa using this
    have hst : (Go.store ((⟨g, o, none⟩ : Addr).add i) v).run P w = .ok () (w.setRow g (cur.setIfInBounds (o + i) v)) := by
      rw [addr_add, Go.run_store P w _ v _ (h1 v (by simp)), hcell]
      simp [hfro, Go.setCell_eq_setRow w g (o + i) cur t fz v hg]
    have ih := storeCells_ok g o t fz rest (i + 1) (cur.setIfInBounds (o + i) v) (w.setRow g (cur.setIfInBounds (o + i) v)) (Go.setRow_heap w g cur _ t _ hg) (by simp at hl ⊢; omega)
      (fun j hj => hf j (by simpa using hj)) (fun x hx => h1 x (by simp [hx]))
    simp only [Go.storeCells, Go.Sem.run_bind, hst, Result.andThen_ok, ih, Go.setRow_setRow]
    congr 3
    have e := Go.list_seg_step cur.toList (o + i) v rest (by simp at hl ⊢; omega)
    simpa [Array.toList_setIfInBounds, Nat.add_assoc] using e

/-- Cells written over, by their places. -/
theorem seg_get (cur : Array Value) (o : Nat) (vs : List Value) (h : o + vs.length ≤ cur.size) : ((cur.toList.take o ++ vs ++ cur.toList.drop (o + vs.length)).toArray.size = cur.size) ∧
    ∀ k : Nat, (cur.toList.take o ++ vs ++ cur.toList.drop (o + vs.length)).toArray[k]? = if o ≤ k ∧ k < o + vs.length then vs[k - o]? else cur[k]? := by
  refine ⟨by simp; omega, fun k => ?_⟩
  rw [List.getElem?_toArray]
  by_cases h1 : k < o
  · rw [if_neg (by omega), List.append_assoc, List.getElem?_append_left (by simp; omega), List.getElem?_take_of_lt h1, Array.getElem?_toList]
  · by_cases h2 : k < o + vs.length
    · rw [if_pos ⟨by omega, h2⟩, List.append_assoc, List.getElem?_append_right (by simp; omega), List.getElem?_append_left (by simp; omega)]
      congr 1; simp; omega
    · rw [if_neg (by omega), List.append_assoc, List.getElem?_append_right (by simp; omega), List.getElem?_append_right (by simp; omega), List.getElem?_drop, Array.getElem?_toList]
      congr 1; simp; omega

theorem setRow_size (w : World) (g : Nat) (cs : Array Value) : (w.setRow g cs).heap.size = w.heap.size := by simp [World.setRow]

theorem bs_setRow {w : World} {g : Nat} {cs cs' : Array Value} {T : TypeId} {fz : Nat × Nat} (hg : w.heap[g]? = some (.cells cs T fz)) (hsz : cs'.size = cs.size) (b : Nat) :
    bsize (fun b => w.heap[b]?) b ≤ bsize (fun b => (w.setRow g cs').heap[b]?) b := by
  by_cases e : b = g
  · subst e
    simp only [bsize, Go.setRow_heap w b cs cs' T fz hg, hg, hsz]
    exact Nat.le_refl _
  · simp only [bsize, Go.setRow_other w g b cs' e]
    exact Nat.le_refl _

theorem Cx.le_setRow (O : Nat → Prop) (loc : List (Nat × Nat)) {g : Nat} (hg : O g) {cs : Array Value} (cs' : Array Value) {T : TypeId} {fz : Nat × Nat} (hb : w.heap[g]? = some (.cells cs T fz)) (hsz : cs'.size = cs.size) :
    (CxOf w O loc).Le (CxOf (w.setRow g cs') O loc) :=
  Cx.le_of (fun b _ hn => ⟨hn, Go.setRow_other w g b cs' (by rintro rfl; exact hn hg)⟩) (fun _ _ h => h) (bs_setRow hb hsz)

theorem KeptW.setRow {w : World} (h : KeptW B w) {g : Nat} (hg : B.live g ∨ B.w.heap.size ≤ g) {cs0 : Array Value} (cs : Array Value) {T : TypeId} {fz : Nat × Nat} (hb0 : w.heap[g]? = some (.cells cs0 T fz)) (hsz : cs.size = cs0.size) : KeptW B (w.setRow g cs) where
  bs b := Nat.le_trans (h.bs b) (bs_setRow hb0 hsz b)
  os := h.os
  tape := h.tape
  output := h.output
  size := by rw [setRow_size]; exact h.size
  block b hb hl := by
    rw [Go.setRow_other w g b cs (by rintro rfl; exact hg.elim hl (fun e => by omega))]
    exact h.block b hb hl

theorem Sim.loc_block (hs : Sim φ B n st a w O loc D) {s : Nat} {l : List V} {b : Nat} (h1 : get st.e s = .loc l) (h2 : a.tmps[s]? = some (ptrV b 0)) :
    O b ∧ ∃ cs T fz, l.length = cs.size ∧ RowAt φ (CxOf w O loc) l b 0 cs T fz := by
  have he := hs.env s
  simp only [h1, ER] at he
  obtain ⟨b', cs, T, fz, hx, ho, hl, hr⟩ := he
  rw [h2] at hx; simp at hx; subst hx
  exact ⟨ho, cs, T, fz, hl, hr⟩

theorem row_set_same {h : Heap} {k : Nat} (l : List V) (hk : k < h.length) : row (setRow h k l) k = some l := by
  simp [row, setRow, hk]
theorem row_set_ne {h : Heap} {k j : Nat} (l : List V) (hk : k ≠ j) : row (setRow h k l) j = row h j := by
  simp [row, setRow, List.getElem?_set_ne hk]

/-- A row of the small heap is written over. -/
theorem Sim.store_row (hs : Sim φ B n st a w O loc D) {k : Nat} {l l' : List V} {b δ : Nat} {cs cs' : Array Value} {T : TypeId} {fz : Nat × Nat} (hk : row st.h k = some l)
    (hloc : loc[k]? = some (b, δ)) (hr : RowAt φ (CxOf w O loc) l b δ cs T fz) (hO : O b) (hsz : cs'.size = cs.size) (hl : l'.length = l.length)
    (hv : ∀ (j : Nat) v x, l'[j]? = some v → cs'[δ + j]? = some x → VR φ (CxOf w O loc) v x) :
    Sim φ B n ⟨st.e, setRow st.h k l'⟩ a (w.setRow b cs') O loc D := by
  have hbl : w.heap[b]? = some (.cells cs T fz) := hr.block
  have hc := Cx.le_setRow (w := w) O loc hO cs' hbl hsz
  have rows' : ∀ j r, row (setRow st.h k l') j = some r → (j = k ∧ r = l') ∨ (j ≠ k ∧ row st.h j = some r) := by
    intro j r h
    by_cases e : k = j
    · subst e
      rw [row_set_same _ (row_lt hk)] at h
      exact .inl ⟨rfl, by simpa using h.symm⟩
    · rw [row_set_ne _ e] at h
      exact .inr ⟨Ne.symm e, h⟩
  refine hs.world hc (fun s q b' h1 h2 => ?_) ⟨by simp only [setRow, List.length_set]; exact hs.heap.len, ?_, ?_⟩ ?_ ?_ (fun b' hb => by rw [setRow_size]; exact hs.own b' hb) (hs.frame.setRow (hs.freshH k l b δ hk hloc) cs' hbl hsz) hs.ext
  · obtain ⟨ho, _⟩ := hs.loc_block h1 h2
    exact ⟨Go.setRow_other w b b' cs' (by rintro rfl; exact hs.locH s q b' k l δ h1 h2 hk hloc), ho⟩
  · intro j r h
    rcases rows' j r h with ⟨rfl, rfl⟩ | ⟨hne, h⟩
    · refine ⟨b, δ, cs', T, fz, hloc, hO, Go.setRow_heap w b cs cs' T fz hbl, by rw [hl, hsz]; exact hr.room, fun i h1 h2 => ?_, by rw [hsz]; exact hr.free⟩
      exact (hv i _ _ (List.getElem?_eq_getElem h1) (Array.getElem?_eq_getElem h2)).mono hc
    · obtain ⟨b2, δ2, cs2, T2, fz2, g1, g2, g3⟩ := hs.heap.rows j r h
      refine ⟨b2, δ2, cs2, T2, fz2, g1, g2, g3.mono hc (Go.setRow_other w b b2 cs' ?_)⟩
      rintro rfl
      exact hne (hs.heap.apart j k r l b2 δ2 δ h hk g1 hloc)
  · intro j j' r r' b1 δ1 δ2 h h' g g'
    have get1 : ∀ j r, row (setRow st.h k l') j = some r → ∃ r0, row st.h j = some r0 := by
      intro j r h
      rcases rows' j r h with ⟨rfl, _⟩ | ⟨_, h⟩
      · exact ⟨_, hk⟩
      · exact ⟨_, h⟩
    obtain ⟨r0, h0⟩ := get1 j r h
    obtain ⟨r0', h0'⟩ := get1 j' r' h'
    exact hs.heap.apart j j' r0 r0' b1 δ1 δ2 h0 h0' g g'
  · intro s q b' j r δ' h1 h2 h e
    rcases rows' j r h with ⟨rfl, _⟩ | ⟨_, h⟩
    · exact hs.locH s q b' _ l δ' h1 h2 hk e
    · exact hs.locH s q b' j r δ' h1 h2 h e
  · intro j r b' δ' h e
    rcases rows' j r h with ⟨rfl, _⟩ | ⟨_, h⟩
    · exact hs.freshH _ l b' δ' hk e
    · exact hs.freshH j r b' δ' h e

/-- A local variable is written over. -/
theorem Sim.store_loc (hs : Sim φ B n st a w O loc D) {s : Nat} {l l' : List V} {b : Nat} {cs cs' : Array Value} {T : TypeId} {fz : Nat × Nat} (hg : get st.e s = .loc l) (hb : a.tmps[s]? = some (ptrV b 0))
    (hbl : w.heap[b]? = some (.cells cs T fz)) (hf : ∀ j, j < cs.size → ¬ (fz.1 ≤ j ∧ j < fz.2)) (hsz : cs'.size = cs.size) (hv : VRa φ (CxOf w O loc) l' cs') :
    Sim φ B n ⟨(s, .loc l') :: st.e, st.h⟩ a (w.setRow b cs') O loc D := by
  obtain ⟨hO, _⟩ := hs.loc_block hg hb
  have hc := Cx.le_setRow (w := w) O loc hO cs' hbl hsz
  have g : ∀ t, get ((s, V.loc l') :: st.e) t = if s = t then .loc l' else get st.e t := fun t => get_cons s _ _ t
  have cases_ : ∀ t q, get ((s, V.loc l') :: st.e) t = .loc q → ∃ q', get st.e t = .loc q' := by
    intro t q h
    rw [g] at h
    by_cases e : s = t
    · subst e; exact ⟨_, hg⟩
    · rw [if_neg e] at h; exact ⟨_, h⟩
  refine ⟨hs.size, hs.defers, ⟨hs.heap.len, ?_, hs.heap.apart⟩, fun t => ?_, fun t s' o h => ?_, fun t z s' o m k h => ?_, ?_, ?_, ?_, hs.freshH, fun b' hb' => by rw [setRow_size]; exact hs.own b' hb', hs.frame.setRow (.inr (hs.fresh s l b hg hb)) cs' hbl hsz, hs.ext⟩
  · intro j r h
    obtain ⟨b2, δ2, cs2, T2, fz2, g1, g2, g3⟩ := hs.heap.rows j r h
    refine ⟨b2, δ2, cs2, T2, fz2, g1, g2, g3.mono hc (Go.setRow_other w b b2 cs' ?_)⟩
    rintro rfl
    exact hs.locH s l b2 j r δ2 hg hb h g1
  · show ER φ _ _ t (get ((s, V.loc l') :: st.e) t)
    rw [g]
    by_cases e : s = t
    · subst e
      rw [if_pos rfl]
      refine ⟨b, cs', T, fz, hb, hO, hv.1, Go.setRow_heap w b cs cs' T fz hbl, by have := hv.1; omega, fun j h1 h2 => ?_, by rw [hsz]; exact hf⟩
      have := (hv.2 j h1 (by simpa using h2)).mono hc
      simpa using this
    · rw [if_neg e]
      refine (hs.env t).mono hc fun q b' h1 h2 => ⟨Go.setRow_other w b b' cs' ?_, (hs.loc_block h1 h2).1⟩
      rintro rfl
      exact e (hs.locs s t l q b' hg h1 hb h2)
  · change get ((s, V.loc l') :: st.e) t = _ at h
    rw [g] at h
    by_cases e : s = t
    · rw [if_pos e] at h; simp at h
    · rw [if_neg e] at h; exact hs.lps t s' o h
  · change get ((s, V.loc l') :: st.e) t = _ at h
    rw [g] at h
    by_cases e : s = t
    · rw [if_pos e] at h; simp at h
    · rw [if_neg e] at h; exact hs.lss t z s' o m k h
  · intro t t' q q' b' h h' hx hx'
    obtain ⟨_, h⟩ := cases_ t q h
    obtain ⟨_, h'⟩ := cases_ t' q' h'
    exact hs.locs t t' _ _ b' h h' hx hx'
  · intro t q b' k r δ h hx
    obtain ⟨_, h⟩ := cases_ t q h
    exact hs.locH t _ b' k r δ h hx
  · intro t q b' h hx
    obtain ⟨_, h⟩ := cases_ t q h
    exact hs.fresh t _ b' h hx

/-- A row of the small heap is given up. -/
theorem Sim.kill (hs : Sim φ B n st a w O loc D) (k : Nat) : Sim φ B n ⟨st.e, st.h.set k none⟩ a w O loc D := by
  have rows' : ∀ j r, row (st.h.set k none) j = some r → k ≠ j ∧ row st.h j = some r := by
    intro j r h
    by_cases e : k = j
    · subst e
      have hlt := row_lt h
      simp at hlt
      simp [row, hlt] at h
    · exact ⟨e, by simpa [row, List.getElem?_set_ne e] using h⟩
  refine hs.world (Cx.Le.refl _) (fun s q b' h1 h2 => ⟨rfl, (hs.loc_block h1 h2).1⟩) ⟨by simp only [List.length_set]; exact hs.heap.len, ?_, ?_⟩ ?_ ?_ hs.own hs.frame hs.ext
  · intro j r h
    exact hs.heap.rows j r (rows' j r h).2
  · intro j j' r r' b1 δ1 δ2 h h'
    exact hs.heap.apart j j' r r' b1 δ1 δ2 (rows' j r h).2 (rows' j' r' h').2
  · intro s q b' j r δ' h1 h2 h
    exact hs.locH s q b' j r δ' h1 h2 (rows' j r h).2
  · intro j r b' δ' h
    exact hs.freshH j r b' δ' (rows' j r h).2

/-- An own block that no row and no local variable lies in. -/
structure Free (B : Base) (st : St) (a : Act) (O : Nat → Prop) (loc : List (Nat × Nat)) (b : Nat) : Prop where
  own : O b
  rows : ∀ k r δ, row st.h k = some r → loc[k]? = some (b, δ) → False
  locs : ∀ s l, get st.e s = .loc l → a.tmps[s]? = some (ptrV b 0) → False
  old : B.live b ∨ B.w.heap.size ≤ b

theorem Sim.free_of_kill (hs : Sim φ B n st a w O loc D) {k : Nat} {l : List V} {b δ : Nat} (hk : row st.h k = some l) (hloc : loc[k]? = some (b, δ)) : Free B ⟨st.e, st.h.set k none⟩ a O loc b where
  own := by
    obtain ⟨b2, δ2, _, _, _, g1, g2, _⟩ := hs.heap.rows k l hk
    simp only [CxOf] at g1
    rw [hloc] at g1; simp at g1
    rw [g1.1]; exact g2
  rows j r δ' h e := by
    have hjk : k ≠ j := by
      rintro rfl
      have hlt := row_lt h
      simp at hlt
      simp [row, hlt] at h
    have h' : row st.h j = some r := by simpa [row, List.getElem?_set_ne hjk] using h
    exact hjk (hs.heap.apart k j l r b δ δ' hk h' hloc e)
  locs s q h1 h2 := hs.locH s q b k l δ h1 h2 hk hloc
  old := hs.freshH k l b δ hk hloc

/-- A free block is taken for a row (and written over). -/
theorem Sim.take_row (hs : Sim φ B n st a w O loc D) {b : Nat} (hb : Free B st a O loc b) {l : List V} {cs cs' : Array Value} {T : TypeId} {fz : Nat × Nat} {δ : Nat}
    (hbl : w.heap[b]? = some (.cells cs T fz)) (hsz : cs'.size = cs.size) (hroom : δ + l.length ≤ cs.size) (hf : ∀ j, j < cs.size → ¬ (fz.1 ≤ j ∧ j < fz.2))
    (hv : ∀ (j : Nat) v x, l[j]? = some v → cs'[δ + j]? = some x → VR φ (CxOf w O loc) v x) :
    Sim φ B n ⟨st.e, st.h ++ [some l]⟩ a (w.setRow b cs') O (loc ++ [(b, δ)]) D := by
  have hlen := hs.heap.len
  simp only [CxOf] at hlen
  have hc : (CxOf w O loc).Le (CxOf (w.setRow b cs') O (loc ++ [(b, δ)])) :=
    Cx.le_of (fun b' _ hn => ⟨hn, Go.setRow_other w b b' cs' (by rintro rfl; exact hn hb.own)⟩) (fun k x h => by rw [List.getElem?_append_left (List.getElem?_eq_some_iff.1 h).1]; exact h) (bs_setRow hbl hsz)
  have locNew : (loc ++ [(b, δ)])[st.h.length]? = some (b, δ) := by rw [hlen]; simp
  have locOld : ∀ k, k < st.h.length → (loc ++ [(b, δ)])[k]? = loc[k]? := fun k hk => List.getElem?_append_left (by omega)
  have parts : ∀ k r, row (st.h ++ [some l]) k = some r → (k < st.h.length ∧ row st.h k = some r) ∨ (k = st.h.length ∧ r = l) := by
    intro k r hr
    rcases Nat.lt_or_ge k st.h.length with hk | hk
    · exact .inl ⟨hk, by rwa [row_append_old _ _ hk] at hr⟩
    · have h1 := row_lt hr
      simp at h1
      have : k = st.h.length := by omega
      subst this
      rw [row_append_new] at hr
      exact .inr ⟨rfl, (Option.some.inj hr).symm⟩
  refine hs.world hc (fun s q b' h1 h2 => ?_) ⟨by simp [CxOf]; omega, ?_, ?_⟩ ?_ ?_ (fun b' hb' => by rw [setRow_size]; exact hs.own b' hb') (hs.frame.setRow hb.old cs' hbl hsz) ⟨hs.ext.bnd, hs.ext.le, hs.ext.new, fun k x h => by have h2 := hs.ext.pre k x h; rw [List.getElem?_append_left (List.getElem?_eq_some_iff.1 h2).1]; exact h2⟩
  · obtain ⟨ho, _⟩ := hs.loc_block h1 h2
    exact ⟨Go.setRow_other w b b' cs' (by rintro rfl; exact hb.locs s q h1 h2), ho⟩
  · intro k r hr
    rcases parts k r hr with ⟨hk, hr1⟩ | ⟨rfl, rfl⟩
    · obtain ⟨b2, δ2, cs2, T2, fz2, g1, g2, g3⟩ := hs.heap.rows k r hr1
      refine ⟨b2, δ2, cs2, T2, fz2, ?_, g2, g3.mono hc (Go.setRow_other w b b2 cs' ?_)⟩
      · show (loc ++ [(b, δ)])[k]? = _
        rw [locOld k hk]; exact g1
      · rintro rfl
        exact hb.rows k r δ2 hr1 g1
    · refine ⟨b, δ, cs', T, fz, locNew, hb.own, Go.setRow_heap w b cs cs' T fz hbl, by rw [hsz]; exact hroom, fun j h1 h2 => ?_, by rw [hsz]; exact hf⟩
      exact (hv j _ _ (List.getElem?_eq_getElem h1) (Array.getElem?_eq_getElem h2)).mono hc
  · intro k k' r r' b1 δ1 δ2 hr hr' e e'
    change (loc ++ [(b, δ)])[k]? = _ at e
    change (loc ++ [(b, δ)])[k']? = _ at e'
    rcases parts k r hr with ⟨hk, hr1⟩ | ⟨e1, _⟩ <;> rcases parts k' r' hr' with ⟨hk', hr1'⟩ | ⟨e1', _⟩
    · rw [locOld k hk] at e
      rw [locOld k' hk'] at e'
      exact hs.heap.apart k k' r r' b1 δ1 δ2 hr1 hr1' e e'
    · rw [locOld k hk] at e
      rw [e1', locNew] at e'
      simp at e'
      rw [← e'.1] at e
      exact (hb.rows k r δ1 hr1 e).elim
    · rw [locOld k' hk'] at e'
      rw [e1, locNew] at e
      simp at e
      rw [← e.1] at e'
      exact (hb.rows k' r' δ2 hr1' e').elim
    · rw [e1, e1']
  · intro s q b1 k r δ1 h1 h2 hr e
    rcases parts k r hr with ⟨hk, hr1⟩ | ⟨e1, _⟩
    · rw [locOld k hk] at e
      exact hs.locH s q b1 k r δ1 h1 h2 hr1 e
    · rw [e1, locNew] at e
      simp at e
      rw [← e.1] at h2
      exact hb.locs s q h1 h2
  · intro k r b1 δ1 hr e
    rcases parts k r hr with ⟨hk, hr1⟩ | ⟨e1, _⟩
    · rw [locOld k hk] at e
      exact hs.freshH k r b1 δ1 hr1 e
    · rw [e1, locNew] at e
      simp at e
      rw [← e.1]; exact hb.old

end
end Mir
