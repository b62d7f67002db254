/- How the invariant is kept when memory is made or written. Conditions: none. -/
import Derived.Test.YtbbgobliklljjaaOpsZ
set_option linter.unusedVariables false
set_option linter.unusedSimpArgs false
namespace Mir
open Go (Value Addr IntKind World Obj Act Program FuncId TypeId Operand Op Oper Code TypeDesc Sem Result)

section
variable {P : Program} {φ : Nat → Option FuncId} {ψ : Prim → FuncId → Bool} {B : Base} {n : Nat} {st : St} {a : Act} {w : World} {O : Nat → Prop} {loc : List (Nat × Nat)} {D : List Nat}

theorem ha_old (w : World) (o : Obj) (b : Nat) (h : b < w.heap.size) : (w.alloc o).heap[b]? = w.heap[b]? := by
  show (w.heap.push o)[b]? = w.heap[b]?
  rw [Array.getElem?_push, if_neg (Nat.ne_of_lt h)]

theorem ha_new (w : World) (o : Obj) : (w.alloc o).heap[w.heap.size]? = some o := by
  show (w.heap.push o)[w.heap.size]? = some o
  simp

theorem cellH_new (w : World) (cs : Array Value) (T : TypeId) (O : Nat → Prop) (loc : List (Nat × Nat)) {j : Nat} (h : j < cs.size) :
    cellH (CxOf (w.alloc (.cells cs T)) O loc).hp w.heap.size (0 + j) = some (cs[j]?.getD Go.undef) := by
  have := ha_new w (.cells cs T)
  simp only [cellH, CxOf, this, Nat.zero_add]
  simp [h]

theorem bs_alloc (w : World) (o : Obj) (b : Nat) : bsize (fun b => w.heap[b]?) b ≤ bsize (fun b => (w.alloc o).heap[b]?) b := by
  rcases Nat.lt_or_ge b w.heap.size with h | h
  · simp only [bsize, ha_old w o b h]; exact Nat.le_refl _
  · simp [bsize, Array.getElem?_eq_none h]

theorem row_append_new (h : Heap) (l : List V) : row (h ++ [some l]) h.length = some l := by simp [row]
theorem row_append_old (h : Heap) (x : Option (List V)) {k : Nat} (hk : k < h.length) : row (h ++ [x]) k = row h k := by simp [row, List.getElem?_append_left hk]
theorem row_lt {h : Heap} {k : Nat} {l : List V} (hr : row h k = some l) : k < h.length := by
  unfold row at hr
  split at hr
  · rename_i heq
    exact (List.getElem?_eq_some_iff.1 heq).1
  · simp at hr

theorem KeptW.alloc {w : World} (h : KeptW B w) (o : Obj) : KeptW B (w.alloc o) where
  os := h.os
  tape := h.tape
  output := h.output
  size := by have := h.size; simp; omega
  bs b := Nat.le_trans (h.bs b) (bs_alloc w o b)
  block b hb hl := by rw [ha_old w o b (by have := h.size; omega)]; exact h.block b hb hl

theorem KeptW.drew {w : World} (h : KeptW B w) : KeptW B w.drew := ⟨h.os, h.tape, h.output, h.size, h.bs, h.block⟩

theorem VRa.mono {c c' : Cx} (hc : c.Le c') {l : List V} {cs : Array Value} (h : VRa φ c l cs) : VRa φ c' l cs := ⟨h.1, fun j h1 h2 => (h.2 j h1 h2).mono hc⟩

theorem HR.mono {H : Heap} {c c' : Cx} (h : HR φ H c) (hc : c.Le c') (hloc : c'.loc = c.loc) (hb : ∀ b, c.own b → c'.own b ∧ c'.hp b = c.hp b) : HR φ H c' where
  len := by rw [hloc]; exact h.len
  rows k l hr := by
    obtain ⟨b, δ, cs, T, fz, h1, h2, h3⟩ := h.rows k l hr
    exact ⟨b, δ, cs, T, fz, by rw [hloc]; exact h1, (hb b h2).1, h3.mono hc (hb b h2).2⟩
  apart k k' l l' b δ δ' := by rw [hloc]; exact h.apart k k' l l' b δ δ'

/-- A draw leaves all as it was. -/
theorem Sim.drew (hs : Sim φ B n st a w O loc D) : Sim φ B n st a w.drew O loc D :=
  { hs with frame := hs.frame.drew, own := hs.own }

theorem Cx.le_alloc (hO : ∀ b, O b → b < w.heap.size) (o : Obj) {O' : Nat → Prop} {loc' : List (Nat × Nat)} (h1 : ∀ b, b < w.heap.size → O' b → O b) (h2 : ∀ (k : Nat) x, loc[k]? = some x → loc'[k]? = some x) :
    (CxOf w O loc).Le (CxOf (w.alloc o) O' loc') :=
  Cx.le_of (fun b hb hn => ⟨fun h => hn (h1 b hb h), ha_old w o b hb⟩) h2 (bs_alloc w o)

/-- A block that nobody writes. -/
theorem Sim.alloc_imm (hs : Sim φ B n st a w O loc D) (o : Obj) : Sim φ B n st a (w.alloc o) O loc D := by
  have hc := Cx.le_alloc (loc' := loc) hs.own o (fun b _ h => h) (fun _ _ h => h)
  have old : ∀ b, O b → (w.alloc o).heap[b]? = w.heap[b]? := fun b hb => ha_old w o b (hs.own b hb)
  have := hs.world (h' := st.h) hc (fun s l b h1 h2 => by
      have he := hs.env s
      simp only [h1, ER] at he
      obtain ⟨b', cs, T, fz, hx, ho, _⟩ := he
      rw [h2] at hx; simp at hx; subst hx
      exact ⟨old b ho, ho⟩)
    (hs.heap.mono hc rfl fun b hb => ⟨hb, old b hb⟩) hs.locH hs.freshH (fun b hb => by have := hs.own b hb; simp; omega) (hs.frame.alloc o) hs.ext
  exact this

theorem VR.vr_new {cs : Array Value} {l : List V} (hO : ∀ b, O b → b < w.heap.size) (h : VRa φ (CxOf w O loc) l cs) (T : TypeId) (off : Nat) :
    VR φ (CxOf (w.alloc (.cells cs T)) O loc) (.vr l off) (ptrV w.heap.size off) := by
  have hc := Cx.le_alloc (loc' := loc) hO (.cells cs T) (fun b _ h => h) (fun _ _ h => h)
  have h' := h.mono hc
  have := VR.vr (φ := φ) (c := CxOf (w.alloc (.cells cs T)) O loc) l off w.heap.size 0 (fun j => cs[j]?.getD Go.undef) (fun _ hb => absurd (hO _ hb) (by omega))
    (fun j hj => by
      have hlt : j < cs.size := by have := h.1; omega
      exact cellH_new w cs T O loc hlt)
    (fun j hj => by
      have hlt : j < cs.size := by have := h.1; omega
      simp only [hlt, Array.getElem?_eq_getElem, Option.getD_some]
      exact h'.2 j hj hlt)
  rwa [Nat.zero_add] at this

theorem VR.vs_new {cs : Array Value} {l : List V} (hO : ∀ b, O b → b < w.heap.size) (h : VRa φ (CxOf w O loc) l cs) (T : TypeId) (m : Nat) :
    VR φ (CxOf (w.alloc (.cells cs T)) O loc) (.vs m l) (.slice (some ⟨w.heap.size, 0, none⟩) m m) := by
  have hc := Cx.le_alloc (loc' := loc) hO (.cells cs T) (fun b _ h => h) (fun _ _ h => h)
  have h' := h.mono hc
  exact VR.vs (φ := φ) (c := CxOf (w.alloc (.cells cs T)) O loc) m l w.heap.size 0 m (fun j => cs[j]?.getD Go.undef) (Nat.le_refl _) (fun _ hb => absurd (hO _ hb) (by omega))
    (fun j hj => by
      have hlt : j < cs.size := by have := h.1; omega
      exact cellH_new w cs T O loc hlt)
    (fun j hj => by
      have hlt : j < cs.size := by have := h.1; omega
      simp only [hlt, Array.getElem?_eq_getElem, Option.getD_some]
      exact h'.2 j hj hlt)

def addO (O : Nat → Prop) (b : Nat) : Nat → Prop := fun x => O x ∨ x = b

theorem ExtB.add (h : ExtB B O loc) {b : Nat} (hb : B.w.heap.size ≤ b) {loc' : List (Nat × Nat)} (hl : ∀ (k : Nat) (x : Nat × Nat), loc[k]? = some x → loc'[k]? = some x) : ExtB B (addO O b) loc' :=
  ⟨h.bnd, fun x hx hn => .inl (h.le x hx hn), fun x hx => hx.elim (h.new x) (fun e => .inr (by rw [e]; exact hb)), fun k x hx => hl k x (h.pre k x hx)⟩

/-- A new row of the small heap; maybe with more cells behind, and a mark that nothing of it is touched by. -/
theorem Sim.alloc_row (hs : Sim φ B n st a w O loc D) {l : List V} {cs : Array Value} {T : TypeId} {fz : Nat × Nat} (hl : l.length ≤ cs.size)
    (hv : ∀ (j : Nat) v x, l[j]? = some v → cs[j]? = some x → VR φ (CxOf w O loc) v x) (hf : ∀ j, j < cs.size → ¬ (fz.1 ≤ j ∧ j < fz.2)) :
    Sim φ B n ⟨st.e, st.h ++ [some l]⟩ a (w.alloc (.cells cs T fz)) (addO O w.heap.size) (loc ++ [(w.heap.size, 0)]) D := by
  have hlen := hs.heap.len
  simp only [CxOf] at hlen
  have hc := Cx.le_alloc (loc' := loc ++ [(w.heap.size, 0)]) (O' := addO O w.heap.size) hs.own (.cells cs T fz) (fun b hb h => h.elim id (fun e => absurd e (by omega)))
    (fun k x h => by rw [List.getElem?_append_left (List.getElem?_eq_some_iff.1 h).1]; exact h)
  have old : ∀ b, O b → (w.alloc (.cells cs T fz)).heap[b]? = w.heap[b]? := fun b hb => ha_old w _ b (hs.own b hb)
  have locNew : (loc ++ [(w.heap.size, 0)])[st.h.length]? = some (w.heap.size, 0) := by rw [hlen]; simp
  have locOld : ∀ k, k < st.h.length → (loc ++ [(w.heap.size, 0)])[k]? = loc[k]? := fun k hk => List.getElem?_append_left (by omega)
  have parts : ∀ k r, row (st.h ++ [some l]) k = some r → (k < st.h.length ∧ row st.h k = some r) ∨ (k = st.h.length ∧ r = l) := by
    intro k r hr
    rcases Nat.lt_or_ge k st.h.length with hk | hk
    · exact .inl ⟨hk, by rwa [row_append_old _ _ hk] at hr⟩
    · have h1 := row_lt hr
      simp at h1
      have : k = st.h.length := by omega
      subst this
      rw [row_append_new] at hr
      exact .inr ⟨rfl, (Option.some.inj hr).symm⟩
  have ownb : ∀ k r, row st.h k = some r → ∃ b δ, loc[k]? = some (b, δ) ∧ O b := by
    intro k r hr
    obtain ⟨b, δ, _, _, _, h1, h2, _⟩ := hs.heap.rows k r hr
    exact ⟨b, δ, h1, h2⟩
  refine hs.world hc (fun s l b h1 h2 => ?_) ⟨by simp [CxOf]; omega, ?_, ?_⟩ ?_ ?_ ?_ (hs.frame.alloc _) (hs.ext.add hs.frame.size (fun k x h => by rw [List.getElem?_append_left (List.getElem?_eq_some_iff.1 h).1]; exact h))
  · have he := hs.env s
    simp only [h1, ER] at he
    obtain ⟨b', _, _, _, hx, ho, _⟩ := he
    rw [h2] at hx; simp at hx; subst hx
    exact ⟨old b ho, .inl ho⟩
  · intro k r hr
    rcases parts k r hr with ⟨hk, hr⟩ | ⟨rfl, rfl⟩
    · obtain ⟨b, δ, cs', T', fz', h1, h2, h3⟩ := hs.heap.rows k r hr
      exact ⟨b, δ, cs', T', fz', by rw [show (CxOf (w.alloc (.cells cs T fz)) (addO O w.heap.size) (loc ++ [(w.heap.size, 0)])).loc = loc ++ [(w.heap.size, 0)] from rfl, locOld k hk]; exact h1, .inl h2, h3.mono hc (old b h2)⟩
    · refine ⟨w.heap.size, 0, cs, T, fz, locNew, .inr rfl, ha_new w _, by omega, fun j h1 h2 => ?_, hf⟩
      simp only [Nat.zero_add] at h2 ⊢
      exact (hv j _ _ (List.getElem?_eq_getElem h1) (Array.getElem?_eq_getElem h2)).mono hc
  · intro k k' r r' b δ δ' hr hr' e e'
    change (loc ++ [(w.heap.size, 0)])[k]? = _ at e
    change (loc ++ [(w.heap.size, 0)])[k']? = _ at e'
    rcases parts k r hr with ⟨hk, hr1⟩ | ⟨rfl, e1⟩ <;> rcases parts k' r' hr' with ⟨hk', hr1'⟩ | ⟨rfl, e1'⟩
    · rw [locOld k hk] at e
      rw [locOld k' hk'] at e'
      exact hs.heap.apart k k' r r' b δ δ' hr1 hr1' e e'
    · rw [locOld k hk] at e
      rw [locNew] at e'
      obtain ⟨b2, δ2, h1, h2⟩ := ownb k r hr1
      rw [e] at h1; simp at h1; simp at e'
      have := hs.own _ h2
      omega
    · rw [locOld k' hk'] at e'
      rw [locNew] at e
      obtain ⟨b2, δ2, h1, h2⟩ := ownb k' r' hr1'
      rw [e'] at h1; simp at h1; simp at e
      have := hs.own _ h2
      omega
    · rfl
  · intro s l' b k r δ h1 h2 hr e
    rcases parts k r hr with ⟨hk, hr⟩ | ⟨rfl, rfl⟩
    · rw [locOld k hk] at e
      exact hs.locH s l' b k r δ h1 h2 hr e
    · rw [locNew] at e
      simp at e
      have he := hs.env s
      simp only [h1, ER] at he
      obtain ⟨b', _, _, _, hx, ho, _⟩ := he
      rw [h2] at hx; simp at hx
      have := hs.own _ ho
      omega
  · intro k r b δ hr e
    rcases parts k r hr with ⟨hk, hr⟩ | ⟨rfl, rfl⟩
    · rw [locOld k hk] at e
      exact hs.freshH k r b δ hr e
    · rw [locNew] at e
      simp at e
      exact .inr (by rw [← e.1]; exact hs.frame.size)
  · intro b hb
    rcases hb with hb | rfl
    · have := hs.own b hb; simp; omega
    · simp

/-- A local variable is made. -/
theorem Sim.alloc_loc (hs : Sim φ B n st a w O loc D) {l : List V} {cs : Array Value} {T : TypeId} (hv : VRa φ (CxOf w O loc) l cs) {d : Nat} (hd : d < n) (hD : d ∉ D) :
    Sim φ B n ⟨Mir.put (some d) (.loc l) st.e, st.h⟩ (a.put (some d) (ptrV w.heap.size 0)) (w.alloc (.cells cs T)) (addO O w.heap.size) loc D := by
  have hc := Cx.le_alloc (loc' := loc) (O' := addO O w.heap.size) hs.own (.cells cs T) (fun b hb h => h.elim id (fun e => absurd e (by omega))) (fun k x h => h)
  have old : ∀ b, O b → (w.alloc (.cells cs T)).heap[b]? = w.heap[b]? := fun b hb => ha_old w _ b (hs.own b hb)
  have hda : d < a.tmps.size := by rw [hs.size]; exact hd
  have ownl : ∀ s l b, get st.e s = .loc l → a.tmps[s]? = some (ptrV b 0) → O b := by
    intro s l b h1 h2
    have he := hs.env s
    simp only [h1, ER] at he
    obtain ⟨b', _, _, _, hx, ho, _⟩ := he
    rw [h2] at hx; simp at hx; subst hx
    exact ho
  have cases_ : ∀ s l', get (Mir.put (some d) (.loc l) st.e) s = .loc l' → (s = d ∧ l' = l) ∨ (d ≠ s ∧ get st.e s = .loc l') := by
    intro s l' h
    rw [get_put] at h
    by_cases e : d = s
    · rw [if_pos e] at h; exact .inl ⟨e.symm, by simpa using h.symm⟩
    · rw [if_neg e] at h; exact .inr ⟨e, h⟩
  refine ⟨by simp [tmps_put, hs.size], hs.defers, ?_, fun s => ?_, fun s s' o h => ?_, fun s z s' o m k h => ?_, ?_, ?_, ?_, hs.freshH, ?_, hs.frame.alloc _, hs.ext.add hs.frame.size (fun _ _ h => h)⟩
  · exact hs.heap.mono hc rfl fun b hb => ⟨.inl hb, old b hb⟩
  · show ER φ _ _ s (get (Mir.put (some d) (.loc l) st.e) s)
    rw [get_put]
    by_cases e : d = s
    · subst e
      rw [if_pos rfl]
      refine ⟨w.heap.size, cs, T, (0, 0), tmps_put_same _ hda, .inr rfl, hv.1, ha_new w _, by have := hv.1; omega, fun j h1 h2 => ?_, fun j _ h => by simp at h⟩
      have := (hv.2 j h1 (by simpa using h2)).mono hc
      simpa using this
    · rw [if_neg e]
      have he : ER φ (CxOf (w.alloc (.cells cs T)) (addO O w.heap.size) loc) a.tmps s (get st.e s) :=
        (hs.env s).mono hc fun l' b h1 h2 => ⟨old b (ownl s l' b h1 h2), .inl (ownl s l' b h1 h2)⟩
      cases hg : get st.e s <;> simp only [hg, ER] at he ⊢ <;> try (
        obtain ⟨y, hy, hvy⟩ := he
        refine ⟨y, by rw [tmps_put_ne _ e]; exact hy, VL.put hvy (fun s' o h => ?_) (fun z s' o m k h => ?_)⟩ <;> first
          | (exact fun e => hD (e ▸ hs.lps s s' o (hg.trans h)))
          | (exact fun e => hD (e ▸ hs.lss s z s' o m k (hg.trans h))))
      obtain ⟨b, cs', T', fz, hx, rest⟩ := he
      exact ⟨b, cs', T', fz, by rw [tmps_put_ne _ e]; exact hx, rest⟩
  · change get (Mir.put (some d) (.loc l) st.e) s = _ at h
    rw [get_put] at h
    by_cases e : d = s
    · rw [if_pos e] at h; simp at h
    · rw [if_neg e] at h; exact hs.lps s s' o h
  · change get (Mir.put (some d) (.loc l) st.e) s = _ at h
    rw [get_put] at h
    by_cases e : d = s
    · rw [if_pos e] at h; simp at h
    · rw [if_neg e] at h; exact hs.lss s z s' o m k h
  · intro s s' l1 l2 b h h' hx hx'
    rcases cases_ s l1 h with ⟨e, _⟩ | ⟨e, h1⟩ <;> rcases cases_ s' l2 h' with ⟨e', _⟩ | ⟨e', h1'⟩
    · rw [e, e']
    · rw [e, tmps_put_same _ hda] at hx
      rw [tmps_put_ne _ e'] at hx'
      simp at hx; subst hx
      have := hs.own _ (ownl s' l2 _ h1' hx'); omega
    · rw [e', tmps_put_same _ hda] at hx'
      rw [tmps_put_ne _ e] at hx
      simp at hx'; subst hx'
      have := hs.own _ (ownl s l1 _ h1 hx); omega
    · rw [tmps_put_ne _ e] at hx
      rw [tmps_put_ne _ e'] at hx'
      exact hs.locs s s' l1 l2 b h1 h1' hx hx'
  · intro s l1 b k r δ h hx hr e1
    rcases cases_ s l1 h with ⟨rfl, rfl⟩ | ⟨e, h⟩
    · rw [tmps_put_same _ hda] at hx
      simp at hx; subst hx
      obtain ⟨b2, δ2, _, _, _, g1, g2, _⟩ := hs.heap.rows k r hr
      simp only [CxOf] at g1 g2
      rw [e1] at g1; simp at g1
      have := hs.own _ g2
      omega
    · rw [tmps_put_ne _ e] at hx
      exact hs.locH s l1 b k r δ h hx hr e1
  · intro s l1 b h hx
    rcases cases_ s l1 h with ⟨rfl, rfl⟩ | ⟨e, h⟩
    · rw [tmps_put_same _ hda] at hx
      simp at hx; subst hx
      exact hs.frame.size
    · rw [tmps_put_ne _ e] at hx
      exact hs.fresh s l1 b h hx
  · intro b hb
    rcases hb with hb | rfl
    · have := hs.own b hb; simp; omega
    · simp

end
end Mir
