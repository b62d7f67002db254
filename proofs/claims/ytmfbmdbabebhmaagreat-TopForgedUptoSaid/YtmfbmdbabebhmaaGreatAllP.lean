/- One module of several texts (Mem Mem2 OpsM OpsN OpsS OpsT OpsU). Conditions: none. -/
import Derived.Test.YtmfbmdbabebhmaaGreatAllO
set_option linter.unusedVariables false
set_option linter.unusedSimpArgs false
namespace Mir
open Go (Value Addr IntKind World Obj Act Program FuncId TypeId Operand Op Oper Code TypeDesc Sem Result)

section
variable {P : Program} {φ : Nat → Option FuncId} {ψ : Prim → FuncId → Bool} {B : Base} {n : Nat} {st : St} {a : Act} {w : World} {O : Nat → Prop} {loc : List (Nat × Nat)} {D : List Nat}

theorem ha_old (w : World) (o : Obj) (b : Nat) (h : b < w.heap.size) : (w.alloc o).heap[b]? = w.heap[b]? := by
  show (w.heap.push o)[b]? = w.heap[b]?
  rw [Array.getElem?_push, if_neg (Nat.ne_of_lt h)]

theorem ha_new (w : World) (o : Obj) : (w.alloc o).heap[w.heap.size]? = some o := by
  show (w.heap.push o)[w.heap.size]? = some o
  simp

theorem cellH_new (w : World) (cs : Array Value) (T : TypeId) (O : Nat → Prop) (loc : List (Nat × Nat)) {j : Nat} (h : j < cs.size) :
    cellH (CxOf (w.alloc (.cells cs T)) O loc).hp w.heap.size (0 + j) = some (cs[j]?.getD Go.undef) := by
  have := ha_new w (.cells cs T)
  simp only [cellH, CxOf, this, Nat.zero_add]
  simp [h]

theorem bs_alloc (w : World) (o : Obj) (b : Nat) : bsize (fun b => w.heap[b]?) b ≤ bsize (fun b => (w.alloc o).heap[b]?) b := by
  rcases Nat.lt_or_ge b w.heap.size with h | h
  · simp only [bsize, ha_old w o b h]; exact Nat.le_refl _
  · simp [bsize, Array.getElem?_eq_none h]

theorem row_append_new (h : Heap) (l : List V) : row (h ++ [some l]) h.length = some l := by simp [row]
theorem row_append_old (h : Heap) (x : Option (List V)) {k : Nat} (hk : k < h.length) : row (h ++ [x]) k = row h k := by simp [row, List.getElem?_append_left hk]
theorem row_lt {h : Heap} {k : Nat} {l : List V} (hr : row h k = some l) : k < h.length := by
  unfold row at hr
  split at hr
  · rename_i heq
    exact (List.getElem?_eq_some_iff.1 heq).1
  · simp at hr

theorem KeptW.alloc {w : World} (h : KeptW B w) (o : Obj) : KeptW B (w.alloc o) where
  os := h.os
  tape := h.tape
  output := h.output
  size := by have := h.size; simp; omega
  bs b := Nat.le_trans (h.bs b) (bs_alloc w o b)
  block b hb hl := by rw [ha_old w o b (by have := h.size; omega)]; exact h.block b hb hl

theorem KeptW.drew {w : World} (h : KeptW B w) : KeptW B w.drew := ⟨h.os, h.tape, h.output, h.size, h.bs, h.block⟩

theorem VRa.mono {c c' : Cx} (hc : c.Le c') {l : List V} {cs : Array Value} (h : VRa φ c l cs) : VRa φ c' l cs := ⟨h.1, fun j h1 h2 => (h.2 j h1 h2).mono hc⟩

theorem HR.mono {H : Heap} {c c' : Cx} (h : HR φ H c) (hc : c.Le c') (hloc : c'.loc = c.loc) (hb : ∀ b, c.own b → c'.own b ∧ c'.hp b = c.hp b) : HR φ H c' where
  len := by rw [hloc]; exact h.len
  rows k l hr := by
    obtain ⟨b, δ, cs, T, fz, h1, h2, h3⟩ := h.rows k l hr
    exact ⟨b, δ, cs, T, fz, by rw [hloc]; exact h1, (hb b h2).1, h3.mono hc (hb b h2).2⟩
  apart k k' l l' b δ δ' := by rw [hloc]; exact h.apart k k' l l' b δ δ'

/-- A draw leaves all as it was. -/
theorem Sim.drew (hs : Sim φ B n st a w O loc D) : Sim φ B n st a w.drew O loc D :=
  { hs with frame := hs.frame.drew, own := hs.own }

theorem Cx.le_alloc (hO : ∀ b, O b → b < w.heap.size) (o : Obj) {O' : Nat → Prop} {loc' : List (Nat × Nat)} (h1 : ∀ b, b < w.heap.size → O' b → O b) (h2 : ∀ (k : Nat) x, loc[k]? = some x → loc'[k]? = some x) :
    (CxOf w O loc).Le (CxOf (w.alloc o) O' loc') :=
  Cx.le_of (fun b hb hn => ⟨fun h => hn (h1 b hb h), ha_old w o b hb⟩) h2 (bs_alloc w o)

/-- A block that nobody writes. -/
theorem Sim.alloc_imm (hs : Sim φ B n st a w O loc D) (o : Obj) : Sim φ B n st a (w.alloc o) O loc D := by
  have hc := Cx.le_alloc (loc' := loc) hs.own o (fun b _ h => h) (fun _ _ h => h)
  have old : ∀ b, O b → (w.alloc o).heap[b]? = w.heap[b]? := fun b hb => ha_old w o b (hs.own b hb)
  have := hs.world (h' := st.h) hc (fun s l b h1 h2 => by
      have he := hs.env s
      simp only [h1, ER] at he
      obtain ⟨b', cs, T, fz, hx, ho, _⟩ := he
      rw [h2] at hx; simp at hx; subst hx
      exact ⟨old b ho, ho⟩)
    (hs.heap.mono hc rfl fun b hb => ⟨hb, old b hb⟩) hs.locH hs.freshH (fun b hb => by have := hs.own b hb; simp; omega) (hs.frame.alloc o) hs.ext
  exact this

theorem VR.vr_new {cs : Array Value} {l : List V} (hO : ∀ b, O b → b < w.heap.size) (h : VRa φ (CxOf w O loc) l cs) (T : TypeId) (off : Nat) :
    VR φ (CxOf (w.alloc (.cells cs T)) O loc) (.vr l off) (ptrV w.heap.size off) := by
  have hc := Cx.le_alloc (loc' := loc) hO (.cells cs T) (fun b _ h => h) (fun _ _ h => h)
  have h' := h.mono hc
  have := VR.vr (φ := φ) (c := CxOf (w.alloc (.cells cs T)) O loc) l off w.heap.size 0 (fun j => cs[j]?.getD Go.undef) (fun _ hb => absurd (hO _ hb) (by omega))
    (fun j hj => by
      have hlt : j < cs.size := by have := h.1; omega
      exact cellH_new w cs T O loc hlt)
    (fun j hj => by
      have hlt : j < cs.size := by have := h.1; omega
      simp only [hlt, Array.getElem?_eq_getElem, Option.getD_some]
      exact h'.2 j hj hlt)
  rwa [Nat.zero_add] at this

theorem VR.vs_new {cs : Array Value} {l : List V} (hO : ∀ b, O b → b < w.heap.size) (h : VRa φ (CxOf w O loc) l cs) (T : TypeId) (m : Nat) :
    VR φ (CxOf (w.alloc (.cells cs T)) O loc) (.vs m l) (.slice (some ⟨w.heap.size, 0, none⟩) m m) := by
  have hc := Cx.le_alloc (loc' := loc) hO (.cells cs T) (fun b _ h => h) (fun _ _ h => h)
  have h' := h.mono hc
  exact VR.vs (φ := φ) (c := CxOf (w.alloc (.cells cs T)) O loc) m l w.heap.size 0 m (fun j => cs[j]?.getD Go.undef) (Nat.le_refl _) (fun _ hb => absurd (hO _ hb) (by omega))
    (fun j hj => by
      have hlt : j < cs.size := by have := h.1; omega
      exact cellH_new w cs T O loc hlt)
    (fun j hj => by
      have hlt : j < cs.size := by have := h.1; omega
      simp only [hlt, Array.getElem?_eq_getElem, Option.getD_some]
      exact h'.2 j hj hlt)

def addO (O : Nat → Prop) (b : Nat) : Nat → Prop := fun x => O x ∨ x = b

theorem ExtB.add (h : ExtB B O loc) {b : Nat} (hb : B.w.heap.size ≤ b) {loc' : List (Nat × Nat)} (hl : ∀ (k : Nat) (x : Nat × Nat), loc[k]? = some x → loc'[k]? = some x) : ExtB B (addO O b) loc' :=
  ⟨h.bnd, fun x hx hn => .inl (h.le x hx hn), fun x hx => hx.elim (h.new x) (fun e => .inr (by rw [e]; exact hb)), fun k x hx => hl k x (h.pre k x hx)⟩

/-- A new row of the small heap; maybe with more cells behind, and a mark that nothing of it is touched by. -/
theorem Sim.alloc_row (hs : Sim φ B n st a w O loc D) {l : List V} {cs : Array Value} {T : TypeId} {fz : Nat × Nat} (hl : l.length ≤ cs.size)
    (hv : ∀ (j : Nat) v x, l[j]? = some v → cs[j]? = some x → VR φ (CxOf w O loc) v x) (hf : ∀ j, j < cs.size → ¬ (fz.1 ≤ j ∧ j < fz.2)) :
    Sim φ B n ⟨st.e, st.h ++ [some l]⟩ a (w.alloc (.cells cs T fz)) (addO O w.heap.size) (loc ++ [(w.heap.size, 0)]) D := by
  have hlen := hs.heap.len
  simp only [CxOf] at hlen
  have hc := Cx.le_alloc (loc' := loc ++ [(w.heap.size, 0)]) (O' := addO O w.heap.size) hs.own (.cells cs T fz) (fun b hb h => h.elim id (fun e => absurd e (by omega)))
    (fun k x h => by rw [List.getElem?_append_left (List.getElem?_eq_some_iff.1 h).1]; exact h)
  have old : ∀ b, O b → (w.alloc (.cells cs T fz)).heap[b]? = w.heap[b]? := fun b hb => ha_old w _ b (hs.own b hb)
  have locNew : (loc ++ [(w.heap.size, 0)])[st.h.length]? = some (w.heap.size, 0) := by rw [hlen]; simp
  have locOld : ∀ k, k < st.h.length → (loc ++ [(w.heap.size, 0)])[k]? = loc[k]? := fun k hk => List.getElem?_append_left (by omega)
  have parts : ∀ k r, row (st.h ++ [some l]) k = some r → (k < st.h.length ∧ row st.h k = some r) ∨ (k = st.h.length ∧ r = l) := by
    intro k r hr
    rcases Nat.lt_or_ge k st.h.length with hk | hk
    · exact .inl ⟨hk, by rwa [row_append_old _ _ hk] at hr⟩
    · have h1 := row_lt hr
      simp at h1
      have : k = st.h.length := by omega
      subst this
      rw [row_append_new] at hr
      exact .inr ⟨rfl, (Option.some.inj hr).symm⟩
  have ownb : ∀ k r, row st.h k = some r → ∃ b δ, loc[k]? = some (b, δ) ∧ O b := by
    intro k r hr
    obtain ⟨b, δ, _, _, _, h1, h2, _⟩ := hs.heap.rows k r hr
    exact ⟨b, δ, h1, h2⟩
  refine hs.world hc (fun s l b h1 h2 => ?_) ⟨by simp [CxOf]; omega, ?_, ?_⟩ ?_ ?_ ?_ (hs.frame.alloc _) (hs.ext.add hs.frame.size (fun k x h => by rw [List.getElem?_append_left (List.getElem?_eq_some_iff.1 h).1]; exact h))
  · have he := hs.env s
    simp only [h1, ER] at he
    obtain ⟨b', _, _, _, hx, ho, _⟩ := he
    rw [h2] at hx; simp at hx; subst hx
    exact ⟨old b ho, .inl ho⟩
  · intro k r hr
    rcases parts k r hr with ⟨hk, hr⟩ | ⟨rfl, rfl⟩
    · obtain ⟨b, δ, cs', T', fz', h1, h2, h3⟩ := hs.heap.rows k r hr
      exact ⟨b, δ, cs', T', fz', by rw [show (CxOf (w.alloc (.cells cs T fz)) (addO O w.heap.size) (loc ++ [(w.heap.size, 0)])).loc = loc ++ [(w.heap.size, 0)] from rfl, locOld k hk]; exact h1, .inl h2, h3.mono hc (old b h2)⟩
    · refine ⟨w.heap.size, 0, cs, T, fz, locNew, .inr rfl, ha_new w _, by omega, fun j h1 h2 => ?_, hf⟩
      simp only [Nat.zero_add] at h2 ⊢
      exact (hv j _ _ (List.getElem?_eq_getElem h1) (Array.getElem?_eq_getElem h2)).mono hc
  · intro k k' r r' b δ δ' hr hr' e e'
    change (loc ++ [(w.heap.size, 0)])[k]? = _ at e
    change (loc ++ [(w.heap.size, 0)])[k']? = _ at e'
    rcases parts k r hr with ⟨hk, hr1⟩ | ⟨rfl, e1⟩ <;> rcases parts k' r' hr' with ⟨hk', hr1'⟩ | ⟨rfl, e1'⟩
    · rw [locOld k hk] at e
      rw [locOld k' hk'] at e'
      exact hs.heap.apart k k' r r' b δ δ' hr1 hr1' e e'
    · rw [locOld k hk] at e
      rw [locNew] at e'
      obtain ⟨b2, δ2, h1, h2⟩ := ownb k r hr1
      rw [e] at h1; simp at h1; simp at e'
      have := hs.own _ h2
      omega
    · rw [locOld k' hk'] at e'
      rw [locNew] at e
      obtain ⟨b2, δ2, h1, h2⟩ := ownb k' r' hr1'
      rw [e'] at h1; simp at h1; simp at e
      have := hs.own _ h2
      omega
    · rfl
  · intro s l' b k r δ h1 h2 hr e
    rcases parts k r hr with ⟨hk, hr⟩ | ⟨rfl, rfl⟩
    · rw [locOld k hk] at e
      exact hs.locH s l' b k r δ h1 h2 hr e
    · rw [locNew] at e
      simp at e
      have he := hs.env s
      simp only [h1, ER] at he
      obtain ⟨b', _, _, _, hx, ho, _⟩ := he
      rw [h2] at hx; simp at hx
      have := hs.own _ ho
      omega
  · intro k r b δ hr e
    rcases parts k r hr with ⟨hk, hr⟩ | ⟨rfl, rfl⟩
    · rw [locOld k hk] at e
      exact hs.freshH k r b δ hr e
    · rw [locNew] at e
      simp at e
      exact .inr (by rw [← e.1]; exact hs.frame.size)
  · intro b hb
    rcases hb with hb | rfl
    · have := hs.own b hb; simp; omega
    · simp

/-- A local variable is made. -/
theorem Sim.alloc_loc (hs : Sim φ B n st a w O loc D) {l : List V} {cs : Array Value} {T : TypeId} (hv : VRa φ (CxOf w O loc) l cs) {d : Nat} (hd : d < n) (hD : d ∉ D) :
    Sim φ B n ⟨Mir.put (some d) (.loc l) st.e, st.h⟩ (a.put (some d) (ptrV w.heap.size 0)) (w.alloc (.cells cs T)) (addO O w.heap.size) loc D := by
  have hc := Cx.le_alloc (loc' := loc) (O' := addO O w.heap.size) hs.own (.cells cs T) (fun b hb h => h.elim id (fun e => absurd e (by omega))) (fun k x h => h)
  have old : ∀ b, O b → (w.alloc (.cells cs T)).heap[b]? = w.heap[b]? := fun b hb => ha_old w _ b (hs.own b hb)
  have hda : d < a.tmps.size := by rw [hs.size]; exact hd
  have ownl : ∀ s l b, get st.e s = .loc l → a.tmps[s]? = some (ptrV b 0) → O b := by
    intro s l b h1 h2
    have he := hs.env s
    simp only [h1, ER] at he
    obtain ⟨b', _, _, _, hx, ho, _⟩ := he
    rw [h2] at hx; simp at hx; subst hx
    exact ho
  have cases_ : ∀ s l', get (Mir.put (some d) (.loc l) st.e) s = .loc l' → (s = d ∧ l' = l) ∨ (d ≠ s ∧ get st.e s = .loc l') := by
    intro s l' h
    rw [get_put] at h
    by_cases e : d = s
    · rw [if_pos e] at h; exact .inl ⟨e.symm, by simpa using h.symm⟩
    · rw [if_neg e] at h; exact .inr ⟨e, h⟩
  refine ⟨by simp [tmps_put, hs.size], hs.defers, ?_, fun s => ?_, fun s s' o h => ?_, fun s z s' o m k h => ?_, ?_, ?_, ?_, hs.freshH, ?_, hs.frame.alloc _, hs.ext.add hs.frame.size (fun _ _ h => h)⟩
  · exact hs.heap.mono hc rfl fun b hb => ⟨.inl hb, old b hb⟩
  · show ER φ _ _ s (get (Mir.put (some d) (.loc l) st.e) s)
    rw [get_put]
    by_cases e : d = s
    · subst e
      rw [if_pos rfl]
      refine ⟨w.heap.size, cs, T, (0, 0), tmps_put_same _ hda, .inr rfl, hv.1, ha_new w _, by have := hv.1; omega, fun j h1 h2 => ?_, fun j _ h => by simp at h⟩
      have := (hv.2 j h1 (by simpa using h2)).mono hc
      simpa using this
    · rw [if_neg e]
      have he : ER φ (CxOf (w.alloc (.cells cs T)) (addO O w.heap.size) loc) a.tmps s (get st.e s) :=
        (hs.env s).mono hc fun l' b h1 h2 => ⟨old b (ownl s l' b h1 h2), .inl (ownl s l' b h1 h2)⟩
      cases hg : get st.e s <;> simp only [hg, ER] at he ⊢ <;> try (
        obtain ⟨y, hy, hvy⟩ := he
        refine ⟨y, by rw [tmps_put_ne _ e]; exact hy, VL.put hvy (fun s' o h => ?_) (fun z s' o m k h => ?_)⟩ <;> first
          | (exact fun e => hD (e ▸ hs.lps s s' o (hg.trans h)))
          | (exact fun e => hD (e ▸ hs.lss s z s' o m k (hg.trans h))))
      obtain ⟨b, cs', T', fz, hx, rest⟩ := he
      exact ⟨b, cs', T', fz, by rw [tmps_put_ne _ e]; exact hx, rest⟩
  · change get (Mir.put (some d) (.loc l) st.e) s = _ at h
    rw [get_put] at h
    by_cases e : d = s
    · rw [if_pos e] at h; simp at h
    · rw [if_neg e] at h; exact hs.lps s s' o h
  · change get (Mir.put (some d) (.loc l) st.e) s = _ at h
    rw [get_put] at h
    by_cases e : d = s
    · rw [if_pos e] at h; simp at h
    · rw [if_neg e] at h; exact hs.lss s z s' o m k h
  · intro s s' l1 l2 b h h' hx hx'
    rcases cases_ s l1 h with ⟨e, _⟩ | ⟨e, h1⟩ <;> rcases cases_ s' l2 h' with ⟨e', _⟩ | ⟨e', h1'⟩
    · rw [e, e']
    · rw [e, tmps_put_same _ hda] at hx
      rw [tmps_put_ne _ e'] at hx'
      simp at hx; subst hx
      have := hs.own _ (ownl s' l2 _ h1' hx'); omega
    · rw [e', tmps_put_same _ hda] at hx'
      rw [tmps_put_ne _ e] at hx
      simp at hx'; subst hx'
      have := hs.own _ (ownl s l1 _ h1 hx); omega
    · rw [tmps_put_ne _ e] at hx
      rw [tmps_put_ne _ e'] at hx'
      exact hs.locs s s' l1 l2 b h1 h1' hx hx'
  · intro s l1 b k r δ h hx hr e1
    rcases cases_ s l1 h with ⟨rfl, rfl⟩ | ⟨e, h⟩
    · rw [tmps_put_same _ hda] at hx
      simp at hx; subst hx
      obtain ⟨b2, δ2, _, _, _, g1, g2, _⟩ := hs.heap.rows k r hr
      simp only [CxOf] at g1 g2
      rw [e1] at g1; simp at g1
      have := hs.own _ g2
      omega
    · rw [tmps_put_ne _ e] at hx
      exact hs.locH s l1 b k r δ h hx hr e1
  · intro s l1 b h hx
    rcases cases_ s l1 h with ⟨rfl, rfl⟩ | ⟨e, h⟩
    · rw [tmps_put_same _ hda] at hx
      simp at hx; subst hx
      exact hs.frame.size
    · rw [tmps_put_ne _ e] at hx
      exact hs.fresh s l1 b h hx
  · intro b hb
    rcases hb with hb | rfl
    · have := hs.own b hb; simp; omega
    · simp

end
end Mir

namespace Mir
open Go (Value Addr IntKind World Obj Act Program FuncId TypeId Operand Op Oper Code TypeDesc Sem Result)

section
variable {P : Program} {φ : Nat → Option FuncId} {ψ : Prim → FuncId → Bool} {B : Base} {n : Nat} {st : St} {a : Act} {w : World} {O : Nat → Prop} {loc : List (Nat × Nat)} {D : List Nat}

theorem storeCells_ok (g o : Nat) (t : TypeId) (fz : Nat × Nat) : ∀ (vs : List Value) (i : Nat) (cur : Array Value) (w : World), w.heap[g]? = some (.cells cur t fz) → o + i + vs.length ≤ cur.size →
    (∀ j, j < cur.size → ¬ (fz.1 ≤ j ∧ j < fz.2)) → (∀ v ∈ vs, v.oneCell' = true) →
    (Go.storeCells ⟨g, o, none⟩ vs i).run P w = .ok () (w.setRow g (cur.toList.take (o + i) ++ vs ++ cur.toList.drop (o + i + vs.length)).toArray)
  | [], i, cur, w, hg, _, _, _ => by
    simp only [Go.storeCells, List.append_nil, List.length_nil, Nat.add_zero, List.take_append_drop, Array.toArray_toList]
    rw [Go.setRow_self w g cur t fz hg]
    rfl
  | v :: rest, i, cur, w, hg, hl, hf, h1 => by
    have hi : o + i < cur.size := by simp at hl; omega
    have hcell : w.cell? ⟨g, o + i, none⟩ = some cur[o + i] := by simp [World.cell?, hg, hi]
    have hfro : w.frozen? ⟨g, o + i, none⟩ = false := by
      have := hf (o + i) hi
      simp only [World.frozen?, hg]
      rw [← Bool.not_eq_true]
      simpa using this
    have hst : (Go.store ((⟨g, o, none⟩ : Addr).add i) v).run P w = .ok () (w.setRow g (cur.setIfInBounds (o + i) v)) := by
      rw [addr_add, Go.run_store P w _ v _ (h1 v (by simp)), hcell]
      simp [hfro, Go.setCell_eq_setRow w g (o + i) cur t fz v hg]
    have ih := storeCells_ok g o t fz rest (i + 1) (cur.setIfInBounds (o + i) v) (w.setRow g (cur.setIfInBounds (o + i) v)) (Go.setRow_heap w g cur _ t _ hg) (by simp at hl ⊢; omega)
      (fun j hj => hf j (by simpa using hj)) (fun x hx => h1 x (by simp [hx]))
    simp only [Go.storeCells, Go.Sem.run_bind, hst, Result.andThen_ok, ih, Go.setRow_setRow]
    congr 3
    have e := Go.list_seg_step cur.toList (o + i) v rest (by simp at hl ⊢; omega)
    simpa [Array.toList_setIfInBounds, Nat.add_assoc] using e

/-- Cells written over, by their places. -/
theorem seg_get (cur : Array Value) (o : Nat) (vs : List Value) (h : o + vs.length ≤ cur.size) : ((cur.toList.take o ++ vs ++ cur.toList.drop (o + vs.length)).toArray.size = cur.size) ∧
    ∀ k : Nat, (cur.toList.take o ++ vs ++ cur.toList.drop (o + vs.length)).toArray[k]? = if o ≤ k ∧ k < o + vs.length then vs[k - o]? else cur[k]? := by
  refine ⟨by simp; omega, fun k => ?_⟩
  rw [List.getElem?_toArray]
  by_cases h1 : k < o
  · rw [if_neg (by omega), List.append_assoc, List.getElem?_append_left (by simp; omega), List.getElem?_take_of_lt h1, Array.getElem?_toList]
  · by_cases h2 : k < o + vs.length
    · rw [if_pos ⟨by omega, h2⟩, List.append_assoc, List.getElem?_append_right (by simp; omega), List.getElem?_append_left (by simp; omega)]
      congr 1; simp; omega
    · rw [if_neg (by omega), List.append_assoc, List.getElem?_append_right (by simp; omega), List.getElem?_append_right (by simp; omega), List.getElem?_drop, Array.getElem?_toList]
      congr 1; simp; omega

theorem setRow_size (w : World) (g : Nat) (cs : Array Value) : (w.setRow g cs).heap.size = w.heap.size := by simp [World.setRow]

theorem bs_setRow {w : World} {g : Nat} {cs cs' : Array Value} {T : TypeId} {fz : Nat × Nat} (hg : w.heap[g]? = some (.cells cs T fz)) (hsz : cs'.size = cs.size) (b : Nat) :
    bsize (fun b => w.heap[b]?) b ≤ bsize (fun b => (w.setRow g cs').heap[b]?) b := by
  by_cases e : b = g
  · subst e
    simp only [bsize, Go.setRow_heap w b cs cs' T fz hg, hg, hsz]
    exact Nat.le_refl _
  · simp only [bsize, Go.setRow_other w g b cs' e]
    exact Nat.le_refl _

theorem Cx.le_setRow (O : Nat → Prop) (loc : List (Nat × Nat)) {g : Nat} (hg : O g) {cs : Array Value} (cs' : Array Value) {T : TypeId} {fz : Nat × Nat} (hb : w.heap[g]? = some (.cells cs T fz)) (hsz : cs'.size = cs.size) :
    (CxOf w O loc).Le (CxOf (w.setRow g cs') O loc) :=
  Cx.le_of (fun b _ hn => ⟨hn, Go.setRow_other w g b cs' (by rintro rfl; exact hn hg)⟩) (fun _ _ h => h) (bs_setRow hb hsz)

theorem KeptW.setRow {w : World} (h : KeptW B w) {g : Nat} (hg : B.live g ∨ B.w.heap.size ≤ g) {cs0 : Array Value} (cs : Array Value) {T : TypeId} {fz : Nat × Nat} (hb0 : w.heap[g]? = some (.cells cs0 T fz)) (hsz : cs.size = cs0.size) : KeptW B (w.setRow g cs) where
  bs b := Nat.le_trans (h.bs b) (bs_setRow hb0 hsz b)
  os := h.os
  tape := h.tape
  output := h.output
  size := by rw [setRow_size]; exact h.size
  block b hb hl := by
    rw [Go.setRow_other w g b cs (by rintro rfl; exact hg.elim hl (fun e => by omega))]
    exact h.block b hb hl

theorem Sim.loc_block (hs : Sim φ B n st a w O loc D) {s : Nat} {l : List V} {b : Nat} (h1 : get st.e s = .loc l) (h2 : a.tmps[s]? = some (ptrV b 0)) :
    O b ∧ ∃ cs T fz, l.length = cs.size ∧ RowAt φ (CxOf w O loc) l b 0 cs T fz := by
  have he := hs.env s
  simp only [h1, ER] at he
  obtain ⟨b', cs, T, fz, hx, ho, hl, hr⟩ := he
  rw [h2] at hx; simp at hx; subst hx
  exact ⟨ho, cs, T, fz, hl, hr⟩

theorem row_set_same {h : Heap} {k : Nat} (l : List V) (hk : k < h.length) : row (setRow h k l) k = some l := by
  simp [row, setRow, hk]
theorem row_set_ne {h : Heap} {k j : Nat} (l : List V) (hk : k ≠ j) : row (setRow h k l) j = row h j := by
  simp [row, setRow, List.getElem?_set_ne hk]

/-- A row of the small heap is written over. -/
theorem Sim.store_row (hs : Sim φ B n st a w O loc D) {k : Nat} {l l' : List V} {b δ : Nat} {cs cs' : Array Value} {T : TypeId} {fz : Nat × Nat} (hk : row st.h k = some l)
    (hloc : loc[k]? = some (b, δ)) (hr : RowAt φ (CxOf w O loc) l b δ cs T fz) (hO : O b) (hsz : cs'.size = cs.size) (hl : l'.length = l.length)
    (hv : ∀ (j : Nat) v x, l'[j]? = some v → cs'[δ + j]? = some x → VR φ (CxOf w O loc) v x) :
    Sim φ B n ⟨st.e, setRow st.h k l'⟩ a (w.setRow b cs') O loc D := by
  have hbl : w.heap[b]? = some (.cells cs T fz) := hr.block
  have hc := Cx.le_setRow (w := w) O loc hO cs' hbl hsz
  have rows' : ∀ j r, row (setRow st.h k l') j = some r → (j = k ∧ r = l') ∨ (j ≠ k ∧ row st.h j = some r) := by
    intro j r h
    by_cases e : k = j
    · subst e
      rw [row_set_same _ (row_lt hk)] at h
      exact .inl ⟨rfl, by simpa using h.symm⟩
    · rw [row_set_ne _ e] at h
      exact .inr ⟨Ne.symm e, h⟩
  refine hs.world hc (fun s q b' h1 h2 => ?_) ⟨by simp only [setRow, List.length_set]; exact hs.heap.len, ?_, ?_⟩ ?_ ?_ (fun b' hb => by rw [setRow_size]; exact hs.own b' hb) (hs.frame.setRow (hs.freshH k l b δ hk hloc) cs' hbl hsz) hs.ext
  · obtain ⟨ho, _⟩ := hs.loc_block h1 h2
    exact ⟨Go.setRow_other w b b' cs' (by rintro rfl; exact hs.locH s q b' k l δ h1 h2 hk hloc), ho⟩
  · intro j r h
    rcases rows' j r h with ⟨rfl, rfl⟩ | ⟨hne, h⟩
    · refine ⟨b, δ, cs', T, fz, hloc, hO, Go.setRow_heap w b cs cs' T fz hbl, by rw [hl, hsz]; exact hr.room, fun i h1 h2 => ?_, by rw [hsz]; exact hr.free⟩
      exact (hv i _ _ (List.getElem?_eq_getElem h1) (Array.getElem?_eq_getElem h2)).mono hc
    · obtain ⟨b2, δ2, cs2, T2, fz2, g1, g2, g3⟩ := hs.heap.rows j r h
      refine ⟨b2, δ2, cs2, T2, fz2, g1, g2, g3.mono hc (Go.setRow_other w b b2 cs' ?_)⟩
      rintro rfl
      exact hne (hs.heap.apart j k r l b2 δ2 δ h hk g1 hloc)
  · intro j j' r r' b1 δ1 δ2 h h' g g'
    have get1 : ∀ j r, row (setRow st.h k l') j = some r → ∃ r0, row st.h j = some r0 := by
      intro j r h
      rcases rows' j r h with ⟨rfl, _⟩ | ⟨_, h⟩
      · exact ⟨_, hk⟩
      · exact ⟨_, h⟩
    obtain ⟨r0, h0⟩ := get1 j r h
    obtain ⟨r0', h0'⟩ := get1 j' r' h'
    exact hs.heap.apart j j' r0 r0' b1 δ1 δ2 h0 h0' g g'
  · intro s q b' j r δ' h1 h2 h e
    rcases rows' j r h with ⟨rfl, _⟩ | ⟨_, h⟩
    · exact hs.locH s q b' _ l δ' h1 h2 hk e
    · exact hs.locH s q b' j r δ' h1 h2 h e
  · intro j r b' δ' h e
    rcases rows' j r h with ⟨rfl, _⟩ | ⟨_, h⟩
    · exact hs.freshH _ l b' δ' hk e
    · exact hs.freshH j r b' δ' h e

/-- A local variable is written over. -/
theorem Sim.store_loc (hs : Sim φ B n st a w O loc D) {s : Nat} {l l' : List V} {b : Nat} {cs cs' : Array Value} {T : TypeId} {fz : Nat × Nat} (hg : get st.e s = .loc l) (hb : a.tmps[s]? = some (ptrV b 0))
    (hbl : w.heap[b]? = some (.cells cs T fz)) (hf : ∀ j, j < cs.size → ¬ (fz.1 ≤ j ∧ j < fz.2)) (hsz : cs'.size = cs.size) (hv : VRa φ (CxOf w O loc) l' cs') :
    Sim φ B n ⟨(s, .loc l') :: st.e, st.h⟩ a (w.setRow b cs') O loc D := by
  obtain ⟨hO, _⟩ := hs.loc_block hg hb
  have hc := Cx.le_setRow (w := w) O loc hO cs' hbl hsz
  have g : ∀ t, get ((s, V.loc l') :: st.e) t = if s = t then .loc l' else get st.e t := fun t => get_cons s _ _ t
  have cases_ : ∀ t q, get ((s, V.loc l') :: st.e) t = .loc q → ∃ q', get st.e t = .loc q' := by
    intro t q h
    rw [g] at h
    by_cases e : s = t
    · subst e; exact ⟨_, hg⟩
    · rw [if_neg e] at h; exact ⟨_, h⟩
  refine ⟨hs.size, hs.defers, ⟨hs.heap.len, ?_, hs.heap.apart⟩, fun t => ?_, fun t s' o h => ?_, fun t z s' o m k h => ?_, ?_, ?_, ?_, hs.freshH, fun b' hb' => by rw [setRow_size]; exact hs.own b' hb', hs.frame.setRow (.inr (hs.fresh s l b hg hb)) cs' hbl hsz, hs.ext⟩
  · intro j r h
    obtain ⟨b2, δ2, cs2, T2, fz2, g1, g2, g3⟩ := hs.heap.rows j r h
    refine ⟨b2, δ2, cs2, T2, fz2, g1, g2, g3.mono hc (Go.setRow_other w b b2 cs' ?_)⟩
    rintro rfl
    exact hs.locH s l b2 j r δ2 hg hb h g1
  · show ER φ _ _ t (get ((s, V.loc l') :: st.e) t)
    rw [g]
    by_cases e : s = t
    · subst e
      rw [if_pos rfl]
      refine ⟨b, cs', T, fz, hb, hO, hv.1, Go.setRow_heap w b cs cs' T fz hbl, by have := hv.1; omega, fun j h1 h2 => ?_, by rw [hsz]; exact hf⟩
      have := (hv.2 j h1 (by simpa using h2)).mono hc
      simpa using this
    · rw [if_neg e]
      refine (hs.env t).mono hc fun q b' h1 h2 => ⟨Go.setRow_other w b b' cs' ?_, (hs.loc_block h1 h2).1⟩
      rintro rfl
      exact e (hs.locs s t l q b' hg h1 hb h2)
  · change get ((s, V.loc l') :: st.e) t = _ at h
    rw [g] at h
    by_cases e : s = t
    · rw [if_pos e] at h; simp at h
    · rw [if_neg e] at h; exact hs.lps t s' o h
  · change get ((s, V.loc l') :: st.e) t = _ at h
    rw [g] at h
    by_cases e : s = t
    · rw [if_pos e] at h; simp at h
    · rw [if_neg e] at h; exact hs.lss t z s' o m k h
  · intro t t' q q' b' h h' hx hx'
    obtain ⟨_, h⟩ := cases_ t q h
    obtain ⟨_, h'⟩ := cases_ t' q' h'
    exact hs.locs t t' _ _ b' h h' hx hx'
  · intro t q b' k r δ h hx
    obtain ⟨_, h⟩ := cases_ t q h
    exact hs.locH t _ b' k r δ h hx
  · intro t q b' h hx
    obtain ⟨_, h⟩ := cases_ t q h
    exact hs.fresh t _ b' h hx

/-- A row of the small heap is given up. -/
theorem Sim.kill (hs : Sim φ B n st a w O loc D) (k : Nat) : Sim φ B n ⟨st.e, st.h.set k none⟩ a w O loc D := by
  have rows' : ∀ j r, row (st.h.set k none) j = some r → k ≠ j ∧ row st.h j = some r := by
    intro j r h
    by_cases e : k = j
    · subst e
      have hlt := row_lt h
      simp at hlt
      simp [row, hlt] at h
    · exact ⟨e, by simpa [row, List.getElem?_set_ne e] using h⟩
  refine hs.world (Cx.Le.refl _) (fun s q b' h1 h2 => ⟨rfl, (hs.loc_block h1 h2).1⟩) ⟨by simp only [List.length_set]; exact hs.heap.len, ?_, ?_⟩ ?_ ?_ hs.own hs.frame hs.ext
  · intro j r h
    exact hs.heap.rows j r (rows' j r h).2
  · intro j j' r r' b1 δ1 δ2 h h'
    exact hs.heap.apart j j' r r' b1 δ1 δ2 (rows' j r h).2 (rows' j' r' h').2
  · intro s q b' j r δ' h1 h2 h
    exact hs.locH s q b' j r δ' h1 h2 (rows' j r h).2
  · intro j r b' δ' h
    exact hs.freshH j r b' δ' (rows' j r h).2

/-- An own block that no row and no local variable lies in. -/
structure Free (B : Base) (st : St) (a : Act) (O : Nat → Prop) (loc : List (Nat × Nat)) (b : Nat) : Prop where
  own : O b
  rows : ∀ k r δ, row st.h k = some r → loc[k]? = some (b, δ) → False
  locs : ∀ s l, get st.e s = .loc l → a.tmps[s]? = some (ptrV b 0) → False
  old : B.live b ∨ B.w.heap.size ≤ b

theorem Sim.free_of_kill (hs : Sim φ B n st a w O loc D) {k : Nat} {l : List V} {b δ : Nat} (hk : row st.h k = some l) (hloc : loc[k]? = some (b, δ)) : Free B ⟨st.e, st.h.set k none⟩ a O loc b where
  own := by
    obtain ⟨b2, δ2, _, _, _, g1, g2, _⟩ := hs.heap.rows k l hk
    simp only [CxOf] at g1
    rw [hloc] at g1; simp at g1
    rw [g1.1]; exact g2
  rows j r δ' h e := by
    have hjk : k ≠ j := by
      rintro rfl
      have hlt := row_lt h
      simp at hlt
      simp [row, hlt] at h
    have h' : row st.h j = some r := by simpa [row, List.getElem?_set_ne hjk] using h
    exact hjk (hs.heap.apart k j l r b δ δ' hk h' hloc e)
  locs s q h1 h2 := hs.locH s q b k l δ h1 h2 hk hloc
  old := hs.freshH k l b δ hk hloc

/-- A free block is taken for a row (and written over). -/
theorem Sim.take_row (hs : Sim φ B n st a w O loc D) {b : Nat} (hb : Free B st a O loc b) {l : List V} {cs cs' : Array Value} {T : TypeId} {fz : Nat × Nat} {δ : Nat}
    (hbl : w.heap[b]? = some (.cells cs T fz)) (hsz : cs'.size = cs.size) (hroom : δ + l.length ≤ cs.size) (hf : ∀ j, j < cs.size → ¬ (fz.1 ≤ j ∧ j < fz.2))
    (hv : ∀ (j : Nat) v x, l[j]? = some v → cs'[δ + j]? = some x → VR φ (CxOf w O loc) v x) :
    Sim φ B n ⟨st.e, st.h ++ [some l]⟩ a (w.setRow b cs') O (loc ++ [(b, δ)]) D := by
  have hlen := hs.heap.len
  simp only [CxOf] at hlen
  have hc : (CxOf w O loc).Le (CxOf (w.setRow b cs') O (loc ++ [(b, δ)])) :=
    Cx.le_of (fun b' _ hn => ⟨hn, Go.setRow_other w b b' cs' (by rintro rfl; exact hn hb.own)⟩) (fun k x h => by rw [List.getElem?_append_left (List.getElem?_eq_some_iff.1 h).1]; exact h) (bs_setRow hbl hsz)
  have locNew : (loc ++ [(b, δ)])[st.h.length]? = some (b, δ) := by rw [hlen]; simp
  have locOld : ∀ k, k < st.h.length → (loc ++ [(b, δ)])[k]? = loc[k]? := fun k hk => List.getElem?_append_left (by omega)
  have parts : ∀ k r, row (st.h ++ [some l]) k = some r → (k < st.h.length ∧ row st.h k = some r) ∨ (k = st.h.length ∧ r = l) := by
    intro k r hr
    rcases Nat.lt_or_ge k st.h.length with hk | hk
    · exact .inl ⟨hk, by rwa [row_append_old _ _ hk] at hr⟩
    · have h1 := row_lt hr
      simp at h1
      have : k = st.h.length := by omega
      subst this
      rw [row_append_new] at hr
      exact .inr ⟨rfl, (Option.some.inj hr).symm⟩
  refine hs.world hc (fun s q b' h1 h2 => ?_) ⟨by simp [CxOf]; omega, ?_, ?_⟩ ?_ ?_ (fun b' hb' => by rw [setRow_size]; exact hs.own b' hb') (hs.frame.setRow hb.old cs' hbl hsz) ⟨hs.ext.bnd, hs.ext.le, hs.ext.new, fun k x h => by have h2 := hs.ext.pre k x h; rw [List.getElem?_append_left (List.getElem?_eq_some_iff.1 h2).1]; exact h2⟩
  · obtain ⟨ho, _⟩ := hs.loc_block h1 h2
    exact ⟨Go.setRow_other w b b' cs' (by rintro rfl; exact hb.locs s q h1 h2), ho⟩
  · intro k r hr
    rcases parts k r hr with ⟨hk, hr1⟩ | ⟨rfl, rfl⟩
    · obtain ⟨b2, δ2, cs2, T2, fz2, g1, g2, g3⟩ := hs.heap.rows k r hr1
      refine ⟨b2, δ2, cs2, T2, fz2, ?_, g2, g3.mono hc (Go.setRow_other w b b2 cs' ?_)⟩
      · show (loc ++ [(b, δ)])[k]? = _
        rw [locOld k hk]; exact g1
      · rintro rfl
        exact hb.rows k r δ2 hr1 g1
    · refine ⟨b, δ, cs', T, fz, locNew, hb.own, Go.setRow_heap w b cs cs' T fz hbl, by rw [hsz]; exact hroom, fun j h1 h2 => ?_, by rw [hsz]; exact hf⟩
      exact (hv j _ _ (List.getElem?_eq_getElem h1) (Array.getElem?_eq_getElem h2)).mono hc
  · intro k k' r r' b1 δ1 δ2 hr hr' e e'
    change (loc ++ [(b, δ)])[k]? = _ at e
    change (loc ++ [(b, δ)])[k']? = _ at e'
    rcases parts k r hr with ⟨hk, hr1⟩ | ⟨e1, _⟩ <;> rcases parts k' r' hr' with ⟨hk', hr1'⟩ | ⟨e1', _⟩
    · rw [locOld k hk] at e
      rw [locOld k' hk'] at e'
      exact hs.heap.apart k k' r r' b1 δ1 δ2 hr1 hr1' e e'
    · rw [locOld k hk] at e
      rw [e1', locNew] at e'
      simp at e'
      rw [← e'.1] at e
      exact (hb.rows k r δ1 hr1 e).elim
    · rw [locOld k' hk'] at e'
      rw [e1, locNew] at e
      simp at e
      rw [← e.1] at e'
      exact (hb.rows k' r' δ2 hr1' e').elim
    · rw [e1, e1']
  · intro s q b1 k r δ1 h1 h2 hr e
    rcases parts k r hr with ⟨hk, hr1⟩ | ⟨e1, _⟩
    · rw [locOld k hk] at e
      exact hs.locH s q b1 k r δ1 h1 h2 hr1 e
    · rw [e1, locNew] at e
      simp at e
      rw [← e.1] at h2
      exact hb.locs s q h1 h2
  · intro k r b1 δ1 hr e
    rcases parts k r hr with ⟨hk, hr1⟩ | ⟨e1, _⟩
    · rw [locOld k hk] at e
      exact hs.freshH k r b1 δ1 hr1 e
    · rw [e1, locNew] at e
      simp at e
      rw [← e.1]; exact hb.old

end
end Mir

namespace Mir
open Go (Value Addr IntKind World Obj Act Program FuncId TypeId Operand Op Oper Code TypeDesc Sem Result)

/-- What an operation leads to. -/
def StepOk (P : Program) (φ : Nat → Option FuncId) (B : Base) (n : Nat) (o : Oper) (a : Act) (w : World) (st' : St) (D' : List Nat) : Prop :=
  ∀ (K : Act → World → Prop) (Q : Go.Exit → Act → World → Prop), (∀ a' w' O' loc', Sim φ B n st' a' w' O' loc' D' → K a' w') → o.wp P a w K Q

section
variable {P : Program} {φ : Nat → Option FuncId} {ψ : Prim → FuncId → Bool} {B : Base} {n : Nat} {st : St} {a : Act} {w : World} {O : Nat → Prop} {loc : List (Nat × Nat)} {D : List Nat}

theorem cells_box {c : Cx} {v : V} {x : Value} (h : VR φ c v x) (hb : boxable v = true) : VRa φ c (cells v) x.cells := by
  have one : ∀ (h : VR φ c v x), cells v = [v] → x.cells = #[x] → VRa φ c (cells v) x.cells := by
    intro h e1 e2
    rw [e1, e2]
    refine ⟨rfl, fun j h1 h2 => ?_⟩
    have : j = 0 := by simp at h1; omega
    subst this; exact h
  cases h with
  | agg l cs h1 h2 => exact ⟨h1, h2⟩
  | tup l cs h1 h2 => simp [boxable] at hb
  | undef x => simp [boxable] at hb
  | i n h1 h2 => exact one (.i n h1 h2) rfl rfl
  | u w n k h1 h2 => exact one (.u w n k h1 h2) rfl rfl
  | b x => exact one (.b x) rfl rfl
  | s l ba h => exact one (.s l ba h) rfl rfl
  | nilp => exact one .nilp rfl rfl
  | nilf => exact one .nilf rfl rfl
  | vr l off b δ y h1 h2 h3 => exact one (.vr l off b δ y h1 h2 h3) rfl rfl
  | hp k off b δ h => exact one (.hp k off b δ h) rfl rfl
  | nils => exact one .nils rfl rfl
  | vsn => exact one .vsn rfl rfl
  | vs0 a cap => exact one (.vs0 a cap) rfl rfl
  | vs n l b o cap y h0 h1 h2 h3 => exact one (.vs n l b o cap y h0 h1 h2 h3) rfl rfl
  | hs sz k off len cap b δ cap' ad h1 h2 h3 h4 => exact one (.hs sz k off len cap b δ cap' ad h1 h2 h3 h4) rfl rfl
  | fn f F l m xs ys h1 h2 h3 h4 h5 => exact one (.fn f F l m xs ys h1 h2 h3 h4 h5) rfl rfl

theorem boxable_plain {v : V} (h : boxable v = true) : plainV v = true := by cases v <;> simp [boxable] at h <;> rfl

def isBox (m : MOp) (x : Opd) : Prop := m = .box x ∨ m = .boxv x ∨ m = .boxh x

theorem run_box (hs : Sim φ B n st a w O loc D) {o : Oper} {m : MOp} {x : Opd} (hm : isBox m x) (hc : chkOp P φ ψ o.op m = true) :
    ∃ T X, (Go.execOp a.eval o).run P w = .ok (.value (ptrV w.heap.size 0)) (w.alloc (.cells X.cells T)) ∧ VL φ (CxOf w O loc) a.tmps (ev st.e x) X := by
  have hc' : chkBox P φ o.op x = true := by
    rcases hm with rfl | rfl | rfl <;> exact hc
  clear hc hm
  unfold chkBox at hc'
  split at hc'
  · rename_i T x' ho
    exact ⟨T, a.eval x', by simp [Go.execOp, ho, Go.Instr.box, Go.newVar, Go.newRow], ev_VL hs hc'⟩
  · rename_i t ho
    split at hc'
    · rename_i v zv hz
      cases hi : P.info? t with
      | none => simp [hi] at hz
      | some it =>
        simp only [hi, Option.bind_some] at hz
        exact ⟨t, zv, by simp [Go.execOp, ho, Go.Instr.alloc, Go.newVar, Go.newRow, Go.zeroValue, Go.typeInfo, hi, hz], VL_of_VR (VR_of_chkV _ _ _ hc')⟩
    · simp at hc'
  · simp at hc'

theorem freeze_new (w : World) (cs : Array Value) (T : TypeId) (k : Nat) : (w.alloc (.cells cs T)).freeze { block := w.heap.size, off := k } 1 = w.alloc (.cells cs T (k, k + 1)) := by
  simp only [World.freeze, World.alloc, Nat.one_ne_zero, if_false]
  congr 1
  apply Array.ext
  · simp
  · intro i h1 h2
    simp at h1 h2
    rw [Array.getElem_modify]
    by_cases e : w.heap.size = i
    · subst e; simp
    · have : i < w.heap.size := by omega
      simp [e, Array.getElem_push_lt this]

variable (hs : Sim φ B n st a w O loc D) {o : Oper} {c : Call} {v : V} {h' : Heap}
include hs

theorem box_step {x : Opd} (hc : chkOp P φ ψ o.op (.box x) = true) (he : evalO c (.box x) st.e st.h = some (v, h')) {d : Nat} (hd : o.dst = some d) (hn : d < n) (hD : d ∉ D) :
    StepOk P φ B n o a w ⟨put (some d) v st.e, h'⟩ D := by
  intro K Q hK
  obtain ⟨T, X, hrun, hX⟩ := run_box hs (.inl rfl) hc
  simp only [evalO] at he
  split at he
  · rename_i hb
    simp only [Option.some.injEq, Prod.mk.injEq] at he
    obtain ⟨rfl, rfl⟩ := he
    refine wp_val hrun ?_
    rw [hd]
    exact hK _ _ _ _ (hs.alloc_loc (cells_box (VL_plainV hX (boxable_plain hb)) hb) hn hD)
  · simp at he

omit hs in
/-- A slot is given the value that an operation came to, after memory has changed. -/
theorem put_step {st1 : St} {w1 : World} {O1 : Nat → Prop} {loc1 : List (Nat × Nat)} (hs1 : Sim φ B n st1 a w1 O1 loc1 D) {x : Value} (hv : VL φ (CxOf w1 O1 loc1) a.tmps v x) (A : List Nat)
    (hL : LpIn (D ++ A) v) (hd : ∀ d, o.dst = some d → d < n ∧ d ∉ D ++ A) : Sim φ B n ⟨put o.dst v st1.e, st1.h⟩ (a.put o.dst x) w1 O1 loc1 (D ++ A) := by
  cases hdst : o.dst with
  | none => exact hs1.more _ (fun s h => List.mem_append_left _ h)
  | some d =>
    obtain ⟨h1, h2⟩ := hd d hdst
    exact hs1.put hv h1 (fun h => h2 (List.mem_append_left _ h)) _ (fun s h => List.mem_append_left _ h)
      (fun s o e => ⟨hL.1 s o e, fun e' => h2 (e' ▸ hL.1 s o e)⟩) (fun z s o m k e => ⟨hL.2 z s o m k e, fun e' => h2 (e' ▸ hL.2 z s o m k e)⟩)

theorem pure_step {m : MOp} (hp : PureR P φ st a w O loc D m o v h') (hd : ∀ d, o.dst = some d → d < n ∧ d ∉ D ++ m.addrs) : StepOk P φ B n o a w ⟨put o.dst v st.e, h'⟩ (D ++ m.addrs) := by
  intro K Q hK
  obtain ⟨x, hrun, hv, rfl, hL⟩ := hp
  exact wp_val hrun (hK _ _ _ _ (put_step hs hv _ hL hd))

theorem boxv_step {x : Opd} (hc : chkOp P φ ψ o.op (.boxv x) = true) (he : evalO c (.boxv x) st.e st.h = some (v, h')) (hd : ∀ d, o.dst = some d → d < n ∧ d ∉ D ++ []) :
    StepOk P φ B n o a w ⟨put o.dst v st.e, h'⟩ (D ++ []) := by
  intro K Q hK
  obtain ⟨T, X, hrun, hX⟩ := run_box hs (.inr (.inl rfl)) hc
  simp only [evalO] at he
  split at he
  · rename_i hb
    simp only [Option.some.injEq, Prod.mk.injEq] at he
    obtain ⟨rfl, rfl⟩ := he
    refine wp_val hrun (hK _ _ _ _ (put_step (hs.alloc_imm _) (VL_of_VR (VR.vr_new hs.own (cells_box (VL_plainV hX (boxable_plain hb)) hb) T 0)) [] (LpIn.plain (by simp) (by simp)) hd))
  · simp at he

theorem VR.hp_new (l : List V) (cs : Array Value) (T : TypeId) (fz : Nat × Nat) (o : Nat) :
    VR φ (CxOf (w.alloc (.cells cs T fz)) (addO O w.heap.size) (loc ++ [(w.heap.size, 0)])) (.hp st.h.length o) (ptrV w.heap.size o) := by
  have hlen := hs.heap.len
  simp only [CxOf] at hlen
  have := VR.hp (φ := φ) (c := CxOf (w.alloc (.cells cs T fz)) (addO O w.heap.size) (loc ++ [(w.heap.size, 0)])) st.h.length o w.heap.size 0 (by simp [CxOf, hlen])
  rwa [Nat.zero_add] at this

theorem VR.hs_new (cs : Array Value) (T : TypeId) (fz : Nat × Nat) (sz len cap cap' : Nat) (h1 : len ≤ cap) (h2 : cap ≤ cap') (h3 : cap' * sz ≤ cs.size) :
    VR φ (CxOf (w.alloc (.cells cs T fz)) (addO O w.heap.size) (loc ++ [(w.heap.size, 0)])) (.hs sz st.h.length 0 len cap) (.slice (some ⟨w.heap.size, 0, none⟩) len cap') := by
  have hlen := hs.heap.len
  simp only [CxOf] at hlen
  exact VR.hs _ _ _ _ _ w.heap.size 0 _ _ (by simp [CxOf, hlen]) h1 h2 (fun _ => ⟨rfl, by have := ha_new w (.cells cs T fz); simp only [bsize, CxOf, this]; omega⟩)

theorem boxh_step {x : Opd} (hc : chkOp P φ ψ o.op (.boxh x) = true) (he : evalO c (.boxh x) st.e st.h = some (v, h')) (hd : ∀ d, o.dst = some d → d < n ∧ d ∉ D ++ []) :
    StepOk P φ B n o a w ⟨put o.dst v st.e, h'⟩ (D ++ []) := by
  intro K Q hK
  obtain ⟨T, X, hrun, hX⟩ := run_box hs (.inr (.inr rfl)) hc
  simp only [evalO] at he
  split at he
  · rename_i hb
    simp only [Option.some.injEq, Prod.mk.injEq] at he
    obtain ⟨rfl, rfl⟩ := he
    have hc := cells_box (VL_plainV hX (boxable_plain hb)) hb
    have h1 := hs.alloc_row (l := cells (ev st.e x)) (cs := X.cells) (T := T) (fz := (0, 0)) (by rw [hc.1]; exact Nat.le_refl _) (VRa_iff.1 hc).2 (fun j _ h => by simp at h)
    refine wp_val hrun (hK _ _ _ _ (put_step h1 (VL_of_VR (VR.hp_new hs (cells (ev st.e x)) X.cells T (0, 0) 0)) [] (LpIn.plain (by simp) (by simp)) hd))
  · simp at he

theorem s2b_step {x : Opd} (hc : chkOp P φ ψ o.op (.s2b x) = true) (he : evalO c (.s2b x) st.e st.h = some (v, h')) (hd : ∀ d, o.dst = some d → d < n ∧ d ∉ D ++ []) :
    StepOk P φ B n o a w ⟨put o.dst v st.e, h'⟩ (D ++ []) := by
  intro K Q hK
  simp only [chkOp] at hc
  split at hc
  · rename_i s d x' ho
    simp only [Bool.and_eq_true] at hc
    obtain ⟨⟨h1, hsrc⟩, hdst⟩ := hc
    split at hdst
    · rename_i e hde
      simp only [beq_iff_eq] at hdst
      have hx := ev_VL hs h1
      simp only [evalO] at he
      split at he
      · rename_i l hl
        simp only [Option.some.injEq, Prod.mk.injEq] at he
        obtain ⟨rfl, rfl⟩ := he
        rw [hl] at hx
        generalize hA : a.eval x' = A at hx
        cases hx with
        | s _ ba hba =>
          have hsz := size_toNat hba
          have hcap : ba.size ≤ (Go.Question.appendCap ba.size 0 e).cut (w.tape w.drawn (.appendCap ba.size 0 e)) := by simp [Go.Question.cut]
          generalize hcp : (Go.Question.appendCap ba.size 0 e).cut (w.tape w.drawn (.appendCap ba.size 0 e)) = cap at hcap
          let cs : Array Value := (ba.data.map fun b => .int .u8 b.toNat) ++ Array.replicate (cap - ba.size) (.int .u8 0)
          have hcs : cs.size = cap := by
            have : ba.data.size = ba.size := rfl
            simp [cs]; omega
          have hv : ∀ (j : Nat) v x, (l.map (V.u 8))[j]? = some v → cs[j]? = some x → VR φ (CxOf w.drew O loc) v x := by
            intro j v x hv hx
            obtain ⟨hj, rfl⟩ := List.getElem?_eq_some_iff.1 hv
            simp at hj
            have hj2 : j < ba.data.size := by
              have : ba.data.size = ba.size := rfl
              omega
            have : cs[j]? = some (.int .u8 (ba.data[j]).toNat) := by
              have hj3 : j < ba.size := hj2
              simp [cs, Array.getElem?_append, hj2, hj3]
            rw [this] at hx
            simp at hx
            subst hx
            have hlj : l[j] = (ba.data[j]).toNat := by subst hba; simp
            simp only [List.getElem_map, hlj]
            exact .u 8 _ .u8 rfl (UInt8.toNat_lt _)
          have hrun : (Go.execOp a.eval o).run P w = .ok (.value (.slice (some ⟨w.heap.size, 0, none⟩) ba.size cap)) (w.drew.alloc (.cells cs e (cap, cap + 1))) := by
            simp only [Go.execOp, ho, hA, Go.convert, Go.Sem.run_bind, run_und (strT_und hsrc), run_und (sliceT_und hde), run_und (intT_und hdst), Result.andThen_ok, Go.Conv.stringToBytes, Go.run_choose, Go.Question.forced, Bool.false_eq_true, if_false, hcp]
            have hf := freeze_new w.drew cs e cap
            have hshape : (w.drew.alloc (.cells cs e)).shape? w.heap.size = some (e, cap) := by
              have := ha_new w.drew (.cells cs e)
              simp only [World.shape?]
              rw [show (w.drew.alloc (.cells cs e)).heap[w.heap.size]? = some (.cells cs e) from this]
              simp [hcs]
            have hmk : (Go.markStringish ⟨w.heap.size, 0, none⟩).run P (w.drew.alloc (.cells cs e)) = .ok () (w.drew.alloc (.cells cs e (cap, cap + 1))) := by
              simp only [Go.markStringish, Go.Sem.run_bind, Go.run_shape, hshape, Result.andThen_ok, Go.run_freeze]
              exact congrArg _ hf
            have hnr : (Go.newRow e cs).run P w.drew = .ok ⟨w.heap.size, 0, none⟩ (w.drew.alloc (.cells cs e)) := rfl
            have hnr' : (Go.newRow e (Array.map (fun b => Value.int IntKind.u8 (b.toNat : Int)) ba.data ++ Array.replicate (cap - ba.size) (Value.int IntKind.u8 0))).run P w.drew = .ok ⟨w.heap.size, 0, none⟩ (w.drew.alloc (.cells cs e)) := hnr
            simp only [World.drew_eq, hnr', Result.andThen_ok, hmk, Go.Sem.run_pure]
          have h1 := hs.drew.alloc_row (l := l.map (.u 8)) (cs := cs) (T := e) (fz := (cap, cap + 1)) (by simp; omega) hv (fun j hj h => by simp at h; omega)
          refine wp_val hrun (hK _ _ _ _ (put_step h1 (VL_of_VR ?_) [] (LpIn.plain (by simp) (by simp)) hd))
          rw [hsz]
          exact VR.hs_new hs.drew cs e (cap, cap + 1) 1 l.length l.length cap (Nat.le_refl _) (by omega) (by omega)
      · simp at he
    · simp at hdst
  · simp at hc

end
end Mir

namespace Mir
open Go (Value Addr IntKind World Obj Act Program FuncId TypeId Operand Op Oper Code TypeDesc Sem Result)

theorem flatten_get (z : List V) : ∀ (k j : Nat), j < k * z.length → (List.replicate k z).flatten[j]? = z[j % z.length]?
  | 0, j, h => by simp at h
  | k + 1, j, h => by
    rw [List.replicate_succ, List.flatten_cons]
    by_cases hj : j < z.length
    · rw [List.getElem?_append_left hj, Nat.mod_eq_of_lt hj]
    · rw [List.getElem?_append_right (by omega), flatten_get z k (j - z.length) (by rw [Nat.add_mul, Nat.one_mul] at h; omega)]
      rw [← Nat.mod_eq_sub_mod (by omega)]

theorem flatten_len (z : List V) (k : Nat) : (List.replicate k z).flatten.length = k * z.length := by
  simp [List.length_flatten, List.map_replicate, List.sum_replicate_nat]

theorem fill_len : ∀ (ps : List (Nat × Nat × V)) (z l : List V), fill z ps = some l → l.length = z.length
  | [], z, l, h => by simp only [fill, Option.some.injEq] at h; rw [h]
  | (o, n, v) :: ps, z, l, h => by
    simp only [fill] at h
    split at h
    · rename_i hc
      rw [fill_len ps _ l h, splice_len _ _ _ (by omega)]
    · simp at h

section
variable {P : Program} {φ : Nat → Option FuncId} {ψ : Prim → FuncId → Bool} {B : Base} {n : Nat} {st : St} {a : Act} {w : World} {O : Nat → Prop} {loc : List (Nat × Nat)} {D : List Nat}

theorem sizeT_info {t : TypeId} {k : Nat} (h : sizeT P t = some k) : ∃ it, P.info? t = some it ∧ it.size = k := by
  unfold sizeT at h
  cases hi : P.info? t with
  | none => simp [hi] at h
  | some it => simp [hi] at h; exact ⟨it, rfl, h⟩

theorem bytesT_info {t : TypeId} {k : Nat} (h : bytesT P t = some k) : ∃ it, P.info? t = some it ∧ it.bytes = k := by
  unfold bytesT at h
  cases hi : P.info? t with
  | none => simp [hi] at h
  | some it => simp [hi] at h; exact ⟨it, rfl, h⟩

variable (hs : Sim φ B n st a w O loc D) {o : Oper} {c : Call} {v : V} {h' : Heap}
include hs

theorem mks_step {sz bytes : Nat} {z : List V} {x y : Opd} (hc : chkOp P φ ψ o.op (.mks sz bytes z x y) = true) (he : evalO c (.mks sz bytes z x y) st.e st.h = some (v, h')) (hd : ∀ d, o.dst = some d → d < n ∧ d ∉ D ++ []) :
    StepOk P φ B n o a w ⟨put o.dst v st.e, h'⟩ (D ++ []) := by
  intro K Q hK
  simp only [chkOp] at hc
  split at hc
  · rename_i t x' y' ho
    simp only [Bool.and_eq_true] at hc
    obtain ⟨⟨h1, h2⟩, hc⟩ := hc
    split at hc
    · rename_i e hse
      simp only [Bool.and_eq_true, beq_iff_eq, decide_eq_true_eq] at hc
      obtain ⟨⟨⟨⟨⟨hsz, hby⟩, hb0⟩, hs0⟩, hz⟩, hzl⟩ := hc
      simp only [evalO] at he
      split at he
      · rename_i k hk
        split at he
        · rename_i m hm
          split at he
          · rename_i hroom
            simp only [Option.some.injEq, Prod.mk.injEq] at he
            obtain ⟨rfl, rfl⟩ := he
            obtain ⟨q1, c1, hC, hc0, hc1, hc2⟩ := ixOf_ok (ev_VL hs h2) hk
            obtain ⟨q2, c2, hN, hn0, hn1, hn2⟩ := ixOf_ok (ev_VL hs h1) hm
            obtain ⟨it, hi, his⟩ := sizeT_info hsz
            obtain ⟨it', hi', hib⟩ := bytesT_info hby
            rw [hi] at hi'; simp at hi'; subst hi'
            obtain ⟨it2, zv, hi2, hzv, hZ⟩ := zeroOk_VRa (c := CxOf w O loc) hz
            rw [hi] at hi2; simp at hi2; subst hi2
            simp only [roomOk, decide_eq_true_eq] at hroom
            have hbytes : (it.bytes : Int) * c1 ≤ 281474976710656 := by
              rw [hib]
              have : c1 = (k : Int) := by omega
              rw [this]
              have h3 : ((bytes * k : Nat) : Int) ≤ 281474976710656 := by
                have : bytes * k ≤ 140737488355328 := by rw [Nat.mul_comm]; exact hroom
                omega
              rwa [Int.natCast_mul] at h3
            have hrun := Go.run_make (P := P) w t e it zv (sliceT_und hse) hi hzv q2 q1 c2 c1 hn0 (by omega) hbytes (by omega)
            have hcell : ∀ (j : Nat) v x, (List.replicate k z).flatten[j]? = some v → (Go.madeCells zv.cells (c1.toNat * it.size))[j]? = some x → VR φ (CxOf w O loc) v x := by
              intro j v x hv hx
              have hjl : j < k * z.length := by
                have := (List.getElem?_eq_some_iff.1 hv).1
                rwa [flatten_len] at this
              rw [flatten_get z k j hjl] at hv
              have hzs : z.length = zv.cells.size := hZ.1
              have hmod : j % z.length < z.length := Nat.mod_lt _ (by omega)
              have hx2 : x = zv.cells[j % zv.cells.size]! := by
                unfold Go.madeCells at hx
                obtain ⟨hj2, hx⟩ := Array.getElem?_eq_some_iff.1 hx
                rw [← hx]; simp
              have hlt : j % zv.cells.size < zv.cells.size := by rw [← hzs]; exact hmod
              rw [hx2, getElem!_pos zv.cells _ hlt]
              have := (VRa_iff.1 hZ).2 (j % z.length) v (zv.cells[j % zv.cells.size]) hv (by rw [hzs]; simp [hlt])
              exact this
            have hms : (Go.madeCells zv.cells (c1.toNat * it.size)).size = k * sz := by rw [Go.size_madeCells, his, hc2]
            have h1' := hs.alloc_row (l := (List.replicate k z).flatten) (cs := Go.madeCells zv.cells (c1.toNat * it.size)) (T := e) (fz := (0, 0)) (by rw [flatten_len, hms, hzl]; exact Nat.le_refl _) hcell (fun j _ h => by simp at h)
            have hrun2 : (Go.execOp a.eval o).run P w = .ok (.value (.slice (some ⟨w.heap.size, 0, none⟩) m k)) (w.alloc (.cells (Go.madeCells zv.cells (c1.toNat * it.size)) e)) := by
              simp only [Go.execOp, ho, hN, hC, Go.Sem.run_bind, hrun, Result.andThen_ok, Go.Sem.run_pure, hn2, hc2]
            refine wp_val hrun2 (hK _ _ _ _ (put_step h1' (VL_of_VR ?_) [] (LpIn.plain (by simp) (by simp)) hd))
            exact VR.hs_new hs _ e (0, 0) sz m k k (by omega) (Nat.le_refl _) (by rw [hms]; exact Nat.le_refl _)
          · simp at he
        · simp at he
      · simp at he
    · simp at hc
  · simp at hc

theorem lit_step {imm : Bool} {sz k : Nat} {z : List V} {ps : List (Nat × Nat × Opd)} (hc : chkOp P φ ψ o.op (.lit imm sz k z ps) = true) (he : evalO c (.lit imm sz k z ps) st.e st.h = some (v, h')) (hd : ∀ d, o.dst = some d → d < n ∧ d ∉ D ++ []) :
    StepOk P φ B n o a w ⟨put o.dst v st.e, h'⟩ (D ++ []) := by
  intro K Q hK
  simp only [chkOp] at hc
  split at hc
  · rename_i t k' ps' ho
    simp only [Bool.and_eq_true, beq_iff_eq] at hc
    obtain ⟨rfl, hc⟩ := hc
    split at hc
    · rename_i e hse
      simp only [Bool.and_eq_true, beq_iff_eq, decide_eq_true_eq] at hc
      obtain ⟨⟨⟨⟨⟨hsz, hsmall⟩, hzl⟩, hz0⟩, hzall⟩, hps⟩ := hc
      obtain ⟨it, hi, his⟩ := sizeT_info hsz
      simp only [evalO] at he
      split at he
      · rename_i l hl
        have hsm : ¬ 16777216 < k * sz := by omega
        have key : ∀ (Z : Array Value), VRa φ (CxOf w O loc) z Z → (∀ L, Go.Instr.fill (fun i => some (i * sz, sz)) Z (ps'.map fun (i, x) => (i, a.eval x)).toList = some L →
            (Go.execOp a.eval o).run P w = .ok (.value (.slice (some ⟨w.heap.size, 0, none⟩) k k)) (w.alloc (.cells L e))) → o.wp P a w K Q := by
          intro Z hZ hrun
          obtain ⟨L, hL1, hL2⟩ := fill_ok hs _ _ _ hps z l Z hZ hl
          have hrun := hrun L (by simpa using hL1)
          have hLs : L.size = k * sz := by rw [← hL2.1, fill_len _ _ _ hl, hzl]
          by_cases himm : imm = true
          · subst himm
            simp only [if_true, Option.some.injEq, Prod.mk.injEq] at he
            obtain ⟨rfl, rfl⟩ := he
            exact wp_val hrun (hK _ _ _ _ (put_step (hs.alloc_imm _) (VL_of_VR (VR.vs_new hs.own hL2 e k)) [] (LpIn.plain (by simp) (by simp)) hd))
          · simp only [himm, Bool.false_eq_true, if_false, Option.some.injEq, Prod.mk.injEq] at he
            obtain ⟨rfl, rfl⟩ := he
            have h1' := hs.alloc_row (l := l) (cs := L) (T := e) (fz := (0, 0)) (by rw [hL2.1]; exact Nat.le_refl _) (VRa_iff.1 hL2).2 (fun j _ h => by simp at h)
            exact wp_val hrun (hK _ _ _ _ (put_step h1' (VL_of_VR (VR.hs_new hs _ e (0, 0) sz k k k (Nat.le_refl _) (Nat.le_refl _) (by rw [hLs]; exact Nat.le_refl _))) [] (LpIn.plain (by simp) (by simp)) hd))
        by_cases h0 : k * sz = 0
        · refine key #[] ⟨by rw [hzl, h0]; rfl, fun j hj => by rw [hzl, h0] at hj; simp at hj⟩ (fun L hL => ?_)
          simp only [Go.execOp, ho, Go.Instr.buildSlice, Go.Sem.run_bind, run_und (sliceT_und hse), Result.andThen_ok, run_size hsz, Go.Sem.run_ite, Nat.reducePow, gt_iff_lt, if_false, h0, if_true, Go.Sem.run_pure, Go.Array.range_zero', show ¬ (16777216 < 0) by decide]
          have hL' := hL
          simp only [Array.map_empty, hL', Go.newRow, Go.Sem.run_bind, Go.run_newObj, Result.andThen_ok, Go.Sem.run_pure, World.alloc_eq]
        · simp only [h0, beq_iff_eq, Bool.or_eq_true, false_or] at hz0
          obtain ⟨it2, zv, hi2, hzv, hZ⟩ := zeroOk_VRa (c := CxOf w O loc) hz0
          rw [hi] at hi2; simp at hi2; subst hi2
          have hk0 : 0 < k := Nat.pos_of_ne_zero (by rintro rfl; simp at h0)
          have hs0 : 0 < sz := Nat.pos_of_ne_zero (by rintro rfl; simp at h0)
          have hksz : sz ≤ k * sz := Nat.le_mul_of_pos_left sz hk0
          have hzs : zv.cells.size = sz := by rw [← hZ.1, List.length_take, hzl]; omega
          let Z : Array Value := (Array.range (k * sz)).map (zv.cells[· % zv.cells.size]!)
          have hZs : Z.size = k * sz := by simp [Z]
          have hZZ : VRa φ (CxOf w O loc) z Z := by
            rw [VRa_iff]
            refine ⟨by rw [hzl, hZs], fun j v x hv hx => ?_⟩
            obtain ⟨hj, hv⟩ := List.getElem?_eq_some_iff.1 hv
            obtain ⟨hj2, hx⟩ := Array.getElem?_eq_some_iff.1 hx
            rw [hzl] at hj
            rw [List.all_eq_true] at hzall
            have h3 := hzall j (List.mem_range.2 hj)
            have hmod : j % sz < sz := Nat.mod_lt _ hs0
            have e1 : z[j]? = some v := by rw [List.getElem?_eq_getElem (by omega), hv]
            have e2 : z[j % sz]? = some z[j % sz] := List.getElem?_eq_getElem (by omega)
            have e3 : zv.cells[j % sz]? = some zv.cells[j % sz] := by simp [hzs, hmod]
            simp only [e1, e2, hi, Option.bind_some, hzv, e3] at h3
            have hx2 : x = zv.cells[j % sz] := by
              rw [← hx]
              simp only [Z, Array.getElem_map, Array.getElem_range, hzs]
              rw [getElem!_pos zv.cells _ (by rw [hzs]; exact hmod)]
            rw [hx2]
            exact VR_of_chkV _ _ _ h3
          refine key Z hZZ (fun L hL => ?_)
          simp only [Go.execOp, ho, Go.Instr.buildSlice, Go.Sem.run_bind, run_und (sliceT_und hse), Result.andThen_ok, run_size hsz, Go.Sem.run_ite, Nat.reducePow, gt_iff_lt, hsm, if_false, h0, Go.Sem.run_pure, Go.zeroValue, Go.typeInfo, Go.run_program, hi, hzv]
          have hL' : Go.Instr.fill (fun i => some (i * sz, sz)) ((Array.range (k * sz)).map (zv.cells[· % zv.cells.size]!)) (ps'.map fun (i, x) => (i, a.eval x)).toList = some L := hL
          simp only [hL', Go.newRow, Go.Sem.run_bind, Go.run_newObj, Result.andThen_ok, Go.Sem.run_pure, World.alloc_eq]
      · simp at he
    · simp at hc
  · simp at hc

end
end Mir

namespace Mir
open Go (Value Addr IntKind World Obj Act Program FuncId TypeId Operand Op Oper Code TypeDesc Sem Result)

section
variable {P : Program} {φ : Nat → Option FuncId} {ψ : Prim → FuncId → Bool} {B : Base} {n : Nat} {st : St} {a : Act} {w : World} {O : Nat → Prop} {loc : List (Nat × Nat)} {D : List Nat}

/-- A row's cells with some written over (the list form is the copy's, too). -/
theorem write_cells {c : Cx} {l : List V} {b δ : Nat} {cs : Array Value} {T : Nat} {fz : Nat × Nat} (hr : RowAt φ c l b δ cs T fz) {C : List V} {X : List Value} (hlen : C.length = X.length)
    (hC : ∀ (j : Nat) v x, C[j]? = some v → X[j]? = some x → VR φ c v x) {o : Nat} (ho : o + C.length ≤ l.length) {l' : List V}
    (hl' : l'.length = l.length ∧ ∀ k : Nat, l'[k]? = if o ≤ k ∧ k < o + C.length then C[k - o]? else l[k]?) :
    ∃ cs' : Array Value, cs' = (cs.toList.take (δ + o) ++ X ++ cs.toList.drop (δ + o + X.length)).toArray ∧ cs'.size = cs.size ∧ (∀ (j : Nat) v x, l'[j]? = some v → cs'[δ + j]? = some x → VR φ c v x) := by
  have hroom := hr.room
  obtain ⟨h1, h2⟩ := seg_get cs (δ + o) X (by omega)
  refine ⟨_, rfl, h1, fun j v x hv hx => ?_⟩
  rw [hl'.2] at hv
  rw [h2] at hx
  split at hv
  · rename_i hj
    rw [if_pos (by omega), show δ + j - (δ + o) = j - o by omega] at hx
    exact hC _ _ _ hv hx
  · rename_i hj
    obtain ⟨hjl, rfl⟩ := List.getElem?_eq_some_iff.1 hv
    rw [if_neg (by omega)] at hx
    obtain ⟨hjc, rfl⟩ := Array.getElem?_eq_some_iff.1 hx
    exact hr.cell j hjl hjc

theorem VRa_list {c : Cx} {C : List V} {X : Array Value} (h : VRa φ c C X) : C.length = X.toList.length ∧ ∀ (j : Nat) v x, C[j]? = some v → X.toList[j]? = some x → VR φ c v x := by
  rw [VRa_iff] at h
  exact ⟨by simpa using h.1, fun j v x hv hx => h.2 j v x hv (by simpa using hx)⟩

theorem one_list {X : Array Value} (h : ∀ (j : Nat) y, X[j]? = some y → y.oneCell' = true) : ∀ v ∈ X.toList, v.oneCell' = true := by
  intro v hv
  obtain ⟨j, hj, rfl⟩ := List.getElem_of_mem hv
  exact h j _ (by simp at hj; simp [hj])

/-- A slice's value and its cells, as they lie in memory. -/
def Src (φ : Nat → Option FuncId) (c : Cx) (w : World) (ml : List V) (len : Nat) (A : Value) : Prop :=
  (A = .slice none 0 0 ∧ ml = [] ∧ len = 0) ∨ ∃ ad cap, A = .slice (some ad) len cap ∧
      ((ml = [] ∧ len = 0) ∨ ∃ b o, ad = ⟨b, o, none⟩ ∧ ∃ y : Nat → Value, (∀ j, j < ml.length → w.cell? ⟨b, o + j, none⟩ = some (y j)) ∧ (∀ j (h : j < ml.length), VR φ c ml[j] (y j)))

variable (hs : Sim φ B n st a w O loc D) {o : Oper} {c : Call} {v : V} {h' : Heap}
include hs

omit hs in
theorem run_store_at {t : TypeId} {x' v' : Operand} (ho : o.op = .store t x' v') {m b q : Nat} (hsz : sizeT P t = some m) (hA : a.eval x' = .pointer (some ⟨b, q, none⟩)) (hm : (a.eval v').cells.size = m)
    {w' : World} (hst : (Go.storeCells ⟨b, q, none⟩ (a.eval v').cells.toList 0).run P w = .ok () w') : (Go.execOp a.eval o).run P w = .ok .skip w' := by
  have hne : ¬ (a.eval v').cells.size ≠ m := by simp [hm]
  simp only [Go.execOp, ho, hA, Go.Instr.storeAt, Go.Instr.sureAddr, Go.storeVar, Go.Sem.run_bind, Go.Sem.run_pure, Result.andThen_ok, run_size hsz, Go.Sem.run_ite, hne, if_false, hst]

theorem st_step {m : Nat} {x y : Opd} (hc : chkOp P φ ψ o.op (.st m x y) = true) (he : evalO c (.st m x y) st.e st.h = some (v, h')) (hd : o.dst = none) :
    StepOk P φ B n o a w ⟨st.e, h'⟩ (D ++ []) := by
  intro K Q hK
  simp only [chkOp] at hc
  split at hc
  · rename_i t x' y' ho
    simp only [Bool.and_eq_true, beq_iff_eq] at hc
    obtain ⟨⟨h1, h2⟩, hsz⟩ := hc
    have hx := ev_VL hs h1
    have hy := ev_VL hs h2
    simp only [evalO] at he
    split at he
    · rename_i k q hX
      split at he
      · rename_i l hl
        split at he
        · rename_i hcond
          obtain ⟨g1, g2, g3⟩ := hcond
          simp only [Option.some.injEq, Prod.mk.injEq] at he
          obtain ⟨_, rfl⟩ := he
          rw [hX] at hx
          have hpl : plainV (ev st.e y) = true := by
            cases hv : ev st.e y <;> simp [hv, cells, cellV, plainV] at g2 ⊢
          obtain ⟨c1, c2⟩ := cells_ok (VL_plainV hy hpl) g2
          obtain ⟨b, δ, cs, T, fz, hloc, hown, hrow⟩ := hs.heap.rows k l hl
          simp only [CxOf] at hloc hown
          have hA : a.eval x' = .pointer (some ⟨b, δ + q, none⟩) := by
            generalize a.eval x' = A at hx
            cases hx with
            | hp _ _ b' δ' e1 =>
              simp only [CxOf] at e1
              rw [hloc] at e1; simp at e1
              rw [e1.1, e1.2]
          obtain ⟨l1, l2⟩ := VRa_list c1
          obtain ⟨cs', hcs', hs1, hs2⟩ := write_cells hrow l1 l2 (o := q) (by omega) ⟨splice_len _ _ _ (by omega), splice_get l q _ (by omega)⟩
          have hst := storeCells_ok (P := P) b (δ + q) T fz (a.eval y').cells.toList 0 cs w hrow.block (by have := hrow.room; omega) hrow.free (one_list c2)
          simp only [Nat.add_zero] at hst
          rw [← hcs'] at hst
          refine wp_skip (run_store_at ho hsz hA (by rw [← c1.1]; exact g1) hst) ?_
          rw [hd]
          exact hK _ _ _ _ ((hs.store_row hl hloc hrow hown hs1 (splice_len _ _ _ (by omega)) hs2).more _ (fun s h => List.mem_append_left _ h))
        · simp at he
      · simp at he
    · simp at he
  · simp at hc

theorem stl_step {s m : Nat} {x y : Opd} (hc : chkOp P φ ψ o.op (.stl s m x y) = true) {k : Nat} (hX : ea st.e x = .lp s k) {l : List V} (hl : get st.e s = .loc l)
    (hcond : (cells (ev st.e y)).length = m ∧ (cells (ev st.e y)).all cellV ∧ k + m ≤ l.length) (hd : o.dst = none) :
    StepOk P φ B n o a w ⟨(s, .loc (splice l k (cells (ev st.e y)))) :: st.e, st.h⟩ D := by
  intro K Q hK
  simp only [chkOp] at hc
  split at hc
  · rename_i t x' y' ho
    simp only [Bool.and_eq_true, beq_iff_eq] at hc
    obtain ⟨⟨h1, h2⟩, hsz⟩ := hc
    have hy := ev_VL hs h2
    obtain ⟨g1, g2, g3⟩ := hcond
    have hpl : plainV (ev st.e y) = true := by
      cases hv : ev st.e y <;> simp [hv, cells, cellV, plainV] at g2 ⊢
    obtain ⟨c1, c2⟩ := cells_ok (VL_plainV hy hpl) g2
    have he := hs.env s
    simp only [hl, ER] at he
    obtain ⟨b, cs, T, fz, hb, hown, hlen, hrow⟩ := he
    have hA : a.eval x' = .pointer (some ⟨b, 0 + k, none⟩) := by rw [Nat.zero_add]; exact lp_ok hs h1 hX hb
    obtain ⟨l1, l2⟩ := VRa_list c1
    obtain ⟨cs', hcs', hs1, hs2⟩ := write_cells hrow l1 l2 (o := k) (by omega) ⟨splice_len _ _ _ (by omega), splice_get l k _ (by omega)⟩
    have hst := storeCells_ok (P := P) b (0 + k) T fz (a.eval y').cells.toList 0 cs w hrow.block (by have := hrow.room; omega) hrow.free (one_list c2)
    simp only [Nat.add_zero] at hst
    rw [← hcs'] at hst
    refine wp_skip (run_store_at ho hsz hA (by rw [← c1.1]; exact g1) hst) ?_
    rw [hd]
    refine hK _ _ _ _ (hs.store_loc hl hb hrow.block hrow.free hs1 ?_)
    rw [VRa_iff]
    refine ⟨by rw [splice_len _ _ _ (by omega), hs1]; exact hlen, fun j v x hv hx => hs2 j v x hv (by rw [Nat.zero_add]; exact hx)⟩
  · simp at hc

omit hs in
/-- The cells that a copy takes, as they lie in memory. -/
theorem firstCells_ok {sz : Nat} {A : Value} {ml : List V} {len : Nat} (h : Src φ (CxOf w O loc) w ml len A)
    (hl : ml.length = len * sz) {q : Nat} (hq : q ≤ len) :
    ∃ X : Array Value, (Go.Builtin.firstCells sz q A).run P w = .ok X w ∧ VRa φ (CxOf w O loc) (ml.take (q * sz)) X := by
  rcases h with ⟨rfl, rfl, rfl⟩ | ⟨ad, cap, rfl, ⟨rfl, rfl⟩ | ⟨b, o, rfl, y, hy1, hy2⟩⟩
  · exact ⟨#[], by simp [Go.Builtin.firstCells], by simp [VRa]⟩
  · have : q = 0 := by omega
    subst this
    exact ⟨#[], by simp [Go.Builtin.firstCells, Go.loadCells, Go.loadCellsFrom], by simp [VRa]⟩
  · have hle : q * sz ≤ len * sz := Nat.mul_le_mul_right sz hq
    refine ⟨((List.range (q * sz)).map y).toArray, ?_, ?_⟩
    · simp only [Go.Builtin.firstCells]
      exact Go.run_loadCells w ⟨b, o, none⟩ (q * sz) y (fun j hj => by rw [addr_add]; exact hy1 j (by omega))
    · refine ⟨by simp; omega, fun j h1 h2 => ?_⟩
      simp at h1 h2
      simp only [List.getElem_take, List.getElem_toArray, List.getElem_map, List.getElem_range]
      exact hy2 _ _

omit hs in
theorem all_cellV_one {c : Cx} {ml : List V} {X : Array Value} (h : VRa φ c ml X) (hc : ml.all cellV = true) : ∀ v ∈ X.toList, v.oneCell' = true := by
  intro v hv
  obtain ⟨j, hj, rfl⟩ := List.getElem_of_mem hv
  simp at hj
  have hjl : j < ml.length := by rw [h.1]; exact hj
  rw [List.all_eq_true] at hc
  have h1 := hc _ (List.getElem_mem hjl)
  have h2 := h.2 j hjl hj
  rw [Array.getElem_toList]
  generalize X[j] = x at h2
  generalize ml[j] = u at h1 h2
  cases h2 <;> first | rfl | (simp [cellV] at h1; done)

omit hs in
theorem splice_copy (l m : List V) (o : Nat) (h : o + m.length ≤ l.length) : (l.take o ++ m ++ l.drop (o + m.length)).length = l.length ∧
    ∀ k : Nat, (l.take o ++ m ++ l.drop (o + m.length))[k]? = if o ≤ k ∧ k < o + m.length then m[k - o]? else l[k]? := by
  refine ⟨by simp; omega, fun k => ?_⟩
  by_cases h1 : k < o
  · rw [if_neg (by omega), List.append_assoc, List.getElem?_append_left (by simp; omega), List.getElem?_take_of_lt h1]
  · by_cases h2 : k < o + m.length
    · rw [if_pos ⟨by omega, h2⟩, List.append_assoc, List.getElem?_append_right (by simp; omega), List.getElem?_append_left (by simp; omega)]
      congr 1; simp; omega
    · rw [if_neg (by omega), List.append_assoc, List.getElem?_append_right (by simp; omega), List.getElem?_append_right (by simp; omega), List.getElem?_drop]
      congr 1; simp; omega

end
end Mir

namespace Mir
open Go (Value Addr IntKind World Obj Act Program FuncId TypeId Operand Op Oper Code TypeDesc Sem Result)

section
variable {P : Program} {φ : Nat → Option FuncId} {ψ : Prim → FuncId → Bool} {B : Base} {n : Nat} {st : St} {a : Act} {w : World} {O : Nat → Prop} {loc : List (Nat × Nat)} {D : List Nat}
variable (hs : Sim φ B n st a w O loc D) {o : Oper} {c : Call} {v : V} {h' : Heap}
include hs

/-- What a copy or an append reads: of a slice (of a local variable too) its cells. -/
theorem source_ok {X : V} {A : Value} (hx : VL φ (CxOf w O loc) a.tmps X A) {rs : List Nat} {ml : List V} (hl : sliceCellsL st.e st.h rs X = some ml) {len : Nat} (hlen : lenV X = some len) :
    Src φ (CxOf w O loc) w ml len A := by
  have gen : sliceCells st.h X = some ml → Src φ (CxOf w O loc) w ml len A := fun hl => by
    rcases sliceCells_ok hs hx (.inl rfl) hl with ⟨h1, h2, h3⟩ | ⟨ad, len', cap, h1, h2, h3⟩
    · rw [hlen] at h3; simp at h3
      exact .inl ⟨h1, h2, h3⟩
    · rw [hlen] at h2; simp at h2; subst h2
      exact .inr ⟨ad, cap, h1, h3⟩
  cases X <;> first | exact gen hl | skip
  rename_i sz s off m cap
  simp only [sliceCellsL] at hl
  split at hl
  · split at hl
    · rename_i l hg
      split at hl
      · rename_i hle
        simp only [Option.some.injEq] at hl
        simp only [lenV, Option.some.injEq] at hlen
        subst hlen
        obtain ⟨b, ad, cap', hb, rfl, g2, g3, g4⟩ := hx
        obtain ⟨b', hb', _, cs, T, fz, _, _, _, y, hy1, hy2⟩ := loc_ok hs hg
        rw [hb] at hb'; simp at hb'; subst hb'
        rcases Nat.eq_zero_or_pos cap' with h0 | h0
        · have : m = 0 := by omega
          subst this
          exact .inr ⟨ad, cap', rfl, .inl ⟨by rw [← hl]; simp, rfl⟩⟩
        · refine .inr ⟨ad, cap', rfl, .inr ⟨b, off, g4 h0, fun j => y (off + j), fun j hj => ?_, fun j hj => ?_⟩⟩
          · rw [← hl] at hj
            simp at hj
            exact hy1 _ (by omega)
          · have hj2 := hj
            rw [← hl] at hj2
            simp at hj2
            have : ml[j] = l[off + j] := by subst hl; simp
            rw [this]
            exact hy2 _ _
      · simp at hl
    · simp at hl
  · simp at hl

omit hs in
theorem run_copy {args : Array Operand} {ts : Array TypeId} (ho : o.op = .call { callee := .builtin .copy, args := args, argTypes := ts }) {x' y' : Operand} (hargs : args.toList = [x', y'])
    {s : TypeId} {rest : List TypeId} (hts : ts.toList = s :: rest) {e : TypeId} (hse : sliceT P s = some e) {sz : Nat} (hsz : sizeT P e = some sz) {ad : Addr} {dLen dCap : Nat} (hA : a.eval x' = .slice (some ad) dLen dCap)
    {sLen : Nat} (hB : (a.eval y' = .slice none 0 0 ∧ sLen = 0) ∨ ∃ ad cap, a.eval y' = .slice (some ad) sLen cap) {X : Array Value} (hX : (Go.Builtin.firstCells sz (min sLen dLen) (a.eval y')).run P w = .ok X w)
    {w' : World} (hst : (Go.storeCells ad X.toList 0).run P w = .ok () w') : (Go.execOp a.eval o).run P w = .ok (.value (.int .i64 (min sLen dLen : Nat))) w' := by
  obtain ⟨ks, hrun⟩ := run_bi (P := P) (a := a) (w := w) ho hargs
  rw [hrun]
  have hlen : ∀ w, (Go.Builtin.lenOf (a.eval y')).run P w = .ok sLen w := by
    intro w
    rcases hB with ⟨hB, rfl⟩ | ⟨ad, cap, hB⟩ <;> rw [hB] <;> rfl
  simp only [Go.builtin, Go.Builtin.copy_, List.map_cons, List.map_nil, List.getElem?_toArray, List.getElem?_cons_zero, List.getElem?_cons_succ, ts0 hts, hA, Go.Sem.run_bind, run_und (sliceT_und hse), Result.andThen_ok, run_size hsz, hlen]
  have hX' : (Go.Builtin.firstCells sz (Nat.min sLen dLen) (a.eval y')).run P w = .ok X w := hX
  simp only [hX', Result.andThen_ok, hst, Go.Sem.run_pure, Go.goInt]

theorem cpy_step {sz : Nat} {x y : Opd} (hc : chkOp P φ ψ o.op (.cpy sz x y) = true) (he : evalO c (.cpy sz x y) st.e st.h = some (v, h')) (hd : ∀ d, o.dst = some d → d < n ∧ d ∉ D ++ []) :
    StepOk P φ B n o a w ⟨put o.dst v st.e, h'⟩ (D ++ []) := by
  intro K Q hK
  simp only [chkOp] at hc
  split at hc
  · rename_i bi args ts ho
    simp only [chkBuiltin, Bool.and_eq_true, beq_iff_eq] at hc
    obtain ⟨⟨rfl, h1⟩, ht⟩ := hc
    obtain ⟨x', y', hargs, h1, h2⟩ := chkXs_two h1
    split at ht
    · rename_i s rest hts
      split at ht
      · rename_i e hse
        simp only [beq_iff_eq] at ht
        have hx := ev_VL hs h1
        have hy := ev_VL hs h2
        simp only [evalO] at he
        split at he
        · rename_i sz' k off len cap m b hX hm hb
          split at he
          · rename_i hcond
            obtain ⟨rfl, hml, hmc, hb63⟩ := hcond
            split at he
            · rename_i l hl
              split at he
              · rename_i hle
                simp only [Option.some.injEq, Prod.mk.injEq] at he
                obtain ⟨rfl, rfl⟩ := he
                rw [hX] at hx
                obtain ⟨b0, δ, cs, T, fz, hloc, hown, hrow⟩ := hs.heap.rows k l hl
                simp only [CxOf] at hloc hown
                have hsrc := source_ok hs hy (rs := []) (ml := m) (len := b) (by
                  have : sliceCellsL st.e st.h [] (ev st.e y) = sliceCells st.h (ev st.e y) := by
                    cases hv : ev st.e y <;> simp [sliceCellsL, sliceCells]
                  rw [this]; exact hm) hb
                obtain ⟨X, hX1, hX2⟩ := firstCells_ok (P := P) hsrc hml (q := min b len) (Nat.min_le_left _ _)
                generalize hA : a.eval x' = A at hx
                cases hx with
                | hs _ _ _ _ _ b' δ' cap' ad g1 g2 g3 g4 =>
                  simp only [CxOf] at g1
                  rw [hloc] at g1; simp at g1
                  obtain ⟨rfl, rfl⟩ := g1
                  have hmin : min b len * sz' ≤ len * sz' := Nat.mul_le_mul_right sz' (Nat.min_le_right _ _)
                  have hminb : min b len * sz' ≤ b * sz' := Nat.mul_le_mul_right sz' (Nat.min_le_left _ _)
                  have htl : (m.take (min b len * sz')).length = min b len * sz' := by rw [List.length_take]; omega
                  obtain ⟨l1, l2⟩ := VRa_list hX2
                  have hone := all_cellV_one hX2 (by rw [List.all_eq_true] at hmc ⊢; exact fun z hz => hmc z (List.mem_of_mem_take hz))
                  obtain ⟨sp1, sp2⟩ := splice_copy l (m.take (min b len * sz')) off (by omega)
                  rw [htl] at sp1 sp2
                  have fin : (∃ cs' : Array Value, (Go.storeCells ad X.toList 0).run P w = .ok () (w.setRow b0 cs') ∧ cs'.size = cs.size ∧
                      (∀ (j : Nat) v x, (l.take off ++ m.take (min b len * sz') ++ l.drop (off + min b len * sz'))[j]? = some v → cs'[δ + j]? = some x → VR φ (CxOf w O loc) v x)) → o.wp P a w K Q := by
                    rintro ⟨cs', hst, hz1, hz2⟩
                    have hrun := run_copy (P := P) ho hargs hts hse ht hA (by
                      rcases hsrc with ⟨e1, _, e2⟩ | ⟨ad, cap, e1, _⟩
                      · exact .inl ⟨e1, e2⟩
                      · exact .inr ⟨ad, cap, e1⟩) hX1 hst
                    exact wp_val hrun (hK _ _ _ _ (put_step (hs.store_row hl hloc hrow hown hz1 sp1 hz2) (VL_of_VR (.i _ (by omega) (by omega))) [] (LpIn.plain (by simp) (by simp)) hd))
                  rcases Nat.eq_zero_or_pos cap' with h0 | h0
                  · have hlen0 : len = 0 := by omega
                    subst hlen0
                    refine fin ⟨cs, ?_, rfl, ?_⟩
                    · have hXe : X.toList = [] := by
                        have := l1; rw [htl] at this
                        simp at this
                        simpa using (Array.size_eq_zero_iff.1 this.symm)
                      rw [hXe, Go.setRow_self w b0 cs T fz hrow.block]
                      rfl
                    · intro j v x hv hx
                      simp at hv
                      obtain ⟨hj, rfl⟩ := List.getElem?_eq_some_iff.1 hv
                      obtain ⟨hj2, rfl⟩ := Array.getElem?_eq_some_iff.1 hx
                      exact hrow.cell j hj hj2
                  · refine fin ?_
                    rw [(g4 h0).1]
                    obtain ⟨cs', hcs', hz1, hz2⟩ := write_cells hrow (C := m.take (min b len * sz')) l1 l2 (o := off) (l' := l.take off ++ m.take (min b len * sz') ++ l.drop (off + min b len * sz')) (by omega) (by rw [htl]; exact ⟨sp1, sp2⟩)
                    have hst := storeCells_ok (P := P) b0 (δ + off) T fz X.toList 0 cs w hrow.block (by have := hrow.room; omega) hrow.free hone
                    simp only [Nat.add_zero] at hst
                    rw [← hcs'] at hst
                    exact ⟨cs', hst, hz1, hz2⟩
              · simp at he
            · simp at he
          · simp at he
        · simp at he
      · simp at ht
    · simp at ht
  · simp at hc

theorem cpyl_step {s sz : Nat} {rs : List Nat} {x y : Opd} (hc : chkOp P φ ψ o.op (.cpyl s sz rs x y) = true) {off len cap : Nat} (hX : ev st.e x = .ls sz s off len cap) {l m : List V} {b : Nat}
    (hg : get st.e s = .loc l) (hm : sliceCellsL st.e st.h rs (ev st.e y) = some m) (hb : lenV (ev st.e y) = some b) (hcond : m.length = b * sz ∧ m.all cellV ∧ off + len * sz ≤ l.length ∧ b < 9223372036854775808)
    (hd : ∀ d, o.dst = some d → d < n ∧ d ∉ D ++ []) :
    StepOk P φ B n o a w ⟨put o.dst (.i (min b len : Nat)) ((s, .loc (l.take off ++ m.take (min b len * sz) ++ l.drop (off + min b len * sz))) :: st.e), st.h⟩ (D ++ []) := by
  intro K Q hK
  simp only [chkOp] at hc
  split at hc
  · rename_i bi args ts ho
    simp only [chkBuiltin, Bool.and_eq_true, beq_iff_eq] at hc
    obtain ⟨⟨rfl, h1⟩, ht⟩ := hc
    obtain ⟨x', y', hargs, h1, h2⟩ := chkXs_two h1
    split at ht
    · rename_i s' rest hts
      split at ht
      · rename_i e hse
        simp only [beq_iff_eq] at ht
        have hx := ev_VL hs h1
        have hy := ev_VL hs h2
        obtain ⟨hml, hmc, hle, hb63⟩ := hcond
        rw [hX] at hx
        obtain ⟨b0, ad, cap', hb0, hA, g2, g3, g4⟩ := hx
        have he := hs.env s
        simp only [hg, ER] at he
        obtain ⟨b1, cs, T, fz, hb1, hown, hlen, hrow⟩ := he
        rw [hb0] at hb1; simp at hb1; subst hb1
        have hsrc := source_ok hs hy hm hb
        obtain ⟨X, hX1, hX2⟩ := firstCells_ok (P := P) hsrc hml (q := min b len) (Nat.min_le_left _ _)
        have hmin : min b len * sz ≤ len * sz := Nat.mul_le_mul_right sz (Nat.min_le_right _ _)
        have hminb : min b len * sz ≤ b * sz := Nat.mul_le_mul_right sz (Nat.min_le_left _ _)
        have htl : (m.take (min b len * sz)).length = min b len * sz := by rw [List.length_take]; omega
        obtain ⟨l1, l2⟩ := VRa_list hX2
        have hone := all_cellV_one hX2 (by rw [List.all_eq_true] at hmc ⊢; exact fun z hz => hmc z (List.mem_of_mem_take hz))
        obtain ⟨sp1, sp2⟩ := splice_copy l (m.take (min b len * sz)) off (by omega)
        rw [htl] at sp1 sp2
        have fin : (∃ cs' : Array Value, (Go.storeCells ad X.toList 0).run P w = .ok () (w.setRow b0 cs') ∧ cs'.size = cs.size ∧
            (∀ (j : Nat) v x, (l.take off ++ m.take (min b len * sz) ++ l.drop (off + min b len * sz))[j]? = some v → cs'[0 + j]? = some x → VR φ (CxOf w O loc) v x)) → o.wp P a w K Q := by
          rintro ⟨cs', hst, hz1, hz2⟩
          have hrun := run_copy (P := P) ho hargs hts hse ht hA (by
            rcases hsrc with ⟨e1, _, e2⟩ | ⟨ad, cap, e1, _⟩
            · exact .inl ⟨e1, e2⟩
            · exact .inr ⟨ad, cap, e1⟩) hX1 hst
          have hs' := hs.store_loc (l' := l.take off ++ m.take (min b len * sz) ++ l.drop (off + min b len * sz)) hg hb0 hrow.block hrow.free hz1 (by
            rw [VRa_iff]
            exact ⟨by rw [sp1, hz1]; exact hlen, fun j v x hv hx => hz2 j v x hv (by rw [Nat.zero_add]; exact hx)⟩)
          exact wp_val hrun (hK _ _ _ _ (put_step hs' (VL_of_VR (.i _ (by omega) (by omega))) [] (LpIn.plain (by simp) (by simp)) hd))
        rcases Nat.eq_zero_or_pos cap' with h0 | h0
        · have hlen0 : len = 0 := by omega
          subst hlen0
          refine fin ⟨cs, ?_, rfl, ?_⟩
          · have hXe : X.toList = [] := by
              have := l1; rw [htl] at this
              simp at this
              simpa using (Array.size_eq_zero_iff.1 this.symm)
            rw [hXe, Go.setRow_self w b0 cs T fz hrow.block]
            rfl
          · intro j v x hv hx
            simp at hv
            obtain ⟨hj, rfl⟩ := List.getElem?_eq_some_iff.1 hv
            obtain ⟨hj2, rfl⟩ := Array.getElem?_eq_some_iff.1 hx
            exact hrow.cell j hj hj2
        · refine fin ?_
          rw [g4 h0]
          obtain ⟨cs', hcs', hz1, hz2⟩ := write_cells hrow (C := m.take (min b len * sz)) l1 l2 (o := off) (l' := l.take off ++ m.take (min b len * sz) ++ l.drop (off + min b len * sz)) (by omega) (by rw [htl]; exact ⟨sp1, sp2⟩)
          have hst := storeCells_ok (P := P) b0 (0 + off) T fz X.toList 0 cs w hrow.block (by have := hrow.room; omega) hrow.free hone
          simp only [Nat.add_zero] at hst
          rw [← hcs', Nat.zero_add] at hst
          exact ⟨cs', hst, hz1, hz2⟩
      · simp at ht
    · simp at ht
  · simp at hc

end
end Mir

namespace Mir
open Go (Value Addr IntKind World Obj Act Program FuncId TypeId Operand Op Oper Code TypeDesc Sem Result)

section
variable {P : Program} {φ : Nat → Option FuncId} {ψ : Prim → FuncId → Bool} {B : Base} {n : Nat} {st : St} {a : Act} {w : World} {O : Nat → Prop} {loc : List (Nat × Nat)} {D : List Nat}

theorem Src.drew {c : Cx} {ml : List V} {len : Nat} {A : Value} (h : Src φ c w ml len A) : Src φ c w.drew ml len A := h

theorem lenOf_src {c : Cx} {ml : List V} {len : Nat} {A : Value} (h : Src φ c w ml len A) (w' : World) : (Go.Builtin.lenOf A).run P w' = .ok len w' := by
  rcases h with ⟨rfl, _, rfl⟩ | ⟨ad, cap, rfl, _⟩ <;> rfl

/-- What an append reads: a slice or a string. -/
def SrcA (φ : Nat → Option FuncId) (c : Cx) (w : World) (ml : List V) (len : Nat) (A : Value) : Prop :=
  Src φ c w ml len A ∨ ∃ s : ByteArray, A = .string s ∧ len = s.size ∧ ml = (s.data.toList.map UInt8.toNat).map (V.u 8)

theorem SrcA.drew {c : Cx} {ml : List V} {len : Nat} {A : Value} (h : SrcA φ c w ml len A) : SrcA φ c w.drew ml len A := h

theorem lenOf_srcA {c : Cx} {ml : List V} {len : Nat} {A : Value} (h : SrcA φ c w ml len A) (w' : World) : (Go.Builtin.lenOf A).run P w' = .ok len w' := by
  rcases h with h | ⟨s, rfl, rfl, rfl⟩
  · exact lenOf_src h w'
  · rfl

theorem firstCells_okA {sz : Nat} {A : Value} {ml : List V} {len : Nat} (h : SrcA φ (CxOf w O loc) w ml len A) (hl : ml.length = len * sz) {q : Nat} (hq : q = len) :
    ∃ X : Array Value, (Go.Builtin.firstCells sz q A).run P w = .ok X w ∧ VRa φ (CxOf w O loc) ml X := by
  subst hq
  rcases h with h | ⟨s, rfl, rfl, rfl⟩
  · obtain ⟨X, h1, h2⟩ := firstCells_ok (P := P) h hl (q := q) (Nat.le_refl _)
    rw [List.take_of_length_le (by omega)] at h2
    exact ⟨X, h1, h2⟩
  · refine ⟨s.data.map fun b => .int .u8 b.toNat, ?_, ?_⟩
    · have : s.extract 0 s.size = s := ByteArray.extract_zero_size
      simp only [Go.Builtin.firstCells, Go.Sem.run_pure, this]
    · refine ⟨by simp, fun j h1 h2 => ?_⟩
      simp at h1 h2
      simp only [List.getElem_map, Array.getElem_map, Array.getElem_toList]
      exact VR.u 8 _ .u8 rfl (by have := s.data[j].toNat_lt; simpa using this)

theorem undA {t : TypeId} (h : ((sliceT P t).isSome || strT P t) = true) : P.underlying t = some .string ∨ ∃ te, P.underlying t = some (.slice te) := by
  rw [Bool.or_eq_true] at h
  rcases h with h | h
  · obtain ⟨te, h⟩ := Option.isSome_iff_exists.1 h
    exact .inr ⟨_, sliceT_und h⟩
  · exact .inl (strT_und h)

/-- An append with room. -/
theorem run_app_room {ts : Array TypeId} {ty s t e : TypeId} (hts : ts.toList = [s, t]) (hse : sliceT P s = some e) (hte : P.underlying t = some .string ∨ ∃ te, P.underlying t = some (.slice te)) {sz : Nat} (hsz : sizeT P e = some sz)
    {A : Value} {base : Option Addr} {len cap : Nat} {b : Nat} (hcap : len + b ≤ cap) (hlen : ∀ w', (Go.Builtin.lenOf A).run P w' = .ok b w') {X : Array Value}
    (hX : (Go.Builtin.firstCells sz b A).run P w = .ok X w) {w' : World} (hst : ∀ ad, base = some ad → (Go.storeCells (ad.add (len * sz)) X.toList 0).run P w = .ok () w') (hb : base = none → w' = w) :
    (Go.Builtin.append_ ts ty #[.slice base len cap, A]).run P w = .ok (.slice base (len + b) cap) w' := by
  have h0 : ts[0]? = some s := ts0 hts
  have h1 : ts[1]? = some t := by
    have h2 : ts.toList[1]? = some t := by rw [hts]; rfl
    simpa using h2
  rcases hte with hte | ⟨te, hte⟩
  all_goals
    cases base with
    | none =>
      simp [Go.Builtin.append_, h0, h1, run_und (sliceT_und hse), run_und hte, run_size hsz, hlen, hcap, hX, hb rfl]
    | some ad =>
      simp [Go.Builtin.append_, h0, h1, run_und (sliceT_und hse), run_und hte, run_size hsz, hlen, hcap, hX, hst ad rfl]

/-- An append that makes a new row. -/
theorem run_app_grow {ts : Array TypeId} {ty s t e : TypeId} (hts : ts.toList = [s, t]) (hse : sliceT P s = some e) (hte : P.underlying t = some .string ∨ ∃ te, P.underlying t = some (.slice te)) {sz : Nat} (hsz : sizeT P e = some sz)
    {bytes : Nat} (hby : bytesT P e = some bytes) (hb0 : 0 < bytes) {A : Value} {base : Option Addr} {len cap : Nat} {b : Nat} (hcap : cap < len + b) (hlen : ∀ w', (Go.Builtin.lenOf A).run P w' = .ok b w') {X Y : Array Value}
    (hY : (Go.Builtin.firstCells sz len (.slice base len cap)).run P w.drew = .ok Y w.drew) (hX : (Go.Builtin.firstCells sz b A).run P w.drew = .ok X w.drew) (hroom : (len + b) * bytes ≤ 140737488355328)
    {zv : Value} (hz : (P.info? e).bind (·.zero) = some zv) :
    ∃ (nc : Nat) (rest : Array Value), len + b ≤ nc ∧ rest.size = (nc - (len + b)) * zv.cells.size ∧ (Go.Builtin.append_ ts ty #[.slice base len cap, A]).run P w =
      .ok (.slice (some ⟨w.heap.size, 0, none⟩) (len + b) nc) (w.drew.alloc (.cells (Y ++ X ++ rest) e)) := by
  have h0 : ts[0]? = some s := ts0 hts
  have h1 : ts[1]? = some t := by
    have h2 : ts.toList[1]? = some t := by rw [hts]; rfl
    simpa using h2
  obtain ⟨it, hi, hib⟩ := bytesT_info hby
  have hzv : it.zero = some zv := by simpa [hi] using hz
  have hnc : ¬ len + b ≤ cap := by omega
  have hby0 : ¬ bytes = 0 := by omega
  have hfit := Go.growslice_fits (old := cap) (need := len + b) (bytes := bytes) hcap hroom
  have hfit' : ¬ (281474976710656 < Go.Builtin.nextslicecap (len + b) cap * bytes) := by omega
  refine ⟨(Go.Question.appendCap (len + b) cap e).cut (w.tape w.drawn (.appendCap (len + b) cap e)), Go.Builtin.zeroCells zv.cells ((Go.Question.appendCap (len + b) cap e).cut (w.tape w.drawn (.appendCap (len + b) cap e)) - (len + b)), by simp [Go.Question.cut], by simp [Go.Builtin.zeroCells], ?_⟩
  rcases hte with hte | ⟨te, hte⟩ <;>
  simp [Go.Builtin.append_, h0, h1, run_und (sliceT_und hse), run_und hte, run_size hsz, hlen, hnc, Go.typeInfo, hi, hib, hby0, hfit', Go.Question.forced, hX, hY, Go.zeroValue, hzv, Go.newRow]

variable (hs : Sim φ B n st a w O loc D) {o : Oper} {c : Call} {v : V} {h' : Heap}
include hs

theorem app_step {sz bytes : Nat} {x y : Opd} (hc : chkOp P φ ψ o.op (.app sz bytes x y) = true) (he : evalO c (.app sz bytes x y) st.e st.h = some (v, h')) (hd : ∀ d, o.dst = some d → d < n ∧ d ∉ D ++ []) :
    StepOk P φ B n o a w ⟨put o.dst v st.e, h'⟩ (D ++ []) := by
  intro K Q hK
  simp only [chkOp] at hc
  split at hc
  · rename_i bi args ts ho
    simp only [chkBuiltin, Bool.and_eq_true, beq_iff_eq] at hc
    obtain ⟨⟨rfl, h1⟩, ht⟩ := hc
    obtain ⟨x', y', hargs, h1, h2⟩ := chkXs_two h1
    split at ht
    · rename_i s t hts
      split at ht
      · rename_i e hse
        simp only [Bool.and_eq_true, beq_iff_eq, decide_eq_true_eq] at ht
        obtain ⟨⟨⟨⟨hsz, hby⟩, hb0⟩, hte⟩, hzs⟩ := ht
        have hte := undA hte
        split at hzs
        · rename_i zv hz
          simp only [beq_iff_eq] at hzs
          have hx := ev_VL hs h1
          have hy := ev_VL hs h2
          obtain ⟨ks, hrun⟩ := run_bi (P := P) (a := a) (w := w) ho hargs
          simp only [Go.builtin, List.map_cons, List.map_nil] at hrun
          simp only [evalO] at he
          split at he
          · rename_i m b hm hb
            have hsrc : SrcA φ (CxOf w O loc) w m b (a.eval y') := by
              have gen : sliceCells st.h (ev st.e y) = some m → lenV (ev st.e y) = some b → SrcA φ (CxOf w O loc) w m b (a.eval y') := fun hm hb => .inl (source_ok hs hy (rs := []) (ml := m) (len := b) (by
                have : sliceCellsL st.e st.h [] (ev st.e y) = sliceCells st.h (ev st.e y) := by
                  cases hv : ev st.e y <;> simp [sliceCellsL, sliceCells]
                rw [this]; exact hm) hb)
              generalize ev st.e y = Y at hm hb hy gen
              cases Y <;> first | exact gen hm hb | skip
              simp only [appC, appL, Option.some.injEq] at hm hb
              subst hm; subst hb
              have hy' : VR φ (CxOf w O loc) _ _ := hy
              generalize a.eval y' = A at hy'
              cases hy' with
              | s l ba h => exact .inr ⟨ba, rfl, by rw [← h, List.length_map, Array.length_toList]; rfl, by rw [h]⟩
            have hlenA : ∀ w', (Go.Builtin.lenOf (a.eval y')).run P w' = .ok b w' := lenOf_srcA hsrc
            have done : ∀ V w', (Go.Builtin.append_ ts o.type #[a.eval x', a.eval y']).run P w = .ok V w' → (Go.execOp a.eval o).run P w = .ok (.value V) w' := by
              intro V w' h
              rw [hrun]
              simp [h]
            split at he
            · -- onto nil
              rename_i hX
              have hA : a.eval x' = .slice none 0 0 := by
                rw [hX] at hx
                generalize a.eval x' = A at hx
                cases hx; rfl
              split at he
              · rename_i hb00
                subst hb00
                simp only [Option.some.injEq, Prod.mk.injEq] at he
                obtain ⟨rfl, rfl⟩ := he
                have hX0 : (Go.Builtin.firstCells sz 0 (a.eval y')).run P w = .ok #[] w := by
                  rcases hsrc with (⟨e1, _, _⟩ | ⟨ad, cap, e1, _⟩) | ⟨ba, e1, e2, _⟩
                  · rw [e1]; simp [Go.Builtin.firstCells]
                  · rw [e1]; simp [Go.Builtin.firstCells, Go.loadCells, Go.loadCellsFrom]
                  · rw [e1]
                    have h3 : ba.extract 0 0 = ByteArray.empty := by simp
                    have h4 : ByteArray.empty.data = #[] := rfl
                    simp only [Go.Builtin.firstCells, h3, Go.Sem.run_pure, h4, Array.map_empty]
                have hr := run_app_room (P := P) (w := w) (ty := o.type) hts hse hte hsz (A := a.eval y') (base := none) (len := 0) (cap := 0) (b := 0) (Nat.le_refl _) hlenA hX0 (w' := w) (by simp) (fun _ => rfl)
                rw [← hA] at hr
                exact wp_val (done _ _ hr) (hK _ _ _ _ (hA ▸ put_step hs (VL_of_VR VR.nils) [] (LpIn.plain (by simp) (by simp)) hd))
              · rename_i hb00
                split at he
                · rename_i hcond
                  obtain ⟨hroom, hml, hmc⟩ := hcond
                  simp only [Option.some.injEq, Prod.mk.injEq] at he
                  obtain ⟨rfl, rfl⟩ := he
                  simp only [roomOk, decide_eq_true_eq] at hroom
                  obtain ⟨X, hX1, hX2⟩ := firstCells_okA (P := P) (hsrc.drew) hml (q := b) rfl
                  obtain ⟨nc, rest, hnc, hrest, hr⟩ := run_app_grow (P := P) (w := w) (ty := o.type) hts hse hte hsz hby hb0 (A := a.eval y') (base := none) (len := 0) (cap := 0) (b := b) (by omega) hlenA (X := X) (Y := #[]) (by simp [Go.Builtin.firstCells]) hX1 (by simpa using hroom) hz
                  rw [← hA] at hr
                  have hXs : X.size = b * sz := by rw [← hX2.1]; exact hml
                  have hcs : (#[] ++ X ++ rest).size = nc * sz := by
                    have : b * sz + (nc - b) * sz = nc * sz := by rw [← Nat.add_mul]; congr 1; omega
                    simp [hXs, hrest, hzs]; exact this
                  have h1' := hs.drew.alloc_row (l := m) (cs := #[] ++ X ++ rest) (T := e) (fz := (0, 0)) (by simp [hXs]; omega) (fun j v x hv hx => by
                    have hj := (List.getElem?_eq_some_iff.1 hv).1
                    refine (VRa_iff.1 hX2).2 j v x hv ?_
                    simp only [Array.empty_append] at hx
                    rwa [Array.getElem?_append_left (by omega)] at hx) (fun j _ h => by simp at h)
                  refine wp_val (done _ _ hr) (hK _ _ _ _ (put_step h1' (VL_of_VR ?_) [] (LpIn.plain (by simp) (by simp)) hd))
                  simp only [Nat.zero_add]
                  exact VR.hs_new hs.drew _ e (0, 0) sz b b nc (Nat.le_refl _) (by omega) (by rw [hcs]; exact Nat.le_refl _)
                · simp at he
            · -- onto a row
              rename_i sz' k off len cap hX
              split at he
              · rename_i r hr
                split at he
                · rename_i hcond
                  obtain ⟨rfl, hle, hroom, hml, hmc⟩ := hcond
                  simp only [Option.some.injEq, Prod.mk.injEq] at he
                  obtain ⟨rfl, rfl⟩ := he
                  simp only [roomOk, decide_eq_true_eq] at hroom
                  obtain ⟨b0, δ, cs, T, fz, hloc, hown, hrow⟩ := hs.heap.rows k r hr
                  simp only [CxOf] at hloc hown
                  obtain ⟨yc, hy1, hy2⟩ := hrow.cells (w := w) rfl
                  have hrl := hrow.room
                  have hsl : ((r.drop off).take (len * sz')).length = len * sz' := by simp; omega
                  rw [hX] at hx
                  generalize hA : a.eval x' = A at hx
                  cases hx with
                  | hs _ _ _ _ _ b' δ' cap' ad g1 g2 g3 g4 =>
                    simp only [CxOf] at g1
                    rw [hloc] at g1; simp at g1
                    obtain ⟨rfl, rfl⟩ := g1
                    have hkill := hs.kill k
                    have hfree := hs.free_of_kill hr hloc
                    have hk0 : (st.h.set k none).length = st.h.length := by simp
                    by_cases hin : len + b ≤ cap'
                    · -- there is room
                      obtain ⟨X, hX1, hX2⟩ := firstCells_okA (P := P) hsrc hml (q := b) rfl
                      have hXs : X.toList.length = b * sz' := by have := hX2.1; simp; omega
                      have hone := all_cellV_one hX2 hmc
                      have fin : ∀ (cs' : Array Value), (Go.storeCells (ad.add (len * sz')) X.toList 0).run P w = .ok () (w.setRow b0 cs') → cs'.size = cs.size → δ + off + (len + b) * sz' ≤ cs.size →
                          (∀ (j : Nat) v x, ((r.drop off).take (len * sz') ++ m)[j]? = some v → cs'[δ + off + j]? = some x → VR φ (CxOf w O loc) v x) → o.wp P a w K Q := by
                        intro cs' hst hz1 hroom2 hz2
                        have hr' := run_app_room (P := P) (w := w) (ty := o.type) hts hse hte hsz (A := a.eval y') (base := some ad) (len := len) (cap := cap') (b := b) hin hlenA hX1 (w' := w.setRow b0 cs') (fun ad' e1 => by cases e1; exact hst) (by simp)
                        rw [← hA] at hr'
                        have h1' := hkill.take_row hfree (l := (r.drop off).take (len * sz') ++ m) (cs' := cs') (δ := δ + off) hrow.block hz1 (by
                          rw [List.length_append, hsl, hml, ← Nat.add_mul]; exact hroom2) hrow.free hz2
                        refine wp_val (done _ _ hr') (hK _ _ _ _ (put_step h1' (VL_of_VR ?_) [] (LpIn.plain (by simp) (by simp)) hd))
                        have hlen := hs.heap.len
                        simp only [CxOf] at hlen
                        refine VR.hs _ _ _ _ _ b0 (δ + off) _ _ (by simp [CxOf, hlen]) (Nat.le_refl _) hin (fun h => ⟨by simpa using (g4 h).1, ?_⟩)
                        have h5 := (g4 h).2
                        have h6 := hrow.block
                        simp only [bsize, h6] at h5
                        have h7 := Go.setRow_heap w b0 cs cs' T fz hrow.block
                        simp only [bsize, CxOf, h7, hz1]
                        simpa using h5
                      rcases Nat.eq_zero_or_pos cap' with h0 | h0
                      · have hl0 : len = 0 := by omega
                        have hb0' : b = 0 := by omega
                        subst hl0; subst hb0'
                        have hXe : X.toList = [] := by
                          have : X.toList.length = 0 := by simpa using hXs
                          exact List.eq_nil_of_length_eq_zero this
                        have hme : m = [] := List.eq_nil_of_length_eq_zero (by simpa using hml)
                        refine fin cs ?_ rfl (by simp; omega) ?_
                        · rw [hXe, Go.setRow_self w b0 cs T fz hrow.block]
                          rfl
                        · intro j v x hv hx
                          simp [hme] at hv
                      · obtain ⟨g5, g6⟩ := g4 h0
                        have h6 := hrow.block
                        simp only [bsize, h6] at g6
                        have hmul : (len + b) * sz' ≤ cap' * sz' := Nat.mul_le_mul_right sz' hin
                        rw [Nat.add_mul] at hmul
                        obtain ⟨s1, s2⟩ := seg_get cs (δ + off + len * sz') X.toList (by omega)
                        have hst := storeCells_ok (P := P) b0 (δ + off + len * sz') T fz X.toList 0 cs w hrow.block (by omega) hrow.free hone
                        simp only [Nat.add_zero] at hst
                        refine fin _ (by rw [g5, addr_add]; exact hst) s1 (by rw [Nat.add_mul]; omega) ?_
                        intro j v x hv hx
                        rw [s2] at hx
                        by_cases hj : j < len * sz'
                        · rw [List.getElem?_append_left (by omega)] at hv
                          rw [if_neg (by omega)] at hx
                          have hv2 : r[off + j]? = some v := by
                            rw [List.getElem?_take_of_lt hj, List.getElem?_drop] at hv; exact hv
                          obtain ⟨hjl, rfl⟩ := List.getElem?_eq_some_iff.1 hv2
                          obtain ⟨hjc, rfl⟩ := Array.getElem?_eq_some_iff.1 hx
                          have := hrow.cell (off + j) hjl (by omega)
                          simpa [Nat.add_assoc] using this
                        · rw [List.getElem?_append_right (by omega), hsl] at hv
                          have hjm := (List.getElem?_eq_some_iff.1 hv).1
                          rw [if_pos (by omega), show δ + off + j - (δ + off + len * sz') = j - len * sz' by omega] at hx
                          exact (VRa_list hX2).2 _ _ _ hv hx
                    · -- a new row
                      obtain ⟨X, hX1, hX2⟩ := firstCells_okA (P := P) (hsrc.drew) hml (q := b) rfl
                      have hXs : X.size = b * sz' := by rw [← hX2.1]; exact hml
                      have hsrc0 : Src φ (CxOf w O loc) w.drew ((r.drop off).take (len * sz')) len (.slice (some ad) len cap') := by
                        refine .inr ⟨ad, cap', rfl, ?_⟩
                        rcases Nat.eq_zero_or_pos cap' with h0 | h0
                        · have : len = 0 := by omega
                          subst this
                          exact .inl ⟨by simp, rfl⟩
                        · refine .inr ⟨b0, δ + off, (g4 h0).1, fun j => yc (off + j), fun j hj => ?_, fun j hj => ?_⟩
                          · rw [hsl] at hj
                            rw [Nat.add_assoc]
                            exact hy1 _ (by omega)
                          · rw [hsl] at hj
                            simp only [List.getElem_take, List.getElem_drop]
                            exact hy2 _ _
                      obtain ⟨Y, hY1, hY2⟩ := firstCells_ok (P := P) hsrc0 hsl (q := len) (Nat.le_refl _)
                      rw [List.take_of_length_le (by omega)] at hY2
                      have hYs : Y.size = len * sz' := by rw [← hY2.1]; exact hsl
                      obtain ⟨nc, rest, hnc, hrest, hr'⟩ := run_app_grow (P := P) (w := w) (ty := o.type) hts hse hte hsz hby hb0 (A := a.eval y') (base := some ad) (len := len) (cap := cap') (b := b) (by omega) hlenA hY1 hX1 hroom hz
                      rw [← hA] at hr'
                      have hcs : (Y ++ X ++ rest).size = nc * sz' := by
                        have : len * sz' + b * sz' + (nc - (len + b)) * sz' = nc * sz' := by rw [← Nat.add_mul, ← Nat.add_mul]; congr 1; omega
                        simp [hXs, hYs, hrest, hzs]; rw [← Nat.add_assoc]; exact this
                      have h1' := hkill.drew.alloc_row (l := (r.drop off).take (len * sz') ++ m) (cs := Y ++ X ++ rest) (T := e) (fz := (0, 0)) (by rw [List.length_append, hsl, hml]; simp only [Array.size_append, hXs, hYs]; omega) (fun j v x hv hx => by
                        by_cases hj : j < len * sz'
                        · rw [List.getElem?_append_left (by omega)] at hv
                          rw [Array.append_assoc, Array.getElem?_append_left (by omega)] at hx
                          exact (VRa_iff.1 hY2).2 j v x hv hx
                        · rw [List.getElem?_append_right (by omega), hsl] at hv
                          have hjm := (List.getElem?_eq_some_iff.1 hv).1
                          rw [Array.append_assoc, Array.getElem?_append_right (by omega), Array.getElem?_append_left (by omega), hYs] at hx
                          exact (VRa_iff.1 hX2).2 _ v x hv hx) (fun j _ h => by simp at h)
                      refine wp_val (done _ _ hr') (hK _ _ _ _ (put_step h1' (VL_of_VR ?_) [] (LpIn.plain (by simp) (by simp)) hd))
                      have := VR.hs_new hkill.drew (Y ++ X ++ rest) e (0, 0) sz' (len + b) (len + b) nc (Nat.le_refl _) hnc (by rw [hcs]; exact Nat.le_refl _)
                      simp only [hk0] at this
                      exact this
                · simp at he
              · simp at he
            · simp at he
          · simp at he
        · simp at hzs
      · simp at ht
    · simp at ht
  · simp at hc

omit hs in
/-- A row is written no more: its block is given up. -/
theorem Sim.freeze (hs : Sim φ B n st a w O loc D) {k : Nat} {l : List V} {b δ : Nat} (hk : row st.h k = some l) (hloc : loc[k]? = some (b, δ)) :
    Sim φ B n ⟨st.e, st.h.set k none⟩ a w (fun x => O x ∧ x ≠ b) loc D := by
  have hkill := hs.kill k
  have hfree := hs.free_of_kill hk hloc
  have hc : (CxOf w O loc).Le (CxOf w (fun x => O x ∧ x ≠ b) loc) := Cx.le_of (fun b' _ hn => ⟨fun h => hn h.1, rfl⟩) (fun _ _ h => h) (fun _ => Nat.le_refl _)
  refine hkill.world hc (fun s q b' h1 h2 => ⟨rfl, (hkill.loc_block h1 h2).1, ?_⟩) ⟨hkill.heap.len, ?_, hkill.heap.apart⟩ hkill.locH hkill.freshH (fun b' h => hkill.own b' h.1) hkill.frame
    ⟨hkill.ext.bnd, fun b' h1 h2 => ⟨hkill.ext.le b' h1 h2, ?_⟩, fun b' h => hkill.ext.new b' h.1, hkill.ext.pre⟩
  · rintro rfl; exact hfree.locs s q h1 h2
  · intro j r hr
    obtain ⟨b2, δ2, cs2, T2, fz2, g1, g2, g3⟩ := hkill.heap.rows j r hr
    exact ⟨b2, δ2, cs2, T2, fz2, g1, ⟨g2, by rintro rfl; exact hfree.rows j r δ2 hr g1⟩, g3.mono hc rfl⟩
  · rintro rfl
    rcases hfree.old with h | h
    · exact h2 h
    · have := hkill.ext.bnd _ h1
      omega

theorem frz_step {y : Opd} (hc : chkOp P φ ψ o.op (.frz y) = true) (he : evalO c (.frz y) st.e st.h = some (v, h')) (hd : ∀ d, o.dst = some d → d < n ∧ d ∉ D ++ []) :
    StepOk P φ B n o a w ⟨put o.dst v st.e, h'⟩ (D ++ []) := by
  intro K Q hK
  have key : ∃ x, (Go.execOp a.eval o).run P w = .ok (.value x) w ∧ VL φ (CxOf w O loc) a.tmps (ev st.e y) x := by
    simp only [chkOp] at hc
    split at hc
    · rename_i x ho
      exact ⟨_, by simp [Go.execOp, ho], ev_VL hs hc⟩
    · rename_i x ho
      exact ⟨_, by simp [Go.execOp, ho], ev_VL hs hc⟩
    · simp at hc
  obtain ⟨x, hrun, hv⟩ := key
  simp only [evalO] at he
  split at he
  · rename_i sz k off len cap hev
    rw [hev] at hv
    split at he
    · rename_i l hl
      split at he
      · rename_i hcond
        obtain ⟨hroom, hflat⟩ := hcond
        simp only [Option.some.injEq, Prod.mk.injEq] at he
        obtain ⟨rfl, rfl⟩ := he
        have hv' : VR φ (CxOf w O loc) (.hs sz k off len cap) x := hv
        cases hv' with
        | hs _ _ _ _ _ b δ cap' ad hloc h1 h2 h3 =>
          have hf := hs.freeze hl hloc
          refine wp_val hrun (hK _ _ _ _ (put_step hf (VL_of_VR ?_) [] (LpIn.plain (by simp) (by simp)) hd))
          obtain ⟨b2, δ2, cs, T, fz, g1, g2, g3⟩ := hs.heap.rows k l hl
          rw [hloc] at g1
          simp only [Option.some.injEq, Prod.mk.injEq] at g1
          obtain ⟨rfl, rfl⟩ := g1
          have hlen : ((l.drop off).take (len * sz)).length = len * sz := by rw [List.length_take, List.length_drop]; omega
          rcases Nat.eq_zero_or_pos cap' with h0 | h0
          · have hl0 : len = 0 := by omega
            subst hl0
            simp only [Nat.zero_mul, List.take_zero]
            exact .vs0 _ _
          · obtain ⟨rfl, h4⟩ := h3 h0
            have hroom2 := g3.room
            refine VR.vs len _ b (δ + off) cap' (fun j => cs[δ + off + j]?.getD Go.undef) (by omega) (fun _ h => h.2 rfl) (fun j hj => ?_) (fun j hj => ?_)
            · rw [hlen] at hj
              have hblk := g3.block
              have hlt : δ + off + j < cs.size := by omega
              simp only [cellH, CxOf] at hblk ⊢
              rw [hblk]
              simp [hlt]
            · have hj' := hj
              rw [hlen] at hj'
              have hlt : δ + off + j < cs.size := by omega
              have hcell := g3.cell (off + j) (by omega) (by omega)
              rw [List.all_eq_true] at hflat
              have hfl := hflat _ (List.getElem_mem hj)
              have e1 : ((l.drop off).take (len * sz))[j] = l[off + j]'(by omega) := by simp
              have e2 : cs[δ + off + j]?.getD Go.undef = cs[δ + (off + j)]'(by omega) := by
                rw [Array.getElem?_eq_getElem hlt]
                simp only [Option.getD_some, Nat.add_assoc]
              rw [e1] at hfl
              show VR φ _ _ (cs[δ + off + j]?.getD Go.undef)
              rw [e1, e2]
              exact hcell.flat _ hfl
      · simp at he
    · simp at he
  · rename_i hev
    rw [hev] at hv
    simp only [Option.some.injEq, Prod.mk.injEq] at he
    obtain ⟨rfl, rfl⟩ := he
    have hv' : VR φ (CxOf w O loc) .nils x := hv
    cases hv'
    exact wp_val hrun (hK _ _ _ _ (put_step hs (VL_of_VR .vsn) [] (LpIn.plain (by simp) (by simp)) hd))
  · rename_i n' l' hev
    rw [hev] at hv
    simp only [Option.some.injEq, Prod.mk.injEq] at he
    obtain ⟨rfl, rfl⟩ := he
    exact wp_val hrun (hK _ _ _ _ (put_step hs hv [] (LpIn.plain (by simp) (by simp)) hd))
  · simp at he

end
end Mir

