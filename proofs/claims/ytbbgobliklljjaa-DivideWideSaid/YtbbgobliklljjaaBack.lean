/- What a function hands back, and calls of any depth. Conditions: none. -/
import Derived.Test.YtbbgobliklljjaaFun
set_option linter.unusedVariables false
set_option linter.unusedSimpArgs false
namespace Mir
open Go (Value Addr IntKind World Obj Act Program FuncId TypeId Operand Op Oper Code TypeDesc Sem Result)

section
variable {P : Program} {φ : Nat → Option FuncId} {ψ : Prim → FuncId → Bool} {B : Base} {n : Nat} {c : Call} {st : St} {a : Act} {w : World} {O : Nat → Prop} {loc : List (Nat × Nat)}

/-- What is still owned when the function's own rows are given up. -/
def leftO (h : Heap) (loc : List (Nat × Nat)) (base : Nat) (O : Nat → Prop) (b : Nat) : Prop :=
  O b ∧ ¬ ∃ k l δ, base ≤ k ∧ row h k = some l ∧ loc[k]? = some (b, δ)

theorem mapO_length {f : V → Option V} : ∀ {l m : List V}, mapO f l = some m → m.length = l.length ∧ ∀ (j : Nat) v u, l[j]? = some v → m[j]? = some u → f v = some u
  | [], m, h => by simp [mapO] at h; subst h; simp
  | v :: r, m, h => by
    simp only [mapO] at h
    split at h
    · rename_i x y h1 h2
      simp only [Option.some.injEq] at h
      subst h
      obtain ⟨g1, g2⟩ := mapO_length h2
      refine ⟨by simp [g1], fun j v' u hv hu => ?_⟩
      cases j with
      | zero => simp at hv hu; subst hv hu; exact h1
      | succ j => exact g2 j v' u (by simpa using hv) (by simpa using hu)
    · simp at h

theorem fz_ok {h : Heap} (hh : HR φ h (CxOf w O loc)) {nk : Bool} {base : Nat} : ∀ (m : Nat) (v u : V) (x : Value), VR φ (CxOf w O loc) v x → fzV nk h base m v = some u →
    VR φ (CxOf w (leftO h loc base O) (loc.take base)) u x
  | 0, v, u, x, _, hf => by simp [fzV] at hf
  | m + 1, v, u, x, hv, hf => by
    have le : ∀ b, ¬ (CxOf w O loc).own b → ¬ (CxOf w (leftO h loc base O) (loc.take base)).own b := fun b (h1 : ¬ O b) (h2 : leftO h loc base O b) => h1 h2.1
    have hp : (CxOf w (leftO h loc base O) (loc.take base)).hp = (CxOf w O loc).hp := rfl
    have locT : ∀ k y, k < base → loc[k]? = some y → (loc.take base)[k]? = some y := fun k y h1 h2 => by rw [List.getElem?_take]; simp [h1, h2]
    -- a row of the function's own
    have rows : ∀ (k : Nat) (l : List V) (b δ : Nat), base ≤ k → row h k = some l → loc[k]? = some (b, δ) → ¬ (leftO h loc base O) b ∧ ∃ cs : Array Value, δ + l.length ≤ cs.size ∧
        (∀ j, j < cs.size → cellH (fun b => w.heap[b]?) b j = some (cs.getD j default)) ∧ ∀ j (h : j < l.length), VR φ (CxOf w O loc) l[j] (cs.getD (δ + j) default) := by
      intro k l b δ h1 h2 h3
      refine ⟨fun h4 => h4.2 ⟨k, l, δ, h1, h2, h3⟩, ?_⟩
      obtain ⟨b', δ', cs, T, fz, g1, g2, g3⟩ := hh.rows k l h2
      simp only [CxOf] at g1
      rw [h3] at g1
      simp at g1
      obtain ⟨rfl, rfl⟩ := g1
      have hbl := g3.block
      simp only [CxOf] at hbl
      refine ⟨cs, g3.room, fun j hj => by simp [cellH, hbl, hj], fun j hj => ?_⟩
      have hj' : δ + j < cs.size := by have := g3.room; omega
      have := g3.cell j hj hj'
      have e : cs.getD (δ + j) default = cs[δ + j] := by simp [hj']
      rw [e]; exact this
    have all : ∀ (l l' : List V) (y : Nat → Value), (∀ j (h : j < l.length), VR φ (CxOf w O loc) l[j] (y j)) → mapO (fzV nk h base m) l = some l' →
        l'.length = l.length ∧ ∀ j (hj : j < l'.length), VR φ (CxOf w (leftO h loc base O) (loc.take base)) l'[j] (y j) := by
      intro l l' y h1 h2
      obtain ⟨h3, h4⟩ := mapO_length h2
      refine ⟨h3, fun j hj => fz_ok hh m _ _ _ (h1 j (by omega)) (h4 j l[j] l'[j] (by simp) (by simp))⟩
    cases v <;> simp only [fzV] at hf
    case i z => simp at hf; subst hf; cases hv; exact .i _ ‹_› ‹_›
    case u k z => simp at hf; subst hf; cases hv; exact .u _ _ _ ‹_› ‹_›
    case b z => simp at hf; subst hf; cases hv; exact .b _
    case s l => simp at hf; subst hf; cases hv; exact .s _ _ ‹_›
    case nilp => simp at hf; subst hf; cases hv; exact .nilp
    case nils =>
      simp at hf; subst hf; cases hv
      cases nk
      · exact .vsn
      · exact .nils
    case vs k l =>
      split at hf
      · rename_i hn
        simp at hf; subst hf
        exact VR.noHp hp le 8 _ _ hv hn
      · simp at hf
    case vr l o =>
      split at hf
      · rename_i hn
        simp at hf; subst hf
        exact VR.noHp hp le 8 _ _ hv hn
      · simp at hf
    case fn f l k =>
      split at hf
      · rename_i hn
        simp only [Bool.and_eq_true, List.all_eq_true] at hn
        simp at hf; subst hf
        cases hv with
        | fn f F l m xs ys h1 h2 h3 h4 h5 =>
          exact .fn _ _ _ _ _ _ h1 h2 (fun j hj hj' => VR.noHp hp le 8 _ _ (h3 j hj hj') (hn.1 _ (List.getElem_mem hj))) h4 (fun j hj hj' => VR.noHp hp le 8 _ _ (h5 j hj hj') (hn.2 _ (List.getElem_mem hj)))
      · simp at hf
    case agg l =>
      simp only [Option.map_eq_some_iff] at hf
      obtain ⟨l', h1, rfl⟩ := hf
      cases hv with
      | agg l cs h2 h3 =>
        obtain ⟨g1, g2⟩ := all l l' (fun j => cs.getD j default) (fun j hj => by
          have : j < cs.size := by omega
          have e : cs.getD j default = cs[j] := by simp [this]
          rw [e]; exact h3 j hj this) h1
        refine .agg _ _ (by omega) fun j hj hj' => ?_
        have e : cs.getD j default = cs[j] := by simp [hj']
        rw [← e]; exact g2 j hj
    case tup l =>
      simp only [Option.map_eq_some_iff] at hf
      obtain ⟨l', h1, rfl⟩ := hf
      cases hv with
      | tup l cs h2 h3 =>
        obtain ⟨g1, g2⟩ := all l l' (fun j => cs.getD j default) (fun j hj => by
          have : j < cs.size := by omega
          have e : cs.getD j default = cs[j] := by simp [this]
          rw [e]; exact h3 j hj this) h1
        refine .tup _ _ (by omega) fun j hj hj' => ?_
        have e : cs.getD j default = cs[j] := by simp [hj']
        rw [← e]; exact g2 j hj
    case hp k o =>
      cases hv with
      | hp k o b δ h1 =>
        simp only [CxOf] at h1
        split at hf
        · rename_i hk
          simp at hf; subst hf
          exact .hp _ _ _ _ (locT _ _ hk h1)
        · rename_i hk
          split at hf
          · rename_i l hl
            simp only [Option.map_eq_some_iff] at hf
            obtain ⟨l', h2, rfl⟩ := hf
            obtain ⟨g1, cs, g2, g3, g4⟩ := rows k l b δ (by omega) hl h1
            obtain ⟨g5, g6⟩ := all l l' (fun j => cs.getD (δ + j) default) g4 h2
            exact .vr _ _ b δ (fun j => cs.getD (δ + j) default) (fun _ => g1) (fun j hj => g3 _ (by omega)) g6
          · simp at hf
    case hs sz k o len cap =>
      cases hv with
      | hs sz k o len cap b δ cap' ad h1 h2 h3 h4 =>
        simp only [CxOf] at h1
        split at hf
        · rename_i hk
          simp at hf; subst hf
          exact .hs _ _ _ _ _ _ _ _ _ (locT _ _ hk h1) h2 h3 h4
        · rename_i hk
          split at hf
          · rename_i l hl
            split at hf
            · rename_i hle
              simp only [Option.map_eq_some_iff] at hf
              obtain ⟨l', h5, rfl⟩ := hf
              rcases Nat.eq_zero_or_pos cap' with h0 | h0
              · have : len = 0 := by omega
                subst this
                simp [mapO] at h5
                subst h5
                exact .vs0 _ _
              · obtain ⟨g1, cs, g2, g3, g4⟩ := rows k l b δ (by omega) hl h1
                obtain ⟨g5, g6⟩ := all _ l' (fun j => cs.getD (δ + (o + j)) default) (fun j hj => by
                  simp only [List.getElem_take, List.getElem_drop]
                  exact g4 _ _) h5
                have hl2 : l'.length = len * sz := by rw [g5]; simp; omega
                rw [(h4 h0).1]
                exact .vs _ _ b (δ + o) cap' (fun j => cs.getD (δ + (o + j)) default) (by omega) (fun _ => g1) (fun j hj => by
                  have := g3 (δ + (o + j)) (by omega)
                  rw [← Nat.add_assoc] at this
                  simpa [CxOf, Nat.add_assoc] using this) g6
            · simp at hf
          · simp at hf
    all_goals simp at hf


theorem low_ok {base : Nat} {O' : Nat → Prop} (hO : ∀ b, O' b → O b) {v : V} {x : Value} (hv : VR φ (CxOf w O loc) v x) (hl : lowV base v = true) : VR φ (CxOf w O' (loc.take base)) v x := by
  have le : ∀ b, ¬ (CxOf w O loc).own b → ¬ (CxOf w O' (loc.take base)).own b := fun b (h1 : ¬ O b) (h2 : O' b) => h1 (hO b h2)
  have hp : (CxOf w O' (loc.take base)).hp = (CxOf w O loc).hp := rfl
  have locT : ∀ k y, k < base → loc[k]? = some y → (loc.take base)[k]? = some y := fun k y h1 h2 => by rw [List.getElem?_take]; simp [h1, h2]
  cases v <;> simp only [lowV, Bool.false_eq_true, Bool.and_eq_true, decide_eq_true_eq] at hl
  case i z => cases hv; exact .i _ ‹_› ‹_›
  case u k z => cases hv; exact .u _ _ _ ‹_› ‹_›
  case b z => cases hv; exact .b _
  case s l => cases hv; exact .s _ _ ‹_›
  case nilp => cases hv; exact .nilp
  case nils => cases hv; exact .nils
  case vs k l => exact VR.noHp hp le 8 _ _ hv hl
  case vr l o => exact VR.noHp hp le 8 _ _ hv hl
  case fn f l k =>
    simp only [List.all_eq_true] at hl
    cases hv with
    | fn f F l m xs ys h1 h2 h3 h4 h5 =>
      exact .fn _ _ _ _ _ _ h1 h2 (fun j hj hj' => VR.noHp hp le 8 _ _ (h3 j hj hj') (hl.1 _ (List.getElem_mem hj))) h4 (fun j hj hj' => VR.noHp hp le 8 _ _ (h5 j hj hj') (hl.2 _ (List.getElem_mem hj)))
  case hp k o =>
    cases hv with
    | hp k o b δ h1 => exact .hp _ _ _ _ (locT _ _ hl h1)
  case hs sz k o len cap =>
    cases hv with
    | hs sz k o len cap b δ cap' ad h1 h2 h3 h4 => exact .hs _ _ _ _ _ _ _ _ _ (locT _ _ hl h1) h2 h3 h4

theorem row_take {h : Heap} {base k : Nat} {l : List V} (hr : row (h.take base) k = some l) : k < base ∧ row h k = some l := by
  unfold row at hr ⊢
  rw [List.getElem?_take] at hr
  by_cases hk : k < base
  · rw [if_pos hk] at hr; exact ⟨hk, hr⟩
  · rw [if_neg hk] at hr; simp at hr

/-- What a function hands back. -/
theorem back_ok {w0 : World} {O0 : Nat → Prop} {loc0 : List (Nat × Nat)} {H0 : Heap} (hlen : H0.length = loc0.length) (hs : Sim φ (baseOf w0 O0 loc0 H0) n st a w O loc []) {mode : Nat} {v u : V} {h' : Heap} {x : Value}
    (hv : VR φ (CxOf w O loc) v x) (hr : retV mode H0.length st.h v = some (u, h')) : Left φ (baseOf w0 O0 loc0 H0) u h' x w := by
  unfold retV at hr
  split at hr
  case isFalse => simp at hr
  rename_i hlow
  have hlow' : ∀ k l, row (st.h.take H0.length) k = some l → l.all (lowV H0.length) = true := by
    intro k l h
    rw [List.all_eq_true] at hlow
    unfold row at h
    split at h
    · rename_i l' hl'
      simp only [Option.some.injEq] at h
      subst h
      exact hlow _ (List.mem_of_getElem? hl')
    · simp at h
  have hHlen := hs.heap.len
  simp only [CxOf] at hHlen
  have hpre : ∀ (k : Nat) y, loc0[k]? = some y → (loc.take H0.length)[k]? = some y := by
    intro k y h
    have h1 := hs.ext.pre k y h
    have h2 : k < H0.length := by rw [hlen]; exact (List.getElem?_eq_some_iff.1 h).1
    rw [List.getElem?_take, if_pos h2]; exact h1
  have hO : ∀ b, leftO st.h loc H0.length O b → O b := fun b h => h.1
  -- the old rows, read with less owned
  have rowsT : ∀ (O' : Nat → Prop) (ext : List (Nat × Nat)), (∀ b, O' b → O b) → (∀ b, leftO st.h loc H0.length O b → O' b) → ∀ k l, row (st.h.take H0.length) k = some l →
      ∃ b δ cs T fz, (loc.take H0.length ++ ext)[k]? = some (b, δ) ∧ O' b ∧ RowAt φ (CxOf w O' (loc.take H0.length ++ ext)) l b δ cs T fz ∧ loc[k]? = some (b, δ) := by
    intro O' ext hO1 hO2 k l h
    obtain ⟨hk, h1⟩ := row_take h
    obtain ⟨b, δ, cs, T, fz, g1, g2, g3⟩ := hs.heap.rows k l h1
    simp only [CxOf] at g1
    have hk2 : k < loc.length := (List.getElem?_eq_some_iff.1 g1).1
    have g1' : (loc.take H0.length ++ ext)[k]? = some (b, δ) := by
      rw [List.getElem?_append_left (by simp; omega), List.getElem?_take, if_pos hk]; exact g1
    refine ⟨b, δ, cs, T, fz, g1', hO2 b ⟨g2, ?_⟩, ⟨g3.block, g3.room, fun j h2 h3 => ?_, g3.free⟩, g1⟩
    · rintro ⟨k', l', δ', e1, e2, e3⟩
      have := hs.heap.apart k k' l l' b δ δ' h1 e2 g1 e3
      omega
    · have h4 := hlow' k l h
      rw [List.all_eq_true] at h4
      have h5 := low_ok (O' := O') hO1 (g3.cell j h2 h3) (h4 _ (List.getElem_mem h2))
      have hle : (CxOf w O' (loc.take H0.length)).Le (CxOf w O' (loc.take H0.length ++ ext)) := ⟨fun b _ h => ⟨h, rfl⟩, fun k y h => by simp only [CxOf] at h ⊢; rw [List.getElem?_append_left (List.getElem?_eq_some_iff.1 h).1]; exact h, fun b => Nat.le_refl _⟩
      exact h5.mono hle
  have fz : ∀ nk, ((fzV nk st.h H0.length 6 v).map fun x => (x, st.h.take H0.length)) = some (u, h') → Left φ (baseOf w0 O0 loc0 H0) u h' x w := by
    intro nk h
    simp only [Option.map_eq_some_iff, Prod.mk.injEq] at h
    obtain ⟨u', hf, rfl, rfl⟩ := h
    refine ⟨leftO st.h loc H0.length O, loc.take H0.length, fz_ok hs.heap 6 v u' x hv hf, ⟨by simp [CxOf, hHlen], fun k l h => ?_, fun k k' l l' b δ δ' h1 h2 h3 h4 => ?_⟩, fun b h => hs.own b h.1, hs.frame, ?_, ?_⟩
    · obtain ⟨b, δ, cs, T, fz, g1, g2, g3, _⟩ := rowsT _ [] hO (fun _ h => h) k l h
      rw [List.append_nil] at g1 g3
      exact ⟨b, δ, cs, T, fz, g1, g2, g3⟩
    · obtain ⟨k1, e1⟩ := row_take h1
      obtain ⟨k2, e2⟩ := row_take h2
      simp only [CxOf] at h3 h4
      rw [List.getElem?_take, if_pos k1] at h3
      rw [List.getElem?_take, if_pos k2] at h4
      exact hs.heap.apart k k' l l' b δ δ' e1 e2 h3 h4
    · refine ⟨hs.ext.bnd, fun b h hn => ⟨hs.ext.le b h hn, ?_⟩, fun b h => hs.ext.new b h.1, hpre⟩
      rintro ⟨k, l, δ, e1, e2, e3⟩
      rcases hs.freshH k l b δ e2 e3 with h1 | h1
      · exact hn h1
      · exact absurd (hs.ext.bnd b h) (Nat.not_lt.2 h1)
    · intro k r b δ h1 h2
      obtain ⟨k1, e1⟩ := row_take h1
      rw [List.getElem?_take, if_pos k1] at h2
      exact hs.freshH k r b δ e1 h2
  -- a slice handed out with its row
  have own : ∀ (y z : V) (X : Value) (h2 : Heap), VR φ (CxOf w O loc) y X → ownV st.h H0.length y = some (z, h2) → ∃ O' loc', VR φ (CxOf w O' loc') z X ∧ HR φ h2 (CxOf w O' loc') ∧ (∀ b, O' b → b < w.heap.size) ∧
      KeptW (baseOf w0 O0 loc0 H0) w ∧ ExtB (baseOf w0 O0 loc0 H0) O' loc' ∧ (∀ k r b δ, row h2 k = some r → loc'[k]? = some (b, δ) → (baseOf w0 O0 loc0 H0).live b ∨ (baseOf w0 O0 loc0 H0).w.heap.size ≤ b) := by
    intro y z X h2 hy ho
    cases y <;> simp only [ownV] at ho <;> try (simp at ho; done)
    rename_i sz k o len cap
    split at ho
    · simp at ho
    rename_i hk
    split at ho
    case h_2 => simp at ho
    rename_i l hl
    split at ho
    case isFalse => simp at ho
    rename_i hcond
    obtain ⟨hle, hflat⟩ := hcond
    simp only [Option.some.injEq, Prod.mk.injEq] at ho
    obtain ⟨rfl, rfl⟩ := ho
    cases hy with
    | hs sz k o len cap b δ cap' ad g1 g2 g3 g4 =>
      simp only [CxOf] at g1
      obtain ⟨b', δ', cs, T, fz, e1, e2, e3⟩ := hs.heap.rows k l hl
      simp only [CxOf] at e1
      rw [g1] at e1
      simp at e1
      obtain ⟨rfl, rfl⟩ := e1
      let O' : Nat → Prop := fun b1 => leftO st.h loc H0.length O b1 ∨ b1 = b
      have hO1 : ∀ b1, O' b1 → O b1 := fun b1 h => h.elim (fun h => h.1) (fun h => h ▸ e2)
      have hO2 : ∀ b1, leftO st.h loc H0.length O b1 → O' b1 := fun b1 h => .inl h
      have hlenT : (st.h.take H0.length).length = (loc.take H0.length).length := by simp [hHlen]
      have hkl : k < st.h.length := row_lt hl
      have hT : (loc.take H0.length).length = H0.length := by simp; omega
      have hT2 : (st.h.take H0.length).length = H0.length := by simp; omega
      have hnew : (loc.take H0.length ++ [(b, δ + o)])[H0.length]? = some (b, δ + o) := by
        rw [List.getElem?_append_right (by omega), hT]; simp
      have rowC : ∀ k1 l1, row (st.h.take H0.length ++ [some ((l.drop o).take (cap * sz))]) k1 = some l1 → (k1 < H0.length ∧ row (st.h.take H0.length) k1 = some l1) ∨ (k1 = H0.length ∧ l1 = (l.drop o).take (cap * sz)) := by
        intro k1 l1 h
        rcases Nat.lt_trichotomy k1 H0.length with h1 | h1 | h1
        · left
          refine ⟨h1, ?_⟩
          unfold row at h ⊢
          rw [List.getElem?_append_left (by omega)] at h
          exact h
        · right
          unfold row at h
          rw [List.getElem?_append_right (by omega), hT2, h1] at h
          simp at h
          exact ⟨h1, h.symm⟩
        · exfalso
          unfold row at h
          rw [List.getElem?_eq_none (by simp; omega)] at h
          simp at h
      refine ⟨O', loc.take H0.length ++ [(b, δ + o)], ?_, ⟨?_, ?_, ?_⟩, fun b1 h => hs.own b1 (hO1 b1 h), hs.frame, ?_, ?_⟩
      · refine .hs _ _ _ _ _ b (δ + o) cap' ad hnew g2 g3 fun h => ?_
        obtain ⟨q1, q2⟩ := g4 h
        exact ⟨by rw [q1]; simp, by rw [Nat.add_zero]; exact q2⟩
      · simp [CxOf, hlenT]
      · intro k1 l1 h
        rcases rowC k1 l1 h with ⟨h1, h2⟩ | ⟨rfl, rfl⟩
        · obtain ⟨b1, δ1, cs1, T1, fz1, q1, q2, q3, _⟩ := rowsT O' [(b, δ + o)] hO1 hO2 k1 l1 h2
          exact ⟨b1, δ1, cs1, T1, fz1, q1, q2, q3⟩
        · refine ⟨b, δ + o, cs, T, fz, hnew, .inr rfl, ⟨e3.block, ?_, fun j hj hj' => ?_, e3.free⟩⟩
          · have := e3.room
            simp; omega
          · have hj2 : o + j < l.length := by simp at hj; omega
            rw [List.all_eq_true] at hflat
            have hf := hflat _ (List.getElem_mem hj)
            simp only [List.getElem_take, List.getElem_drop] at hf ⊢
            have := e3.cell (o + j) hj2 (by omega)
            simp only [← Nat.add_assoc] at this
            exact this.flat _ hf
      · intro k1 k2 l1 l2 b1 δ1 δ2 h1 h2 h3 h4
        simp only [CxOf] at h3 h4
        have old : ∀ k1 l1 b1 δ1, k1 < H0.length → row (st.h.take H0.length) k1 = some l1 → (loc.take H0.length ++ [(b, δ + o)])[k1]? = some (b1, δ1) → row st.h k1 = some l1 ∧ loc[k1]? = some (b1, δ1) := by
          intro k1 l1 b1 δ1 p1 p2 p3
          rw [List.getElem?_append_left (by omega), List.getElem?_take, if_pos p1] at p3
          exact ⟨(row_take p2).2, p3⟩
        rcases rowC k1 l1 h1 with ⟨p1, p2⟩ | ⟨rfl, rfl⟩
        · obtain ⟨q1, q2⟩ := old _ _ _ _ p1 p2 h3
          rcases rowC k2 l2 h2 with ⟨p3, p4⟩ | ⟨rfl, rfl⟩
          · obtain ⟨q3, q4⟩ := old _ _ _ _ p3 p4 h4
            exact hs.heap.apart _ _ _ _ _ _ _ q1 q3 q2 q4
          · rw [hnew] at h4
            simp at h4
            have := hs.heap.apart _ _ _ _ _ _ _ q1 hl q2 (h4.1 ▸ g1)
            omega
        · rcases rowC k2 l2 h2 with ⟨p3, p4⟩ | ⟨rfl, rfl⟩
          · obtain ⟨q3, q4⟩ := old _ _ _ _ p3 p4 h4
            rw [hnew] at h3
            simp at h3
            have := hs.heap.apart _ _ _ _ _ _ _ q3 hl q4 (h3.1 ▸ g1)
            omega
          · rfl
      · refine ⟨hs.ext.bnd, fun b1 h hn => .inl ⟨hs.ext.le b1 h hn, ?_⟩, fun b1 h => hs.ext.new b1 (hO1 b1 h), fun k1 y1 h => ?_⟩
        · rintro ⟨k1, l1, δ1, p1, p2, p3⟩
          rcases hs.freshH k1 l1 b1 δ1 p2 p3 with h1 | h1
          · exact hn h1
          · exact absurd (hs.ext.bnd b1 h) (Nat.not_lt.2 h1)
        · have := hpre k1 y1 h
          rw [List.getElem?_append_left (List.getElem?_eq_some_iff.1 this).1]
          exact this
      · intro k1 r1 b1 δ1 h1 h2
        rcases rowC k1 r1 h1 with ⟨p1, p2⟩ | ⟨rfl, rfl⟩
        · rw [List.getElem?_append_left (by omega), List.getElem?_take, if_pos p1] at h2
          exact hs.freshH k1 r1 b1 δ1 (row_take p2).2 h2
        · rw [hnew] at h2
          simp at h2
          exact hs.freshH k l b1 δ hl (h2.1 ▸ g1)
  unfold handV at hr
  split at hr
  · exact fz false hr
  · exact fz true hr
  · split at hr
    · rename_i y r
      split at hr
      · rename_i z h2 ho
        split at hr
        · rename_i hfl
          simp only [Option.some.injEq, Prod.mk.injEq] at hr
          obtain ⟨rfl, rfl⟩ := hr
          cases hv with
          | tup l cs g1 g2 =>
            obtain ⟨O', loc', q1, q2⟩ := own y z _ h2 (g2 0 (by simp) (by rw [← g1]; simp)) ho
            refine ⟨O', loc', .tup _ _ (by simpa using g1) (fun j hj hj' => ?_), q2⟩
            cases j with
            | zero => exact q1
            | succ j =>
              rw [List.all_eq_true] at hfl
              have hj1 : j < r.length := by simpa using hj
              exact (g2 (j + 1) (by simpa using hj1) hj').flat1 _ (hfl _ (List.getElem_mem hj1))
        · simp at hr
      · simp at hr
    · exact own _ _ _ _ hv hr

/- ## Calls -/

def chkFn (P : Program) (φ : Nat → Option FuncId) (ψ : Prim → FuncId → Bool) (F : FuncId) (m : MFn) : Bool :=
  match P.funcs[F]? with
  | some fn => (match fn.body with
    | some code => chkStm P φ ψ fn.ntmps code m.body && chkRes P fn.results.toList m.res && fn.name != "runtime.NumGoroutine"
    | none => false)
  | none => false

theorem zipE_get : ∀ (l : List V) (k s : Nat), get (zipE k l) s = if k ≤ s then (l[s - k]?).getD .undef else .undef
  | [], k, s => by simp [zipE, get]
  | v :: l, k, s => by
    simp only [zipE, get_cons, zipE_get l (k + 1) s]
    rcases Nat.lt_trichotomy k s with h | h | h
    · have h1 : s - k = s - (k + 1) + 1 := by omega
      rw [if_neg (by omega), if_pos (by omega), if_pos (by omega), h1]
      simp
    · subst h; simp
    · rw [if_neg (by omega), if_neg (by omega), if_neg (by omega)]

/-- Every call that the small language can make, the machine makes alike. -/
theorem run_ok {T : Nat → Option MFn} (hE : Env0 P φ ψ) (hm : P.follows .mixedOrders = true) (hT : ∀ f F m, φ f = some F → T f = some m → chkFn P φ ψ F m = true) : ∀ N, CallOk P φ (run T N)
  | 0 => by intro f F args H v H' _ h; simp [run] at h
  | N + 1 => by
    intro f F args H v H' hF hrun vals w O loc hh ho hargs
    have ih := run_ok hE hm hT N
    simp only [run] at hrun
    split at hrun
    · rename_i m hTm
      have hc := hT f F m hF hTm
      unfold chkFn at hc
      split at hc
      · rename_i fn hfn
        split at hc
        · rename_i code hcode
          simp only [Bool.and_eq_true] at hc
          obtain ⟨⟨hc1, hc2⟩, _⟩ := hc
          have hlen : H.length = loc.length := hh.len
          unfold finish at hrun
          let tm : Array Value := vals ++ Array.replicate (fn.ntmps - vals.size) Go.undef
          have hsz : fn.ntmps ≤ tm.size := by simp [tm]; omega
          have hs0 : Sim φ (baseOf w O loc H) tm.size ⟨zipE 0 args, H⟩ { tmps := tm, defers := [] } w O loc [] := by
            have hget : ∀ s v, get (zipE 0 args) s = v → v ≠ .undef → ∃ h : s < args.length, v = args[s] := by
              intro s v h hv
              rw [zipE_get] at h
              simp only [Nat.zero_le, if_true, Nat.sub_zero] at h
              by_cases hlt : s < args.length
              · exact ⟨hlt, by simp [hlt] at h; exact h.symm⟩
              · simp [Nat.not_lt.1 hlt] at h
                exact absurd h.symm hv
            have hval : ∀ s (h : s < args.length), ∃ x, tm[s]? = some x ∧ VR φ (CxOf w O loc) args[s] x := by
              intro s h
              have h1 : s < vals.toList.length := by rw [← hargs.1]; exact h
              have h2 : s < vals.size := by simpa using h1
              refine ⟨vals[s], by simp [tm, Array.getElem?_append, h2], by simpa using hargs.2 s h h1⟩
            have hpl : ∀ s v, get (zipE 0 args) s = v → (∀ l, v ≠ .loc l) ∧ (∀ s' o, v ≠ .lp s' o) ∧ (∀ z s' o p q, v ≠ .ls z s' o p q) := by
              intro s v h
              by_cases hu : v = .undef
              · subst hu; simp
              · obtain ⟨hlt, rfl⟩ := hget s v h hu
                obtain ⟨x, _, hx⟩ := hval s hlt
                generalize args[s] = u at hx
                cases hx <;> simp
            refine ⟨rfl, rfl, hh, fun s => ?_, fun s s' o h => absurd rfl ((hpl s _ h).2.1 s' o), fun s z s' o p q h => absurd rfl ((hpl s _ h).2.2 z s' o p q), fun s s' l l' b h => absurd rfl ((hpl s _ h).1 l),
              fun s l b k r δ h => absurd rfl ((hpl s _ h).1 l), fun s l b h => absurd rfl ((hpl s _ h).1 l), fun k r b δ h1 h2 => .inl ⟨k, r, δ, h1, h2⟩, ho, ⟨rfl, rfl, rfl, Nat.le_refl _, fun b => Nat.le_refl _, fun b _ _ => rfl⟩,
              ⟨ho, fun b h _ => h, fun b h => .inl h, fun k x h => h⟩⟩
            show ER φ _ _ s (get (zipE 0 args) s)
            by_cases hu : get (zipE 0 args) s = .undef
            · rw [hu]; trivial
            · obtain ⟨hlt, he⟩ := hget s _ rfl hu
              obtain ⟨x, hx1, hx2⟩ := hval s hlt
              rw [he]
              have h3 := hpl s _ rfl
              rw [he] at h3
              generalize args[s] = u at hx2 h3
              cases u <;> first
                | exact ⟨x, hx1, VL_of_VR hx2⟩
                | exact absurd rfl (h3.1 _)
                | trivial
          -- the body
          have fin : ∀ ex st', execW (run T N) (iter N) m.body ⟨zipE 0 args, H⟩ = some (ex, st') → (∀ id, ex ≠ .exit id) → (match resV st'.e m.res with | some v => retV m.mode H.length st'.h v | none => none) = some (v, H') →
              Go.Calls P F vals w fun | .returned x, w' => Left φ (baseOf w O loc H) v H' x w' | _, _ => False := by
            intro ex st' hx hne hres
            refine Go.calls_of_wp hfn hcode ?_
            refine stm_wp hE ih hm N m.body code (chkStm_mono hsz _ _ hc1) hs0 hx fun a' w' O' loc' h => ?_
            split at hres
            · rename_i v0 hv0
              obtain ⟨x, e1, e2⟩ := res_all h hc2 hv0
              have hl := back_ok hlen h e2 hres
              cases ex with
              | norm => exact ⟨h.defers, x, e1, hl⟩
              | exit id => exact absurd rfl (hne id)
              | ret => exact ⟨h.defers, x, e1, hl⟩
            · simp at hres
          cases hx : execW (run T N) (iter N) m.body ⟨zipE 0 args, H⟩ with
          | none => simp [hx] at hrun
          | some r =>
            obtain ⟨ex, st'⟩ := r
            rw [hx] at hrun
            cases ex with
            | norm => exact fin _ _ hx (by simp) hrun
            | exit id => simp at hrun
            | ret => exact fin _ _ hx (by simp) hrun
        · simp at hc
      · simp at hc
    · simp at hrun

theorem Run_ok {T : Nat → Option MFn} (hE : Env0 P φ ψ) (hm : P.follows .mixedOrders = true) (hT : ∀ f F m, φ f = some F → T f = some m → chkFn P φ ψ F m = true) : CallOk P φ (Run T) := by
  intro f F args H v H' hF hrun
  obtain ⟨N, h⟩ := (Run_some T).1 hrun
  exact run_ok hE hm hT N f F args H v H' hF h

end
end Mir
