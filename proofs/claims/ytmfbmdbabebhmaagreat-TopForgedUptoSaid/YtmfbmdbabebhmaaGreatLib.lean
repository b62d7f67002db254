/- Rules for following the small language by hand: slots, loops, rows of numbers. Conditions: none. -/
import Derived.Test.YtmfbmdbabebhmaaGreatLim
set_option linter.unusedVariables false
set_option linter.unusedSimpArgs false
namespace Mir

theorem gc (t : Nat) (v : V) (e : Env) (s : Nat) : get ((t, v) :: e) s = if t = s then v else get e s := by
  simp only [get]
  by_cases h : t = s
  · subst h; simp
  · have : Nat.beq t s = false := by rw [← Bool.not_eq_true, Nat.beq_eq]; exact h
    simp [h, this]

theorem gn (s : Nat) : get [] s = .undef := rfl

/- ## Loops -/

/-- A loop whose states are known. -/
theorem Iter_known {f : St → Option (Ex × St)} (S : Nat → St) (n : Nat) {r : Ex × St} (hr : r.1 ≠ .norm) (hs : ∀ i, i < n → f (S i) = some (.norm, S (i + 1))) (hn : f (S n) = some r) : Iter f (S 0) = some r := by
  have : ∀ k, k ≤ n → Iter f (S (n - k)) = some r := by
    intro k
    induction k with
    | zero =>
      intro _
      rw [Iter_unfold]
      simp only [Nat.sub_zero, hn]
      obtain ⟨e, s⟩ := r
      cases e <;> simp at hr ⊢
    | succ k ih =>
      intro hk
      rw [Iter_unfold, hs _ (by omega)]
      have e : n - (k + 1) + 1 = n - k := by omega
      simp only [e]
      exact ih (by omega)
  have := this n (Nat.le_refl n)
  simpa using this

/- ## Statements, one rule each -/

section
variable (T : Nat → Option MFn)

noncomputable def Loop (a : Stm) (st : St) : Option (Ex × St) := Iter (Exec T a) st

/-- A loop whose states are known. -/
theorem loop_use {a : Stm} {st : St} (S : Nat → St) (n : Nat) (r : Ex × St) (h0 : st = S 0) (hr : r.1 ≠ .norm) (hs : ∀ i, i < n → Exec T a (S i) = some (.norm, S (i + 1))) (hn : Exec T a (S n) = some r) : Loop T a st = some r := by
  rw [h0]; exact Iter_known S n hr hs hn

end

theorem w64_of {z : Int} (h1 : -9223372036854775808 ≤ z) (h2 : z < 9223372036854775808) : w64 z = z := by unfold w64; omega

/- ## Rows of numbers -/

def us (w : Nat) (l : List Nat) : List V := l.map (V.u w)
def is (l : List Int) : List V := l.map V.i

theorem us_len (w : Nat) (l : List Nat) : (us w l).length = l.length := by simp [us]
theorem is_len (l : List Int) : (is l).length = l.length := by simp [is]
theorem us_get {w : Nat} {l : List Nat} {k x : Nat} (h : l[k]? = some x) : (us w l)[k]? = some (.u w x) := by simp [us, h]
theorem is_get {l : List Int} {k : Nat} {x : Int} (h : l[k]? = some x) : (is l)[k]? = some (.i x) := by simp [is, h]
theorem us_set (w : Nat) (l : List Nat) (k x : Nat) : (us w l).set k (.u w x) = us w (l.set k x) := by simp [us, List.map_set]
theorem is_set (l : List Int) (k : Nat) (x : Int) : (is l).set k (.i x) = is (l.set k x) := by simp [is, List.map_set]
theorem us_take (w : Nat) (l : List Nat) (k : Nat) : (us w l).take k = us w (l.take k) := by simp [us, List.map_take]
theorem is_take (l : List Int) (k : Nat) : (is l).take k = is (l.take k) := by simp [is, List.map_take]
theorem us_drop (w : Nat) (l : List Nat) (k : Nat) : (us w l).drop k = us w (l.drop k) := by simp [us, List.map_drop]
theorem is_drop (l : List Int) (k : Nat) : (is l).drop k = is (l.drop k) := by simp [is, List.map_drop]
theorem us_app (w : Nat) (l m : List Nat) : us w l ++ us w m = us w (l ++ m) := by simp [us]
theorem us_flat (w : Nat) (l : List Nat) : (us w l).all flat = true := by simp [us, flat]
theorem is_flat (l : List Int) : (is l).all flat = true := by simp [is, flat]
theorem us_cellV (w : Nat) (l : List Nat) : (us w l).all cellV = true := by simp [us, cellV]
theorem is_cellV (l : List Int) : (is l).all cellV = true := by simp [is, cellV]
theorem us_noHp (w k : Nat) (l : List Nat) : (us w l).all (noHp (k + 1)) = true := by simp [us, noHp]
theorem is_noHp (k : Nat) (l : List Int) : (is l).all (noHp (k + 1)) = true := by simp [is, noHp]
theorem us_low (w b : Nat) (l : List Nat) : (us w l).all (lowV b) = true := by simp [us, lowV]
theorem mapO_us (nk : Bool) (h : Heap) (b m w : Nat) (l : List Nat) : mapO (fzV nk h b (m + 1)) (us w l) = some (us w l) := by
  induction l with
  | nil => rfl
  | cons x l ih => simp only [us, List.map_cons, mapO, fzV] at ih ⊢; rw [ih]

theorem mapO_is (nk : Bool) (h : Heap) (b m : Nat) (l : List Int) : mapO (fzV nk h b (m + 1)) (is l) = some (is l) := by
  induction l with
  | nil => rfl
  | cons x l ih => simp only [is, List.map_cons, mapO, fzV] at ih ⊢; rw [ih]

theorem us_rep (w n x : Nat) : (List.replicate n [V.u w x]).flatten = us w (List.replicate n x) := by
  induction n with
  | zero => rfl
  | succ n ih => simp only [List.replicate_succ, List.flatten_cons, ih]; rfl

theorem is_rep (n : Nat) (x : Int) : (List.replicate n [V.i x]).flatten = is (List.replicate n x) := by
  induction n with
  | zero => rfl
  | succ n ih => simp only [List.replicate_succ, List.flatten_cons, ih]; rfl

theorem ixOf_nat {n k : Nat} (h : k < n) : ixOf n (.i (k : Int)) = some k := by
  simp only [ixOf]
  rw [if_pos ⟨by omega, by omega⟩]
  simp

theorem ixOf_u {n w k : Nat} (h : k < n) : ixOf n (.u w k) = some k := by
  simp only [ixOf]
  rw [if_pos h]

/-- A slice that is read: a list of numbers, or nil. -/
def Sl {α : Type} (mk : List α → List V) (v : V) (l : List α) : Prop := v = .vs l.length (mk l) ∨ (v = .nils ∧ l = [])

section
variable {v : V} {l : List Nat} {w : Nat}
theorem Sl.len (h : Sl (us w) v l) : lenV v = some l.length := by
  rcases h with rfl | ⟨rfl, rfl⟩ <;> rfl
theorem Sl.noHp (h : Sl (us w) v l) (k : Nat) : Mir.noHp (k + 2) v = true := by
  rcases h with rfl | ⟨rfl, rfl⟩
  · simp only [Mir.noHp]; exact us_noHp w k l
  · rfl
theorem Sl.idx (h : Sl (us w) v l) {k : Nat} (hk : k < l.length) : idxsV 1 v (.i (k : Int)) = some (.vr (us w l) (k * 1)) := by
  rcases h with rfl | ⟨rfl, rfl⟩
  · simp only [idxsV, ixOf_nat hk, Option.map_some]
  · simp at hk
theorem Sl.cells (h : Sl (us w) v l) (H : Heap) : sliceCells H v = some (us w l) := by
  rcases h with rfl | ⟨rfl, rfl⟩ <;> rfl
theorem Sl.plain (h : Sl (us w) v l) : san v = v := by
  rcases h with rfl | ⟨rfl, rfl⟩ <;> rfl
end

section
variable (nk : Bool) (h : Heap) (b m w k n : Nat) (l : List Nat) (li : List Int) (L : List V)
theorem fz_agg_us : fzV nk h b (m + 1 + 1) (.agg (us w l)) = some (.agg (us w l)) := by
  show (mapO (fzV nk h b (m + 1)) (us w l)).map V.agg = _
  rw [mapO_us]; rfl
theorem fz_vs_us : fzV nk h b (m + 1) (.vs k (us w l)) = some (.vs k (us w l)) := by
  have : noHp 8 (.vs k (us w l)) = true := by simp only [noHp]; exact us_noHp w 6 l
  simp only [fzV, this, if_true]
theorem fz_vs_is : fzV nk h b (m + 1) (.vs k (is li)) = some (.vs k (is li)) := by
  have : noHp 8 (.vs k (is li)) = true := by simp only [noHp]; exact is_noHp 6 li
  simp only [fzV, this, if_true]
end

theorem sp_all {l cs : List V} (h : cs.length = l.length) (h1 : cs.length ≠ 1) : splice l 0 cs = cs := by
  unfold splice
  split
  · simp at h1
  · simp [h]
theorem sp_us {l : List V} {w : Nat} {cs : List Nat} (h : cs.length = l.length) : splice l 0 (us w cs) = us w cs := by
  by_cases h1 : cs.length = 1
  · obtain ⟨x, rfl⟩ := List.length_eq_one_iff.1 h1
    have : l.length = 1 := by rw [← h]; rfl
    obtain ⟨y, rfl⟩ := List.length_eq_one_iff.1 this
    rfl
  · exact sp_all (by rw [us_len]; exact h) (by rw [us_len]; exact h1)
theorem part_us {w n : Nat} {l : List Nat} (h : l.length = n) : part (us w l) 0 (some n) = some (.agg (us w l)) := by
  simp [part, us_len, h]
  rw [us_take, ← h, List.take_length]

end Mir
