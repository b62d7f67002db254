/- Signatures as bytes: plain facts about writing and reading. Conditions: none. -/
import Derived.Test.YtphinknjjdfgeaaDerB
set_option linter.unusedVariables false
set_option linter.unusedSimpArgs false
set_option exponentiation.threshold 5000
set_option maxRecDepth 20000
namespace Mir

/-- How long a text says that it is. -/
def pLen : List Nat → Nat
  | _ :: l :: x :: _ => if l = 129 then 3 + x else 2 + l
  | _ => 0
theorem pLen_app {s u : List Nat} (h : 3 ≤ s.length) : pLen (s ++ u) = pLen s := by
  match s, h with
  | a :: b :: c :: r, _ => rfl

theorem body_len {r t : Nat} (hr : r < M) (ht : t < M) : (pField 2 (pNum r) ++ pField 2 (pNum t)).length = (pNum r).length + 2 + ((pNum t).length + 2) ∧ (pNum r).length ≤ 73 ∧ 1 ≤ (pNum r).length ∧ (pNum t).length ≤ 73 ∧ 1 ≤ (pNum t).length := by
  have l1 := pNum_len hr
  have l2 := pNum_len ht
  have l3 := pField_len 2 (pNum r)
  have l4 := pField_len 2 (pNum t)
  rw [if_pos (by omega)] at l3 l4
  rw [List.length_append, l3, l4]
  omega
theorem pPut_len {r t : Nat} (hr : r < M) (ht : t < M) : pLen (pPut r t) = (pPut r t).length ∧ 8 ≤ (pPut r t).length ∧ (pPut r t).length ≤ 153 ∧ ∃ l, pPut r t = 48 :: l := by
  obtain ⟨h1, h2, h3, h4, h5⟩ := body_len hr ht
  unfold pPut
  obtain ⟨body, hb⟩ : ∃ b, pField 2 (pNum r) ++ pField 2 (pNum t) = b := ⟨_, rfl⟩
  rw [hb] at h1 ⊢
  have hm : body.length % 256 = body.length := Nat.mod_eq_of_lt (by omega)
  have hl := pField_len 48 body
  unfold pField at *
  split
  · rename_i h
    rw [if_pos h] at hl
    refine ⟨?_, by simp; omega, by simp; omega, _, rfl⟩
    match body, h1, hm, h with
    | x :: y, h1, hm, h =>
      simp only [pLen]
      rw [if_neg (by omega), hm]
      simp; omega
    | [], h1, _, _ => simp at h1
  · rename_i h
    refine ⟨?_, by simp; omega, by simp; omega, _, rfl⟩
    simp only [pLen, if_true]
    rw [hm]
    simp; omega

theorem pGet_cases {s : List Nat} (hb : By s) : (∃ r t, r < M ∧ t < M ∧ pGet s = (r + M * t, 0) ∧ pPut r t = s) ∨ pGet s = (0, 2200) := by
  obtain ⟨t1, t2, t3, t4⟩ := rField_by (b := false) (kind := 48) hb
  rw [← gF_def] at t1
  obtain ⟨u1, u2, u3⟩ := rNumber_by (b := false) t1
  rw [← gA_def] at u1 u2
  obtain ⟨v1, v2, v3⟩ := rNumber_by (b := (gA s).2.2) u2
  rw [← gB_def] at v1
  have d := pGet_def s
  generalize (gB s).2.2 = b3 at d
  generalize (gB s).1 = t at d v1
  generalize (gA s).1 = r at d u1
  generalize (gF s).2.2 = b1 at d
  by_cases h : (b1 || b3 || !(pPut r t == s)) = true
  · right; rw [d, if_pos h]
  · left
    rw [if_neg h] at d
    refine ⟨r, t, u1, v1, d, ?_⟩
    simp at h
    exact h.2

theorem rField_write (kind : Nat) (body rest : List Nat) (h : body.length < 256) : rField kind (pField kind body ++ rest) false = (body, rest, false) := by
  have hm : body.length % 256 = body.length := Nat.mod_eq_of_lt h
  unfold pField
  split
  · rename_i h1
    show rField kind (kind :: (body.length % 256) :: (body ++ rest)) false = _
    rw [hm]
    have e : rField2 kind (kind :: body.length :: (body ++ rest)) false = (body.length, body ++ rest, false) := by
      have e1 : rField1 kind (kind :: body.length :: (body ++ rest)) false = (body.length, body ++ rest, false) := by simp [rField1, rByte]
      simp only [rField2, e1]
      rw [if_neg (by omega)]
    simp only [rField, e, rBytes]
    rw [if_neg (by simp)]
    simp
  · show rField kind (kind :: 129 :: (body.length % 256) :: (body ++ rest)) false = _
    rw [hm]
    have e : rField2 kind (kind :: 129 :: body.length :: (body ++ rest)) false = (body.length, body ++ rest, false) := by
      have e1 : rField1 kind (kind :: 129 :: body.length :: (body ++ rest)) false = (129, body.length :: (body ++ rest), false) := by simp [rField1, rByte]
      simp only [rField2, e1]
      rfl
    simp only [rField, e, rBytes]
    rw [if_neg (by simp)]
    simp

theorem vb_congr {n n' : Nat} {f g : Nat → Nat} : ∀ m, (∀ i, i < m → f (n - 1 - i) = g (n' - 1 - i)) → vb n f m = vb n' g m
  | 0, _ => rfl
  | m + 1, h => by rw [vb, vb, vb_congr m (fun i hi => h i (by omega)), h m (by omega)]
theorem ov_zero (l : List Nat) : ov (0 :: l) = ov l := by
  unfold ov
  rw [List.length_cons, vb]
  have e : (0 :: l).getD (l.length + 1 - 1 - l.length) 0 = 0 := by simp
  rw [e, Nat.zero_mul, Nat.add_zero]
  refine vb_congr _ fun i hi => ?_
  have e2 : l.length + 1 - 1 - i = (l.length - 1 - i) + 1 := by omega
  rw [e2, List.getD_cons_succ]
theorem ov_cut (l : List Nat) : ov (cutZ l) = ov l := by
  unfold cutZ
  split
  · exact (ov_zero _).symm
  · rfl
theorem ov_bs {n x : Nat} (hx : x < 2 ^ (8 * n)) : ov (bs n x) = x := by
  unfold ov
  rw [bs_len]
  rw [vb_congr (g := fun j => x / 2 ^ (8 * (n - 1 - j)) % 2 ^ 8) (n' := n) n (fun i hi => by
    have := tb_getD (n := n) (f := fun j => x / 2 ^ (8 * (n - 1 - j)) % 2 ^ 8) (k := n - 1 - i)
    rw [if_pos (by omega)] at this
    exact this), vb_bs n x n (Nat.le_refl n), Nat.mod_eq_of_lt hx]
theorem ov_pNum {x : Nat} (hx : x < M) : ov (pNum x) = x ∧ (cutZ (pNum x)).length ≤ 72 := by
  have h1 := nby_le hx
  have h2 := nby_pos x
  have h3 := bl_le_iff.1 (nby_bl x)
  have hc : ∀ l, (cutZ l).length ≤ l.length := fun l => by unfold cutZ; split <;> simp
  unfold pNum
  split
  · refine ⟨by rw [ov_zero, ov_bs h3], ?_⟩
    obtain ⟨y, l, e⟩ : ∃ y l, bs (nby x) x = y :: l := by
      cases hb : bs (nby x) x with
      | nil => have := bs_len (nby x) x; rw [hb] at this; simp at this; omega
      | cons y l => exact ⟨y, l, rfl⟩
    have e2 : cutZ (0 :: bs (nby x) x) = bs (nby x) x := by rw [e]; rfl
    rw [e2, bs_len]; exact h1
  · refine ⟨ov_bs h3, Nat.le_trans (hc _) (by rw [bs_len]; exact h1)⟩

theorem rNumber_write {x : Nat} (hx : x < M) (rest : List Nat) : rNumber (pField 2 (pNum x) ++ rest) false = (x, rest, false) := by
  have l1 := pNum_len hx
  obtain ⟨h1, h2⟩ := ov_pNum hx
  have h := rField_write 2 (pNum x) rest (by omega)
  simp only [rNumber, h]
  rw [if_neg (by omega), ov_cut, h1]

theorem pGet_pPut {r t : Nat} (hr : r < M) (ht : t < M) : pGet (pPut r t) = (r + M * t, 0) := by
  obtain ⟨h1, h2, h3, h4, h5⟩ := body_len hr ht
  have e1 := rField_write 48 (pField 2 (pNum r) ++ pField 2 (pNum t)) [] (by omega)
  rw [List.append_nil] at e1
  have e2 := rNumber_write hr (pField 2 (pNum t))
  have e3 := rNumber_write ht []
  rw [List.append_nil] at e3
  have e : pPut r t = pField 48 (pField 2 (pNum r) ++ pField 2 (pNum t)) := rfl
  have f1 : gF (pPut r t) = (pField 2 (pNum r) ++ pField 2 (pNum t), [], false) := by rw [gF_def, e, e1]
  have f2 : gA (pPut r t) = (r, pField 2 (pNum t), false) := by rw [gA_def, f1, e2]
  have f3 : gB (pPut r t) = (t, [], false) := by rw [gB_def, f2, e3]
  rw [pGet_def, f1, f2, f3]
  simp

theorem pPut_by {r t : Nat} (hr : r < M) (ht : t < M) : By (pPut r t) := by
  obtain ⟨h1, h2, h3, h4, h5⟩ := body_len hr ht
  have hbs : ∀ n x, By (bs n x) := fun n x y hy => bs_lt hy
  have hn : ∀ x, By (pNum x) := fun x => by
    unfold pNum
    split
    · intro y hy
      rcases List.mem_cons.1 hy with rfl | h
      · omega
      · exact hbs _ _ y h
    · exact hbs _ _
  have hf : ∀ k s, k < 256 → By s → By (pField k s) := fun k s hk hs => by
    unfold pField
    split
    · intro y hy
      rcases List.mem_cons.1 hy with rfl | h
      · exact hk
      · rcases List.mem_cons.1 h with rfl | h
        · exact Nat.mod_lt _ (by omega)
        · exact hs y h
    · intro y hy
      rcases List.mem_cons.1 hy with rfl | h
      · exact hk
      · rcases List.mem_cons.1 h with rfl | h
        · omega
        · rcases List.mem_cons.1 h with rfl | h
          · exact Nat.mod_lt _ (by omega)
          · exact hs y h
  refine hf 48 _ (by omega) fun y hy => ?_
  rcases List.mem_append.1 hy with h | h
  · exact hf 2 _ (by omega) (hn r) y h
  · exact hf 2 _ (by omega) (hn t) y h

/-- A part of a signature's bytes from the front is none. -/
theorem pGet_cut {r t c : Nat} (hr : r < M) (ht : t < M) (hc : c < (pPut r t).length) : pGet ((pPut r t).take c) = (0, 2200) := by
  rcases pGet_cases ((pPut_by hr ht).take c) with ⟨r', t', h1, h2, h3, h4⟩ | h
  · exfalso
    obtain ⟨a1, a2, a3, a4⟩ := pPut_len h1 h2
    obtain ⟨b1, b2, b3, b4⟩ := pPut_len hr ht
    rw [h4] at a1 a2
    have e := pLen_app (u := (pPut r t).drop c) (show 3 ≤ ((pPut r t).take c).length by omega)
    rw [List.take_append_drop, b1, a1, List.length_take] at e
    omega
  · exact h
theorem pGet_more {r t : Nat} {u : List Nat} (hr : r < M) (ht : t < M) (hu : 0 < u.length) (hub : By u) : pGet (pPut r t ++ u) = (0, 2200) := by
  have hb : By (pPut r t ++ u) := fun y hy => by
    rcases List.mem_append.1 hy with h | h
    · exact pPut_by hr ht y h
    · exact hub y h
  rcases pGet_cases hb with ⟨r', t', h1, h2, h3, h4⟩ | h
  · exfalso
    obtain ⟨a1, a2, a3, a4⟩ := pPut_len h1 h2
    obtain ⟨b1, b2, b3, b4⟩ := pPut_len hr ht
    rw [h4] at a1
    have e := pLen_app (s := pPut r t) (u := u) (by omega)
    rw [b1, a1, List.length_append] at e
    omega
  · exact h
theorem pGet_head {y : Nat} {l : List Nat} (hy : y ≠ 48) (hb : By (y :: l)) : pGet (y :: l) = (0, 2200) := by
  rcases pGet_cases hb with ⟨r', t', h1, h2, h3, h4⟩ | h
  · exfalso
    obtain ⟨a1, a2, a3, l', a4⟩ := pPut_len h1 h2
    rw [a4] at h4
    exact hy (List.cons.inj h4).1.symm
  · exact h

end Mir
