/- One module of several texts (MonA MonB MonC MonD MonE MonF). Conditions: none. -/
import Derived.Test.YtmfbmdbabebhmaaGreatAllE
import Derived.Test.YtmfbmdbabebhmaaGreatAllN
import Derived.Test.YtmfbmdbabebhmaaGreatSig
set_option linter.unusedVariables false
set_option linter.unusedSimpArgs false
set_option exponentiation.threshold 5000
set_option maxRecDepth 20000
set_option linter.unusedSectionVars false
namespace Mir

/-- What is carried when t and a times b are added word by word. -/
def rdC (t a b k : Nat) : Nat := (t % 2 ^ (64 * k) + a * (b % 2 ^ (64 * k))) / 2 ^ (64 * k)

theorem mod_succ64 (x k : Nat) : x % 2 ^ (64 * (k + 1)) = x % 2 ^ (64 * k) + 2 ^ (64 * k) * (x / 2 ^ (64 * k) % 2 ^ 64) := by
  rw [Nat.mul_add, Nat.pow_add, Nat.mul_one, Nat.mod_mul]

theorem rdC_zero (t a b : Nat) : rdC t a b 0 = 0 := by simp [rdC, Nat.mod_one]
theorem rdC_lt {t a b k : Nat} (ha : a < 2 ^ 64) : rdC t a b k < 2 ^ 64 := by
  unfold rdC
  have hp := Nat.two_pow_pos (64 * k)
  rw [Nat.div_lt_iff_lt_mul hp]
  have h1 := Nat.mod_lt t hp
  have h2 := Nat.mod_lt b hp
  obtain ⟨P, hP⟩ : ∃ P, P = 2 ^ (64 * k) := ⟨_, rfl⟩
  rw [← hP] at h1 h2 hp ⊢
  obtain ⟨y, hy⟩ : ∃ y, y = b % P := ⟨_, rfl⟩
  obtain ⟨z, hz⟩ : ∃ y, y = t % P := ⟨_, rfl⟩
  rw [← hy] at h2 ⊢
  rw [← hz] at h1 ⊢
  have h3 : a * y ≤ (2 ^ 64 - 1) * y := Nat.mul_le_mul_right _ (by omega)
  have h4 : (2 ^ 64 - 1) * y ≤ (2 ^ 64 - 1) * (P - 1) := Nat.mul_le_mul_left _ (by omega)
  omega

theorem rd_split (t a b k : Nat) : t % 2 ^ (64 * (k + 1)) + a * (b % 2 ^ (64 * (k + 1))) =
    (t % 2 ^ (64 * k) + a * (b % 2 ^ (64 * k))) + 2 ^ (64 * k) * (t / 2 ^ (64 * k) % 2 ^ 64 + a * (b / 2 ^ (64 * k) % 2 ^ 64)) := by
  rw [mod_succ64 t, mod_succ64 b]
  obtain ⟨P, hP⟩ : ∃ P, P = 2 ^ (64 * k) := ⟨_, rfl⟩
  rw [← hP]
  obtain ⟨x, hx⟩ : ∃ y, y = t / P % 2 ^ 64 := ⟨_, rfl⟩
  obtain ⟨y, hy⟩ : ∃ y, y = b / P % 2 ^ 64 := ⟨_, rfl⟩
  rw [← hx, ← hy, Nat.mul_add, Nat.mul_add, Nat.mul_left_comm]
  omega

theorem rd_hi (t a b k : Nat) : (rdC t a b k + t / 2 ^ (64 * k) % 2 ^ 64 + a * (b / 2 ^ (64 * k) % 2 ^ 64)) / 2 ^ 64 = rdC t a b (k + 1) := by
  have hp := Nat.two_pow_pos (64 * k)
  conv => rhs; unfold rdC
  rw [rd_split, Nat.mul_add 64, Nat.pow_add, Nat.mul_one, ← Nat.div_div_eq_div_mul, Nat.add_mul_div_left _ _ hp, Nat.add_assoc]
  rfl

theorem rd_lo (t a b k : Nat) : (rdC t a b k + t / 2 ^ (64 * k) % 2 ^ 64 + a * (b / 2 ^ (64 * k) % 2 ^ 64)) % 2 ^ 64 = (t + a * b) / 2 ^ (64 * k) % 2 ^ 64 := by
  have hp := Nat.two_pow_pos (64 * k)
  have e1 : t + a * b = (t % 2 ^ (64 * (k + 1)) + a * (b % 2 ^ (64 * (k + 1)))) + 2 ^ (64 * k) * (2 ^ 64 * (t / 2 ^ (64 * (k + 1)) + a * (b / 2 ^ (64 * (k + 1))))) := by
    have h1 := Nat.mod_add_div t (2 ^ (64 * (k + 1)))
    have h2 := Nat.mod_add_div b (2 ^ (64 * (k + 1)))
    have h3 : 2 ^ (64 * (k + 1)) = 2 ^ (64 * k) * 2 ^ 64 := by rw [Nat.mul_add, Nat.pow_add, Nat.mul_one]
    rw [← Nat.mul_assoc (2 ^ (64 * k)), ← h3]
    obtain ⟨Q, hQ⟩ : ∃ P, P = 2 ^ (64 * (k + 1)) := ⟨_, rfl⟩
    rw [← hQ] at h1 h2 ⊢
    conv => lhs; rw [← h1, ← h2]
    obtain ⟨t1, ht1⟩ : ∃ y, y = t / Q := ⟨_, rfl⟩
    obtain ⟨b1, hb1⟩ : ∃ y, y = b / Q := ⟨_, rfl⟩
    rw [← ht1, ← hb1, Nat.mul_add, Nat.mul_add, Nat.mul_left_comm]
    omega
  rw [e1, Nat.add_mul_div_left _ _ hp, Nat.add_mul_mod_self_left, rd_split, Nat.add_mul_div_left _ _ hp, Nat.add_assoc]
  rfl

/-- The end of a round: what is carried goes to the two highest words. -/
theorem rd_end {t a b n : Nat} (hb : b < 2 ^ (64 * n)) : (rdC t a b n + t / 2 ^ (64 * n) % 2 ^ 64) % 2 ^ 64 = (t + a * b) / 2 ^ (64 * n) % 2 ^ 64 ∧
    t / 2 ^ (64 * (n + 1)) + (rdC t a b n + t / 2 ^ (64 * n) % 2 ^ 64) / 2 ^ 64 = (t + a * b) / 2 ^ (64 * (n + 1)) := by
  have h0 : b / 2 ^ (64 * n) = 0 := Nat.div_eq_of_lt hb
  have h1 := rd_lo t a b n
  rw [h0, Nat.zero_mod, Nat.mul_zero, Nat.add_zero] at h1
  refine ⟨h1, ?_⟩
  have h2 := rd_hi t a b n
  rw [h0, Nat.zero_mod, Nat.mul_zero, Nat.add_zero] at h2
  rw [h2]
  unfold rdC
  have hb2 : b % 2 ^ (64 * (n + 1)) = b := Nat.mod_eq_of_lt (Nat.lt_of_lt_of_le hb (Nat.pow_le_pow_right (by omega) (by omega)))
  rw [hb2]
  have hp := Nat.two_pow_pos (64 * (n + 1))
  have h3 := Nat.mod_add_div t (2 ^ (64 * (n + 1)))
  obtain ⟨Q, hQ⟩ : ∃ P, P = 2 ^ (64 * (n + 1)) := ⟨_, rfl⟩
  rw [← hQ] at h3 hp ⊢
  conv => rhs; rw [← h3]
  rw [Nat.add_right_comm, Nat.add_mul_div_left _ _ hp, Nat.add_comm]

/-- A number in Montgomery's form knows these cells: the modulus, its words, minus its inverse, R R. -/
def monL (m n l rr : Nat) : List V := us 64 (dl 64 9 m) ++ ([.i (n : Int), .u 64 l] ++ us 64 (dl 64 9 rr))
theorem mon_w {m n l rr i : Nat} (h : i < 9) : part (monL m n l rr) i none = some (.u 64 (m / 2 ^ (64 * i) % 2 ^ 64)) := by
  simp only [part, monL]
  rw [List.getElem?_append_left (by rw [us_len, dl_len]; exact h)]
  exact us_get (dl_get h)
theorem mon_n (m n l rr : Nat) : part (monL m n l rr) 9 none = some (.i (n : Int)) := by
  simp only [part, monL]
  rw [List.getElem?_append_right (by rw [us_len, dl_len]; omega), us_len, dl_len]; rfl
theorem mon_l (m n l rr : Nat) : part (monL m n l rr) 10 none = some (.u 64 l) := by
  simp only [part, monL]
  rw [List.getElem?_append_right (by rw [us_len, dl_len]; omega), us_len, dl_len]; rfl
theorem mon_len (m n l rr : Nat) : (monL m n l rr).length = 20 := by simp [monL, us_len, dl_len]
theorem mon_m (m n l rr : Nat) : part (monL m n l rr) 0 (some 9) = some (natv m) := by
  simp only [part, mon_len]
  rw [if_pos (by omega)]
  simp only [monL, List.drop_zero]
  rw [List.take_append_of_le_length (by rw [us_len, dl_len]; omega), List.take_of_length_le (by rw [us_len, dl_len]; omega)]
theorem mon_rr (m n l rr : Nat) : part (monL m n l rr) 11 (some 9) = some (natv rr) := by
  simp only [part, mon_len]
  rw [if_pos (by omega)]
  simp only [monL]
  rw [show (11 : Nat) = (us 64 (dl 64 9 m)).length + 2 by rw [us_len, dl_len], List.drop_append]
  rw [List.drop_of_length_le (by omega), Nat.add_sub_cancel_left]
  simp only [List.nil_append, List.cons_append, List.drop_succ_cons, List.drop_zero]
  rw [List.take_of_length_le (by rw [us_len, dl_len]; omega)]
theorem mon_noHp (m n l rr k : Nat) : noHp (k + 2) (.vr (monL m n l rr) 0) = true := by
  simp only [noHp, monL, List.all_append, us_noHp, List.all_cons, List.all_nil]; rfl

theorem part11 (f : Nat → Nat) (i : Nat) (hi : i < 11) : part (us 64 (tb 11 f)) i none = some (.u 64 (f i)) := part_tb f i hi
abbrev tH (f : Nat → Nat) : Heap := [some (us 64 (tb 11 f))]

theorem r_round {m n l rr t a b : Nat} {L : List V} (hn : n ≤ 9) (hL : ∀ i, i < 9 → part L i none = some (.u 64 (b / 2 ^ (64 * i) % 2 ^ 64))) (hb : b < 2 ^ (64 * n)) (ha : a < 2 ^ 64) (ht : t + a * b < 2 ^ (64 * (n + 2))) :
    Run T f_mont_Mont_round [.vr (monL m n l rr) 0, .hp 0 0, .u 64 a, .vr L 0] [some (us 64 (dl 64 11 t))] = some (.tup [], [some (us 64 (dl 64 11 (t + a * b)))]) := by
  rw [Run_at T _ (show T f_mont_Mont_round = some m_mont_Mont_round from rfl)]
  simp only [c_mont_Mont_round]
  obtain ⟨w, hw⟩ : ∃ f : Nat → Nat, ∀ j, f j = t / 2 ^ (64 * j) % 2 ^ 64 := ⟨_, fun _ => rfl⟩
  obtain ⟨v, hv⟩ : ∃ f : Nat → Nat, ∀ j, f j = (t + a * b) / 2 ^ (64 * j) % 2 ^ 64 := ⟨_, fun _ => rfl⟩
  obtain ⟨y, hy⟩ : ∃ f : Nat → Nat, ∀ j, f j = b / 2 ^ (64 * j) % 2 ^ 64 := ⟨_, fun _ => rfl⟩
  obtain ⟨c, hc⟩ : ∃ f : Nat → Nat, ∀ j, f j = rdC t a b j := ⟨_, fun _ => rfl⟩
  have hwl : ∀ j, w j < 2 ^ 64 := fun j => by rw [hw]; exact Nat.mod_lt _ (Nat.two_pow_pos 64)
  have hyl : ∀ j, y j < 2 ^ 64 := fun j => by rw [hy]; exact Nat.mod_lt _ (Nat.two_pow_pos 64)
  have hcl : ∀ j, c j < 2 ^ 64 := fun j => by rw [hc]; exact rdC_lt ha
  have hlo : ∀ k, (c k + w k + a * y k) % 2 ^ 64 = v k := fun k => by rw [hc, hw, hy, hv]; exact rd_lo t a b k
  have hhi : ∀ k, (c k + w k + a * y k) / 2 ^ 64 = c (k + 1) := fun k => by rw [hc, hw, hy, hc]; exact rd_hi t a b k
  obtain ⟨e1, e2⟩ := rd_end (t := t) (a := a) hb
  have hn1 : (t + a * b) / 2 ^ (64 * (n + 1)) < 2 ^ 64 := by
    rw [Nat.div_lt_iff_lt_mul (Nat.two_pow_pos _), ← Nat.pow_add, show 64 + 64 * (n + 1) = 64 * (n + 2) by omega]; exact ht
  have hw1 : t / 2 ^ (64 * (n + 1)) = w (n + 1) := by rw [hw]; exact (Nat.mod_eq_of_lt (by omega)).symm
  have hv1 : (t + a * b) / 2 ^ (64 * (n + 1)) = v (n + 1) := by rw [hv]; exact (Nat.mod_eq_of_lt hn1).symm
  rw [← hc, ← hw, ← hv] at e1
  rw [← hc, ← hw, hw1, hv1] at e2
  have hvn1 : v (n + 1) < 2 ^ 64 := by rw [hv]; exact Nat.mod_lt _ (Nat.two_pow_pos 64)
  have hbig : ∀ j, n + 2 ≤ j → w j = v j := fun j hj => by
    rw [hw, hv, word_zero (Nat.lt_of_le_of_lt (Nat.le_add_right _ _) ht) hj, word_zero ht hj]
  have k1 := mon_n m n l rr
  have hrow : dl 64 11 t = tb 11 w := tb_congr fun j hj => (hw j).symm
  have hend : tb 11 (fun j => if j < n + 2 then v j else w j) = dl 64 11 (t + a * b) := tb_congr fun j hj => by
    by_cases h : j < n + 2
    · rw [if_pos h, hv]
    · rw [if_neg h, hbig j (by omega), hv]
  rw [hrow]
  have hc0 : c 0 = 0 := by rw [hc]; exact rdC_zero t a b
  obtain ⟨X, hX⟩ : ∃ X, X = monL m n l rr := ⟨_, rfl⟩
  rw [← hX] at k1 ⊢
  have hnm : n < 11 := by omega
  have hn1m : n + 1 < 11 := by omega
  simp only [EE,EX,Nat.reduceLeDiff,Nat.reduceEqDiff,Int.reduceEq,reduceCtorEq,Nat.reduceAdd,Nat.reduceMul,if_true,if_false,decide_true,decide_false, k1]
  rw [loop_use T (fun k => ⟨[(0, .vr X 0), (1, .hp 0 0), (2, .u 64 a), (3, .vr L 0), (8, .u 64 (c k)), (17, .i (n : Int)), (18, .i (k : Int))], tH (fun j => if j < k then v j else w j)⟩) n
    (.exit 0, ⟨[(0, .vr X 0), (1, .hp 0 0), (8, .u 64 (c n))], tH (fun j => if j < n then v j else w j)⟩) ?h0 (by simp) ?hs ?hn]
  rotate_left
  · have e : tb 11 w = tb 11 (fun j => if j < 0 then v j else w j) := tb_congr fun j hj => by rw [if_neg (by omega)]
    rw [e, hc0]; rfl
  · intro k hk
    have l1 : decide ((k : Int) < (n : Int)) = true := decide_eq_true (by omega)
    have l2 := ixOf_nat (show k < 9 by omega)
    have l3 := hL k (by omega)
    rw [← hy] at l3
    have l4 := r_Mul64 ha (hyl k)
    have l5 := ixOf_nat (show k < 11 by omega)
    have l6 := part11 (fun j => if j < k then v j else w j) k (by omega)
    rw [if_neg (by omega)] at l6
    have l7 : (k + 1 ≤ 11) = True := by simp; omega
    obtain ⟨k1', hk1'⟩ : ∃ z, z = k + 1 := ⟨_, rfl⟩
    have l8 : F (w64 ((k : Int) + 1)) (k1' : Int) := ⟨by unfold w64; omega⟩
    have hab : a * y k ≤ 18446744073709551615 * 18446744073709551615 := Nat.mul_le_mul (by omega) (by have := hyl k; omega)
    obtain ⟨w1, w2⟩ := mul_word (u := c k) hab (hcl k) (hwl k)
    have g1 := hlo k
    have g2 := hhi k
    rw [show w k + c k + a * y k = c k + w k + a * y k by omega] at w1 w2
    rw [g1] at w1
    rw [g2] at w2
    have l9 : tb 11 (fun j => if j = k then v k else if j < k then v j else w j) = tb 11 (fun j => if j < k1' then v j else w j) := tb_congr fun j hj => by
      by_cases h : j = k
      · rw [if_pos h, if_pos (by omega), h]
      · rw [if_neg h]
        by_cases h2 : j < k
        · rw [if_pos h2, if_pos (by omega)]
        · rw [if_neg h2, if_neg (by omega)]
    obtain ⟨ab, hab'⟩ : ∃ z, z = a * y k := ⟨_, rfl⟩
    rw [← hab'] at l4 w1 w2
    obtain ⟨hh, hhh⟩ : ∃ z, ab / 2 ^ 64 = z := ⟨_, rfl⟩
    obtain ⟨ll, hll⟩ : ∃ z, ab % 2 ^ 64 = z := ⟨_, rfl⟩
    rw [hhh, hll] at l4 w2
    rw [hll] at w1
    obtain ⟨ls, hls⟩ : ∃ z, (ll + c k) % 2 ^ 64 = z := ⟨_, rfl⟩
    obtain ⟨c1, hc1⟩ : ∃ z, (ll + c k) / 2 ^ 64 = z := ⟨_, rfl⟩
    rw [hls] at w1
    rw [hls, hc1] at w2
    have w1' : (w k + ls) % 2 ^ 64 = v k := by rw [Nat.add_comm]; exact w1
    obtain ⟨c2, hc2⟩ : ∃ z, (w k + ls) / 2 ^ 64 = z := ⟨_, rfl⟩
    rw [Nat.add_comm ls, hc2] at w2
    have d01 : (0 ≤ 1) = True := by simp
    rw [← hk1'] at w2 ⊢
    simp only [tH]
    simp only [EE,EX,Nat.reduceLeDiff,Nat.reduceEqDiff,Int.reduceEq,reduceCtorEq,Nat.reduceAdd,Nat.reduceMul,if_true,if_false,decide_true,decide_false, l1, l2, l3, l4, l5, l6, l7, l8.eq, l9, hls, hc1, w1', hc2, w2]
  · have l1 : decide ((n : Int) < (n : Int)) = false := by simp
    simp only [tH]
    simp only [EE,EX,Nat.reduceLeDiff,Nat.reduceEqDiff,Int.reduceEq,reduceCtorEq,Nat.reduceAdd,Nat.reduceMul,if_true,if_false,decide_true,decide_false, l1]
  have l1 := ixOf_nat hnm
  have l2 := part11 (fun j => if j < n then v j else w j) n hnm
  rw [if_neg (by omega)] at l2
  have l3 : (n + 1 ≤ 11) = True := by simp; omega
  obtain ⟨n1, hn1'⟩ : ∃ z, z = n + 1 := ⟨_, rfl⟩
  rw [← hn1'] at e2 hvn1 hn1m
  have l4 : F (w64 ((n : Int) + 1)) (n1 : Int) := ⟨by unfold w64; omega⟩
  have l5 := ixOf_nat hn1m
  have l6 := part11 (fun j => if j = n then v n else if j < n then v j else w j) n1 hn1m
  rw [if_neg (by omega), if_neg (by omega)] at l6
  have l7 : (n1 + 1 ≤ 11) = True := by simp; omega
  have e1' : (w n + c n) % 2 ^ 64 = v n := by rw [Nat.add_comm]; exact e1
  rw [Nat.add_comm (c n)] at e2
  obtain ⟨c2, hc2⟩ : ∃ z, (w n + c n) / 2 ^ 64 = z := ⟨_, rfl⟩
  rw [hc2] at e2
  have e3 : (w n1 + c2) % 2 ^ 64 = v n1 := by rw [e2]; exact Nat.mod_eq_of_lt hvn1
  have l8 : tb 11 (fun j => if j = n1 then v n1 else if j = n then v n else if j < n then v j else w j) = dl 64 11 (t + a * b) := by
    rw [← hend]
    exact tb_congr fun j hj => by
      by_cases h : j = n1
      · rw [if_pos h, if_pos (by omega), h]
      · rw [if_neg h]
        by_cases h2 : j = n
        · rw [if_pos h2, if_pos (by omega), h2]
        · rw [if_neg h2]
          by_cases h3 : j < n
          · rw [if_pos h3, if_pos (by omega)]
          · rw [if_neg h3, if_neg (by omega)]
  have l9 : ∀ R, [some (us 64 R)].all (lowR 1) = true := fun R => by simp [lowR, us_low]
  simp only [tH]
  simp only [EE,EX,Nat.reduceLeDiff,Nat.reduceEqDiff,Int.reduceEq,reduceCtorEq,Nat.reduceAdd,Nat.reduceMul,if_true,if_false,decide_true,decide_false, k1, l1, l2, l3, l4.eq, l5, l6, l7, e1', hc2, e3, l8, l9, List.take_succ_cons, List.take_nil]

end Mir

namespace Mir

/-- One step of the reduction: a word times b is added, then so much of m that the lowest word is 0; that one is dropped. -/
def rdT1 (t a b : Nat) : Nat := t + a * b
def rdQ (l T : Nat) : Nat := T % 2 ^ 64 * l % 2 ^ 64
def rdT2 (m l T : Nat) : Nat := T + rdQ l T * m
def rdSt (m l a b : Nat) : Nat → Nat
  | 0 => 0
  | i + 1 => rdT2 m l (rdT1 (rdSt m l a b i) (a / 2 ^ (64 * i) % 2 ^ 64) b) / 2 ^ 64

theorem rdT2_ge (m l T : Nat) : T ≤ rdT2 m l T := Nat.le_add_right T _
theorem rdQ_lt (l T : Nat) : rdQ l T < 2 ^ 64 := Nat.mod_lt _ (Nat.two_pow_pos 64)
theorem rdT2_zero {m l T : Nat} (h : (m * l + 1) % 2 ^ 64 = 0) : rdT2 m l T % 2 ^ 64 = 0 := by
  unfold rdT2 rdQ
  have e1 : (T + T % 2 ^ 64 * l % 2 ^ 64 * m) % 2 ^ 64 = (T % 2 ^ 64 * (m * l + 1)) % 2 ^ 64 := by
    rw [Nat.add_mod, Nat.mod_mul_mod, ← Nat.mod_mod T (2 ^ 64), ← Nat.add_mod, Nat.mul_add, Nat.mul_one, Nat.mod_mod, Nat.mul_assoc, Nat.mul_comm l m, Nat.add_comm]
  rw [e1, Nat.mul_mod, h, Nat.mul_zero, Nat.zero_mod]
theorem rdSt_lt {m l a b : Nat} (hm : 0 < m) : ∀ i, rdSt m l a b i < m + b
  | 0 => by show 0 < m + b; omega
  | i + 1 => by
    have ih := rdSt_lt (l := l) (a := a) (b := b) hm i
    show rdT2 m l _ / 2 ^ 64 < m + b
    rw [Nat.div_lt_iff_lt_mul (Nat.two_pow_pos 64)]
    unfold rdT2 rdT1
    have h1 : a / 2 ^ (64 * i) % 2 ^ 64 * b ≤ (2 ^ 64 - 1) * b := Nat.mul_le_mul_right _ (by have := Nat.mod_lt (a / 2 ^ (64 * i)) (Nat.two_pow_pos 64); omega)
    have h2 : rdQ l (rdSt m l a b i + a / 2 ^ (64 * i) % 2 ^ 64 * b) * m ≤ (2 ^ 64 - 1) * m := Nat.mul_le_mul_right _ (by have := rdQ_lt l (rdSt m l a b i + a / 2 ^ (64 * i) % 2 ^ 64 * b); omega)
    omega
theorem rdT_fit {m l a b n i : Nat} (hm : 0 < m) (hmn : m < 2 ^ (64 * n)) (hb : b ≤ m) :
    rdT1 (rdSt m l a b i) (a / 2 ^ (64 * i) % 2 ^ 64) b < 2 ^ (64 * (n + 2)) ∧ rdT2 m l (rdT1 (rdSt m l a b i) (a / 2 ^ (64 * i) % 2 ^ 64) b) < 2 ^ (64 * (n + 2)) := by
  have h := rdSt_lt (l := l) (a := a) (b := b) hm (i + 1)
  have h1 : rdT2 m l (rdT1 (rdSt m l a b i) (a / 2 ^ (64 * i) % 2 ^ 64) b) < (m + b) * 2 ^ 64 := by
    have : rdT2 m l _ / 2 ^ 64 < m + b := h
    rwa [Nat.div_lt_iff_lt_mul (Nat.two_pow_pos 64)] at this
  have h2 : 2 ^ (64 * (n + 2)) = 2 ^ (64 * n) * 2 ^ 64 * 2 ^ 64 := by rw [← Nat.pow_add, ← Nat.pow_add]; congr 1
  obtain ⟨X, hX⟩ : ∃ X, X = rdT1 (rdSt m l a b i) (a / 2 ^ (64 * i) % 2 ^ 64) b := ⟨_, rfl⟩
  rw [← hX] at h1 ⊢
  have hge := rdT2_ge m l X
  obtain ⟨Z, hZ⟩ : ∃ Z, Z = rdT2 m l X := ⟨_, rfl⟩
  rw [← hZ] at h1 hge ⊢
  rw [h2]
  obtain ⟨P, hP⟩ : ∃ P, P = 2 ^ (64 * n) := ⟨_, rfl⟩
  rw [← hP] at hmn ⊢
  clear h hX hZ h2 hP
  have h4 : m + b ≤ P * 2 ^ 64 := by
    have : P * 2 ≤ P * 2 ^ 64 := Nat.mul_le_mul_left _ (by decide)
    omega
  have h3 : Z < P * 2 ^ 64 * 2 ^ 64 := Nat.lt_of_lt_of_le h1 (Nat.mul_le_mul_right _ h4)
  exact ⟨Nat.lt_of_le_of_lt hge h3, h3⟩
theorem red_step {t w b q m P A : Nat} (h : t * P % m = A * b % m) : (t + w * b + q * m) * P % m = (A + P * w) * b % m := by
  rw [Nat.add_mul (t + w * b), Nat.mul_right_comm q m P, Nat.add_mul_mod_self_right, Nat.add_mul t, Nat.add_mod, h, ← Nat.add_mod, Nat.add_mul A]
  congr 2
  rw [Nat.mul_right_comm, Nat.mul_comm w P]
theorem rdSt_mod {m l a b : Nat} (h : (m * l + 1) % 2 ^ 64 = 0) : ∀ i, rdSt m l a b i * 2 ^ (64 * i) % m = a % 2 ^ (64 * i) * b % m
  | 0 => by simp [rdSt, Nat.mod_one]
  | i + 1 => by
    have ih := rdSt_mod (a := a) (b := b) h i
    have h1 := Nat.div_add_mod (rdT2 m l (rdT1 (rdSt m l a b i) (a / 2 ^ (64 * i) % 2 ^ 64) b)) (2 ^ 64)
    rw [rdT2_zero h, Nat.add_zero] at h1
    have e1 : rdSt m l a b (i + 1) * 2 ^ (64 * (i + 1)) = rdT2 m l (rdT1 (rdSt m l a b i) (a / 2 ^ (64 * i) % 2 ^ 64) b) * 2 ^ (64 * i) := by
      rw [show 64 * (i + 1) = 64 + 64 * i by omega, Nat.pow_add, ← Nat.mul_assoc]
      congr 1
      rw [Nat.mul_comm]; exact h1
    rw [e1, mod_succ64]
    exact red_step ih

theorem cpyl_gen {kp : List Nat} {e : Env} {h : Heap} {r : List MO} {d s off n cap b : Nat} {rs : List Nat} {x y : Opd} {L m : List V} (h1 : ev e x = .ls 1 s off n cap) (h2 : get e s = .loc L) (h3 : sliceCellsL e h rs (ev e y) = some m) (h4 : lenV (ev e y) = some b)
    (hm : m.length = b) (hc : m.all cellV = true) (hL : off + n ≤ L.length) (hb : b < 9223372036854775808) :
    rg T kp e h (⟨some d, none, .cpyl s 1 rs x y⟩ :: r) = rg T kp ((d, .i ((min b n : Nat) : Int)) :: (s, .loc (L.take off ++ m.take (min b n) ++ L.drop (off + min b n))) :: e) h r := by
  rw [rg_step]
  have e4 : stepO (Run T) ⟨some d, none, .cpyl s 1 rs x y⟩ ⟨e, h⟩ = some ⟨(d, .i ((min b n : Nat) : Int)) :: (s, .loc (L.take off ++ m.take (min b n) ++ L.drop (off + min b n))) :: e, h⟩ := by
    simp only [stepO, doO, h1, h2, h3, h4]
    rw [if_pos ⟨trivial, trivial⟩, if_pos ⟨by omega, hc, by omega, hb⟩]
    simp only [Nat.mul_one]
    rfl
  rw [e4]

theorem tb_ext {n : Nat} {l : List Nat} {f : Nat → Nat} (hl : l.length = n) (h : ∀ j, j < n → l.getD j 0 = f j) : l = tb n f := by
  apply List.ext_getElem
  · rw [hl, tb_len]
  · intro k h1 h2
    have := h k (by omega)
    simp [h1] at this
    rw [this]
    simp [tb]

/-- The words go down by one. -/
theorem shr_row (X : Nat) : cpyO [some (us 64 (dl 64 11 X))] 1 (some (us 64 (((dl 64 11 X).drop 1).take 10))) (some 10) (.hs 1 0 0 11 11) =
    some (.i 10, [some (us 64 (tb 11 fun j => if j < 10 then X / 2 ^ (64 * (j + 1)) % 2 ^ 64 else X / 2 ^ (64 * 10) % 2 ^ 64))]) := by
  simp only [cpyO, row]
  rw [if_pos ⟨trivial, by simp [us_len, dl_len], us_cellV 64 _, by omega⟩]
  simp only [List.getElem?_cons_zero]
  rw [if_pos (by simp [us_len, dl_len])]
  simp only [setRow]
  rfl

theorem out_row {n X : Nat} (hn : n ≤ 9) : List.take 0 (us 64 (dl 64 9 0)) ++ (us 64 ((dl 64 11 X).take n)).take (min n 9) ++ (us 64 (dl 64 9 0)).drop (0 + min n 9) = us 64 (dl 64 9 (X % 2 ^ (64 * n))) := by
  rw [Nat.min_eq_left hn, Nat.zero_add, List.take_zero, List.nil_append, us_take, us_drop]
  show List.map _ _ ++ List.map _ _ = List.map _ _
  rw [← List.map_append]
  congr 1
  rw [List.take_take, Nat.min_self]
  refine tb_ext (by simp [dl_len]; omega) fun j hj => ?_
  by_cases h : j < n
  · have e1 : X % 2 ^ (64 * n) / 2 ^ (64 * j) % 2 ^ 64 = X / 2 ^ (64 * j) % 2 ^ 64 := by
      have := congrArg (fun l => l.getD j 0) (dl_mod 64 n X)
      simp only [dl_getD h] at this
      exact this
    rw [e1, List.getD_eq_getElem?_getD, List.getElem?_append_left (by simp [dl_len]; omega), List.getElem?_take_of_lt h, ← List.getD_eq_getElem?_getD, dl_getD (by omega)]
  · have e1 : X % 2 ^ (64 * n) / 2 ^ (64 * j) % 2 ^ 64 = 0 := word_zero (Nat.mod_lt _ (Nat.two_pow_pos _)) (by omega)
    rw [e1, List.getD_eq_getElem?_getD, List.getElem?_append_right (by simp [dl_len]; omega)]
    have hl : (List.take n (dl 64 11 X)).length = n := by simp [dl_len]; omega
    rw [hl, List.getElem?_drop, ← List.getD_eq_getElem?_getD, dl_getD (by omega), Nat.zero_div, Nat.zero_mod]

end Mir

namespace Mir

theorem zero11 : [V.u 64 0, .u 64 0, .u 64 0, .u 64 0, .u 64 0, .u 64 0, .u 64 0, .u 64 0, .u 64 0, .u 64 0, .u 64 0] = us 64 (dl 64 11 0) := rfl
theorem sla11 (X : List Nat) (h : X.length = 11) : slaO false [some (us 64 X)] 11 1 (some (0, 11)) (.hp 0 0) = some (.hs 1 0 0 11 11) := by
  simp [slaO, slaV, row, us_len, h]
theorem sla11b (X : List Nat) (h : X.length = 11) : slaO false [some (us 64 X)] 11 1 (some (1, 11)) (.hp 0 0) = some (.hs 1 0 1 10 10) := by
  simp [slaO, slaV, row, us_len, h]
theorem sla11n (X : List Nat) (n : Nat) (h : X.length = 11) : slaO false [some (us 64 X)] 11 1 (some (0, n)) (.hp 0 0) = some (.hs 1 0 0 n 11) := by
  simp [slaO, slaV, row, us_len, h]

theorem shr_row2 {X : Nat} (hX : X < 2 ^ (64 * 11)) : tb 11 (fun j => if j = 10 then 0 else if j < 10 then X / 2 ^ (64 * (j + 1)) % 2 ^ 64 else X / 2 ^ (64 * 10) % 2 ^ 64) = dl 64 11 (X / 2 ^ 64) := tb_congr fun j hj => by
  have e : X / 2 ^ 64 / 2 ^ (64 * j) = X / 2 ^ (64 * (j + 1)) := by rw [Nat.div_div_eq_div_mul, ← Nat.pow_add]; congr 2; omega
  rw [e]
  by_cases h : j = 10
  · rw [if_pos h, h, word_zero hX (by omega)]
  · rw [if_neg h, if_pos (by omega)]

theorem r_Raw {m l rr a b : Nat} (hm : m < M) (h0 : 0 < m) (hll : l < 2 ^ 64) (hl : (m * l + 1) % 2 ^ 64 = 0) (ha : a < M) (hb : b < m) :
    Run T f_mont_Mont_Raw [.vr (monL m (nw m) l rr) 0, natv a, natv b] [] = some (natv (if rdSt m l a b (nw m) < m then rdSt m l a b (nw m) else rdSt m l a b (nw m) - m), []) := by
  rw [Run_at T _ (show T f_mont_Mont_Raw = some m_mont_Mont_Raw from rfl)]
  simp only [c_mont_Mont_Raw]
  simp only [zero11]
  simp only [zero9]
  have hmn := nw_lt hm
  have hn9 : nw m ≤ 9 := nw_le m
  obtain ⟨n, hn⟩ : ∃ n, n = nw m := ⟨_, rfl⟩
  rw [← hn] at hmn hn9 ⊢
  obtain ⟨S, hS⟩ : ∃ S : Nat → Nat, ∀ i, S i = rdSt m l a b i := ⟨_, fun _ => rfl⟩
  have hS0 : S 0 = 0 := by rw [hS]; rfl
  have hSl : ∀ i, S i < m + b := fun i => by rw [hS]; exact rdSt_lt h0 i
  rw [← hS]
  have k1 := mon_n m n l rr
  have k2 := mon_l m n l rr
  have k3 := mon_m m n l rr
  have rd1 : ∀ (t w c : Nat) (L : List V), (∀ i, i < 9 → part L i none = some (.u 64 (c / 2 ^ (64 * i) % 2 ^ 64))) → c < 2 ^ (64 * n) → w < 2 ^ 64 → t + w * c < 2 ^ (64 * (n + 2)) →
      Run T f_mont_Mont_round [.vr (monL m n l rr) 0, .hp 0 0, .u 64 w, .vr L 0] [some (us 64 (dl 64 11 t))] = some (.tup [], [some (us 64 (dl 64 11 (t + w * c)))]) := fun t w c L h1 h2 h3 h4 => r_round hn9 h1 h2 h3 h4
  have kw : ∀ i, i < 9 → part (monL m n l rr) i none = some (.u 64 (m / 2 ^ (64 * i) % 2 ^ 64)) := fun i hi => mon_w hi
  obtain ⟨X, hX⟩ : ∃ X, X = monL m n l rr := ⟨_, rfl⟩
  rw [← hX] at k1 k2 k3 rd1 kw ⊢
  simp only [EE,EX,Nat.reduceLeDiff,Nat.reduceEqDiff,Int.reduceEq,reduceCtorEq,Nat.reduceAdd,Nat.reduceMul,if_true,if_false,decide_true,decide_false, k1]
  rw [loop_use T (fun k => ⟨[(0, .vr X 0), (4, .vr (us 64 (dl 64 9 a)) 0), (5, .vr (us 64 (dl 64 9 b)) 0), (6, .loc (us 64 (dl 64 9 0))), (7, .hp 0 0), (17, .i (n : Int)), (18, .i (k : Int))], [some (us 64 (dl 64 11 (S k)))]⟩) n
    (.exit 0, ⟨[(0, .vr X 0), (6, .loc (us 64 (dl 64 9 0))), (7, .hp 0 0)], [some (us 64 (dl 64 11 (S n)))]⟩) ?h0 (by simp) ?hs ?hn]
  rotate_left
  · rw [hS0]; rfl
  · intro k hk
    have l1 : decide ((k : Int) < (n : Int)) = true := decide_eq_true (by omega)
    have l2 := ixOf_nat (show k < 9 by omega)
    have l3 := dl_partL (L := 9) (x := a) (show k < 9 by omega)
    obtain ⟨k1', hk1'⟩ : ∃ z, z = k + 1 := ⟨_, rfl⟩
    have l4 : F (w64 ((k : Int) + 1)) (k1' : Int) := ⟨by unfold w64; omega⟩
    obtain ⟨f1, f2⟩ := rdT_fit (l := l) (a := a) (i := k) h0 hmn (Nat.le_of_lt hb)
    rw [← hS] at f1 f2
    have hSk : S (k + 1) = rdT2 m l (rdT1 (S k) (a / 2 ^ (64 * k) % 2 ^ 64) b) / 2 ^ 64 := by rw [hS, hS]; rfl
    obtain ⟨w, hw⟩ : ∃ w, w = a / 2 ^ (64 * k) % 2 ^ 64 := ⟨_, rfl⟩
    have hwl : w < 2 ^ 64 := by rw [hw]; exact Nat.mod_lt _ (Nat.two_pow_pos 64)
    rw [← hw] at l3 f1 f2 hSk
    have c1 := rd1 (S k) w b (us 64 (dl 64 9 b)) (fun i hi => dl_partL hi) (Nat.lt_trans hb hmn) hwl f1
    obtain ⟨T1, hT1⟩ : ∃ z, z = rdT1 (S k) w b := ⟨_, rfl⟩
    have hT1' : S k + w * b = T1 := hT1.symm
    rw [hT1'] at c1
    rw [← hT1] at f2 hSk
    have p0 : part (us 64 (dl 64 11 T1)) 0 none = some (.u 64 (T1 % 2 ^ 64)) := by
      have := dl_partL (L := 11) (x := T1) (show 0 < 11 by omega)
      rw [this, Nat.mul_zero, Nat.pow_zero, Nat.div_one]
    have q1 : T1 % 2 ^ 64 * l % 2 ^ 64 = rdQ l T1 := rfl
    have c2 := rd1 T1 (rdQ l T1) m X kw hmn (rdQ_lt l T1) f2
    have hT2' : T1 + rdQ l T1 * m = rdT2 m l T1 := rfl
    rw [hT2'] at c2
    obtain ⟨q, hq⟩ : ∃ z, z = rdQ l T1 := ⟨_, rfl⟩
    obtain ⟨T2, hT2⟩ : ∃ z, z = rdT2 m l T1 := ⟨_, rfl⟩
    rw [← hq] at c2 q1
    rw [← hT2] at c2 f2 hSk
    have hT2l : T2 < 2 ^ (64 * 11) := Nat.lt_of_lt_of_le f2 (Nat.pow_le_pow_right (by omega) (by omega))
    have s1 := sla11 (dl 64 11 T2) (dl_len 64 11 T2)
    have s2 := sla11b (dl 64 11 T2) (dl_len 64 11 T2)
    have s3 := shr_row T2
    have s4 := shr_row2 hT2l
    have i12 : ixOf 12 (.i 1) = some 1 := rfl
    have i11 : ixOf 11 (.i 0) = some 0 := rfl
    have i10 : ixOf 11 (.i 10) = some 10 := rfl
    rw [← hk1', hk1', hSk, ← hk1']
    simp only [EE,EX,Nat.reduceLeDiff,Nat.reduceEqDiff,Int.reduceEq,reduceCtorEq,Nat.reduceAdd,Nat.reduceMul,if_true,if_false,decide_true,decide_false, l1, l2, l3, l4.eq, c1, p0, k2, q1, c2, s1, s2, s3, s4, i12, i11, i10]
  · have l1 : decide ((n : Int) < (n : Int)) = false := by simp
    simp only [EE,EX,Nat.reduceLeDiff,Nat.reduceEqDiff,Int.reduceEq,reduceCtorEq,Nat.reduceAdd,Nat.reduceMul,if_true,if_false,decide_true,decide_false, l1]
  obtain ⟨Z, hZ⟩ : ∃ Z, Z = S n := ⟨_, rfl⟩
  have hZl : Z < m + b := by rw [hZ]; exact hSl n
  rw [← hZ]
  obtain ⟨P, hP⟩ : ∃ P, P = 2 ^ (64 * n) := ⟨_, rfl⟩
  have hPM : ∃ K, M = P * K := ⟨2 ^ (64 * (9 - n)), by rw [hP, ← Nat.pow_add]; unfold M; congr 1; omega⟩
  have hPp : 0 < P := by rw [hP]; exact Nat.two_pow_pos _
  have hPleM : P ≤ M := by obtain ⟨K, hK⟩ := hPM; rw [hK]; exact Nat.le_mul_of_pos_right _ (Nat.pos_of_ne_zero fun h => by rw [h, Nat.mul_zero] at hK; unfold M at hK; have := Nat.two_pow_pos 576; omega)
  rw [← hP] at hmn
  have s1 := sla11n (dl 64 11 Z) n (dl_len 64 11 Z)
  have i12 := ixOf_nat (show n < 12 by omega)
  have i11 := ixOf_nat (show n < 11 by omega)
  have o1 := out_row (X := Z) hn9
  rw [← hP] at o1
  have cp : ∀ {kp : List Nat} {e : Env} {r : List MO} {x y : Opd}, ev e x = .ls 1 10 0 9 9 → get e 10 = .loc (us 64 (dl 64 9 0)) → ev e y = .hs 1 0 0 n 11 →
      rg T kp e [some (us 64 (dl 64 11 Z))] (⟨some 52, none, .cpyl 10 1 [] x y⟩ :: r) = rg T kp ((52, .i ((n : Nat) : Int)) :: (10, .loc (us 64 (dl 64 9 (Z % P)))) :: e) [some (us 64 (dl 64 11 Z))] r := fun {kp e r x y} h1 h2 h3 => by
    have h4 : sliceCellsL e [some (us 64 (dl 64 11 Z))] [] (ev e y) = some (us 64 ((dl 64 11 Z).take n)) := by
      rw [h3]
      show sliceCells [some (us 64 (dl 64 11 Z))] (.hs 1 0 0 n 11) = _
      rw [GM]
      show scR 1 0 n (some (us 64 (dl 64 11 Z))) = _
      rw [GN 0 n 64 (dl 64 11 Z) (by rw [dl_len]; omega), List.drop_zero]
    have h5 : lenV (ev e y) = some n := by rw [h3]; rfl
    have := cpyl_gen (kp := kp) (r := r) (d := 52) h1 h2 h4 h5 (by simp [us_len, dl_len]; omega) (us_cellV _ _) (by rw [us_len, dl_len]; omega) (by omega)
    rw [o1, Nat.min_eq_left hn9] at this
    exact this
  have hPl : Z % P < M := Nat.lt_of_lt_of_le (Nat.mod_lt _ hPp) hPleM
  have c1 := r_natSub (x := Z % P) (y := m) hPl hm
  have p1 := dl_partL (L := 11) (x := Z) (show n < 11 by omega)
  rw [← hP] at p1
  have hZP : Z / P % 2 ^ 64 = Z / P := by
    apply Nat.mod_eq_of_lt
    rw [Nat.div_lt_iff_lt_mul hPp]; omega
  rw [hZP] at p1
  simp only [EE,EX,Nat.reduceLeDiff,Nat.reduceEqDiff,Int.reduceEq,reduceCtorEq,Nat.reduceAdd,Nat.reduceMul,if_true,if_false,decide_true,decide_false, k1, k3, s1, i12, i11, cp, c1, p1]
  by_cases hlt : Z < m
  · have e1 : Z % P = Z := Nat.mod_eq_of_lt (by omega)
    have e2 : Z / P = 0 := Nat.div_eq_of_lt (by omega)
    have d1 : decide (Z < m) = true := decide_eq_true hlt
    have d2 : decide ((0 : Nat) = 0) = true := rfl
    rw [e1, e2, if_pos hlt]
    simp only [EE,EX,Nat.reduceLeDiff,Nat.reduceEqDiff,Int.reduceEq,reduceCtorEq,Nat.reduceAdd,Nat.reduceMul,if_true,if_false,decide_true,decide_false, k1, d1, d2, Bool.not_true, Bool.not_false]
  · rw [if_neg hlt]
    obtain ⟨D, hD⟩ : ∃ D, D = (Z % P + M - m) % M := ⟨_, rfl⟩
    have hDP : D % P = Z - m := by
      obtain ⟨K, hK⟩ := hPM
      have h1 : M % P = 0 := by rw [hK]; exact Nat.mul_mod_right P K
      have h2 : D % P = (Z % P + M - m) % P := by
        rw [hD, hK]
        exact Nat.mod_mul_right_mod _ _ _
      have h3 : Z % P + M - m + Z / P * P = Z - m + K * P := by
        have := Nat.mod_add_div Z P
        rw [Nat.mul_comm] at this
        rw [Nat.mul_comm K P, ← hK]
        omega
      have h4 : (Z % P + M - m + Z / P * P) % P = (Z - m + K * P) % P := by rw [h3]
      rw [Nat.add_mul_mod_self_right, Nat.add_mul_mod_self_right, ← h2] at h4
      rw [h4]
      exact Nat.mod_eq_of_lt (by omega)
    rw [← hD]
    obtain ⟨w, hw⟩ : ∃ f : Nat → Nat, ∀ j, f j = D / 2 ^ (64 * j) % 2 ^ 64 := ⟨_, fun _ => rfl⟩
    have hrow : dl 64 9 D = tb 9 w := tb_congr fun j hj => (hw j).symm
    have hDl : D % P < 2 ^ (64 * n) := by rw [← hP]; exact Nat.mod_lt _ hPp
    have hend : tb 9 (fun j => if n ≤ j ∧ j < n + (9 - n) then 0 else w j) = dl 64 9 (Z - m) := by
      rw [← hDP]
      refine tb_congr fun j hj => ?_
      by_cases h : n ≤ j
      · rw [if_pos ⟨h, by omega⟩, word_zero hDl h]
      · rw [if_neg (by omega), hw]
        have := congrArg (fun l => l.getD j 0) (dl_mod 64 n D)
        simp only [dl_getD (show j < n by omega)] at this
        rw [hP]
        exact this.symm
    have go : ∀ (d1 : Bool) (nz : Bool), nz = !decide (Z / P = 0) → d1 = decide (Z % P < m) → (nz = true ∨ d1 = false) := fun d1 nz h1 h2 => by
      by_cases h : Z / P = 0
      · right
        rw [h2]
        have h5 : Z < P := by
          rcases Nat.lt_or_ge Z P with h | h'
          · exact h
          · have := Nat.div_pos h' hPp
            omega
        rw [Nat.mod_eq_of_lt h5]
        exact decide_eq_false hlt
      · left; rw [h1, decide_eq_false h]; rfl
    rw [hrow]
    by_cases hz : Z / P = 0
    · have d2 : decide (Z / P = 0) = true := decide_eq_true hz
      have d1 : decide (Z % P < m) = false := by
        rcases go _ _ rfl rfl with h | h
        · rw [d2] at h; simp at h
        · exact h
      simp only [EE,EX,Nat.reduceLeDiff,Nat.reduceEqDiff,Int.reduceEq,reduceCtorEq,Nat.reduceAdd,Nat.reduceMul,if_true,if_false,decide_true,decide_false, k1, d1, d2, Bool.not_true, Bool.not_false]
      rw [loop_use T (fun k => ⟨[(6, .loc (us 64 (dl 64 9 0))), (11, .loc (us 64 (tb 9 fun j => if n ≤ j ∧ j < n + k then 0 else w j))), (13, .i ((n + k : Nat) : Int))], [some (us 64 (dl 64 11 Z))]⟩) (9 - n)
        (.exit 2, ⟨[(6, .loc (us 64 (dl 64 9 0))), (11, .loc (us 64 (dl 64 9 (Z - m))))], [some (us 64 (dl 64 11 Z))]⟩) ?h0b (by simp) ?hsb ?hnb]
      rotate_left
      · have e : tb 9 w = tb 9 (fun j => if n ≤ j ∧ j < n + 0 then 0 else w j) := tb_congr fun j hj => by rw [if_neg (by omega)]
        rw [← e]; rfl
      · intro k hk
        obtain ⟨nk, hnk⟩ : ∃ z, z = n + k := ⟨_, rfl⟩
        have b1 : decide ((nk : Int) < 9) = true := decide_eq_true (by omega)
        have b2 := ixOf_nat (show nk < 9 by omega)
        have b3 : F (w64 ((nk : Int) + 1)) ((nk + 1 : Nat) : Int) := ⟨by unfold w64; omega⟩
        have b4 : (nk + 1 ≤ 9) = True := by simp; omega
        have b5 : tb 9 (fun j => if j = nk then 0 else if n ≤ j ∧ j < nk then 0 else w j) = tb 9 (fun j => if n ≤ j ∧ j < nk + 1 then 0 else w j) := tb_congr fun j hj => by
          by_cases h : j = nk
          · rw [if_pos h, if_pos (by omega)]
          · rw [if_neg h]
            by_cases h2 : n ≤ j ∧ j < nk
            · rw [if_pos h2, if_pos (by omega)]
            · rw [if_neg h2, if_neg (by omega)]
        rw [← Nat.add_assoc, ← hnk]
        simp only [EE,EX,Nat.reduceLeDiff,Nat.reduceEqDiff,Int.reduceEq,reduceCtorEq,Nat.reduceAdd,Nat.reduceMul,if_true,if_false,decide_true,decide_false, b1, b2, b3.eq, b4, b5]
      · have b1 : decide (((n + (9 - n) : Nat) : Int) < 9) = false := decide_eq_false (by omega)
        rw [hend]
        simp only [EE,EX,Nat.reduceLeDiff,Nat.reduceEqDiff,Int.reduceEq,reduceCtorEq,Nat.reduceAdd,Nat.reduceMul,if_true,if_false,decide_true,decide_false, b1]
      simp only [EE,EX,Nat.reduceLeDiff,Nat.reduceEqDiff,Int.reduceEq,reduceCtorEq,Nat.reduceAdd,Nat.reduceMul,if_true,if_false,decide_true,decide_false]
    · have d2 : decide (Z / P = 0) = false := decide_eq_false hz
      simp only [EE,EX,Nat.reduceLeDiff,Nat.reduceEqDiff,Int.reduceEq,reduceCtorEq,Nat.reduceAdd,Nat.reduceMul,if_true,if_false,decide_true,decide_false, k1, d2, Bool.not_true, Bool.not_false]
      rw [loop_use T (fun k => ⟨[(6, .loc (us 64 (dl 64 9 0))), (11, .loc (us 64 (tb 9 fun j => if n ≤ j ∧ j < n + k then 0 else w j))), (13, .i ((n + k : Nat) : Int))], [some (us 64 (dl 64 11 Z))]⟩) (9 - n)
        (.exit 2, ⟨[(6, .loc (us 64 (dl 64 9 0))), (11, .loc (us 64 (dl 64 9 (Z - m))))], [some (us 64 (dl 64 11 Z))]⟩) ?h0c (by simp) ?hsc ?hnc]
      rotate_left
      · have e : tb 9 w = tb 9 (fun j => if n ≤ j ∧ j < n + 0 then 0 else w j) := tb_congr fun j hj => by rw [if_neg (by omega)]
        rw [← e]; rfl
      · intro k hk
        obtain ⟨nk, hnk⟩ : ∃ z, z = n + k := ⟨_, rfl⟩
        have b1 : decide ((nk : Int) < 9) = true := decide_eq_true (by omega)
        have b2 := ixOf_nat (show nk < 9 by omega)
        have b3 : F (w64 ((nk : Int) + 1)) ((nk + 1 : Nat) : Int) := ⟨by unfold w64; omega⟩
        have b4 : (nk + 1 ≤ 9) = True := by simp; omega
        have b5 : tb 9 (fun j => if j = nk then 0 else if n ≤ j ∧ j < nk then 0 else w j) = tb 9 (fun j => if n ≤ j ∧ j < nk + 1 then 0 else w j) := tb_congr fun j hj => by
          by_cases h : j = nk
          · rw [if_pos h, if_pos (by omega)]
          · rw [if_neg h]
            by_cases h2 : n ≤ j ∧ j < nk
            · rw [if_pos h2, if_pos (by omega)]
            · rw [if_neg h2, if_neg (by omega)]
        rw [← Nat.add_assoc, ← hnk]
        simp only [EE,EX,Nat.reduceLeDiff,Nat.reduceEqDiff,Int.reduceEq,reduceCtorEq,Nat.reduceAdd,Nat.reduceMul,if_true,if_false,decide_true,decide_false, b1, b2, b3.eq, b4, b5]
      · have b1 : decide (((n + (9 - n) : Nat) : Int) < 9) = false := decide_eq_false (by omega)
        rw [hend]
        simp only [EE,EX,Nat.reduceLeDiff,Nat.reduceEqDiff,Int.reduceEq,reduceCtorEq,Nat.reduceAdd,Nat.reduceMul,if_true,if_false,decide_true,decide_false, b1]
      simp only [EE,EX,Nat.reduceLeDiff,Nat.reduceEqDiff,Int.reduceEq,reduceCtorEq,Nat.reduceAdd,Nat.reduceMul,if_true,if_false,decide_true,decide_false]

end Mir

namespace Mir

theorem two_dvd {a b : Nat} (h : a ≤ b) : (2 : Int) ^ a ∣ 2 ^ b := ⟨2 ^ (b - a), by rw [← Int.pow_add]; congr 1; omega⟩
/-- A step of Newton's: twice as many bits of an inverse. -/
theorem newton {m x x' : Int} {e e' : Nat} (h : (2 : Int) ^ e ∣ m * x - 1) (he : e' ≤ 2 * e) (he2 : e' ≤ 64) (hx : (2 : Int) ^ 64 ∣ x' - x * (2 - m * x)) : (2 : Int) ^ e' ∣ m * x' - 1 := by
  have e1 : m * x' - 1 = m * (x' - x * (2 - m * x)) - (m * x - 1) * (m * x - 1) := by grind
  rw [e1]
  refine Int.dvd_sub (Int.dvd_mul_of_dvd_right (Int.dvd_trans (two_dvd he2) hx)) ?_
  refine Int.dvd_trans (two_dvd he) ?_
  rw [Nat.two_mul, Int.pow_add]
  exact Int.mul_dvd_mul h h
theorem newton_nat {m x : Nat} : (2 : Int) ^ 64 ∣ ((x * ((2 + 2 ^ 64 - m * x % 2 ^ 64) % 2 ^ 64) % 2 ^ 64 : Nat) : Int) - (x : Int) * (2 - (m : Int) * (x : Int)) := by
  obtain ⟨y, hy⟩ : ∃ y, y = m * x := ⟨_, rfl⟩
  have hy' : (m : Int) * (x : Int) = (y : Int) := by rw [hy]; exact (Int.natCast_mul m x).symm
  rw [← hy, hy']
  obtain ⟨z, hz⟩ : ∃ z, z = (2 + 2 ^ 64 - y % 2 ^ 64) % 2 ^ 64 := ⟨_, rfl⟩
  rw [← hz]
  obtain ⟨k, hk⟩ : ∃ k : Int, (z : Int) = 2 - (y : Int) + 2 ^ 64 * k := ⟨((z : Int) - (2 - (y : Int))) / 2 ^ 64, by omega⟩
  have h1 : ((x * z % 2 ^ 64 : Nat) : Int) = (x : Int) * (z : Int) - 2 ^ 64 * (((x * z / 2 ^ 64 : Nat)) : Int) := by
    have := Nat.mod_add_div (x * z) (2 ^ 64)
    rw [← Int.natCast_mul]
    omega
  rw [h1, hk, Int.mul_add]
  refine ⟨(x : Int) * k - ((x * z / 2 ^ 64 : Nat) : Int), ?_⟩
  rw [Int.mul_sub, Int.mul_left_comm]
  omega

/-- The inverse that New works out, step by step. -/
def invN (m0 : Nat) : Nat → Nat
  | 0 => m0
  | k + 1 => invN m0 k * ((2 + 2 ^ 64 - m0 * invN m0 k % 2 ^ 64) % 2 ^ 64) % 2 ^ 64
theorem invN_lt {m0 : Nat} (h : m0 < 2 ^ 64) : ∀ k, invN m0 k < 2 ^ 64
  | 0 => h
  | k + 1 => Nat.mod_lt _ (Nat.two_pow_pos 64)
theorem odd_sq {m0 : Nat} (h : m0 % 2 = 1) : (2 : Int) ^ 3 ∣ (m0 : Int) * (m0 : Int) - 1 := by
  obtain ⟨k, hk⟩ : ∃ k : Nat, m0 = 2 * k + 1 := ⟨m0 / 2, by omega⟩
  subst hk
  have e1 : (((2 * k + 1 : Nat)) : Int) * ((2 * k + 1 : Nat) : Int) - 1 = 4 * ((k : Int) * ((k : Int) + 1)) := by
    have : (((2 * k + 1 : Nat)) : Int) = 2 * (k : Int) + 1 := by omega
    rw [this]
    grind
  have h2 : (2 : Int) ∣ (k : Int) * ((k : Int) + 1) := by
    rcases (show k % 2 = 0 ∨ k % 2 = 1 by omega) with h | h
    · exact Int.dvd_mul_of_dvd_left ⟨((k / 2 : Nat) : Int), by omega⟩
    · exact Int.dvd_mul_of_dvd_right ⟨(((k + 1) / 2 : Nat) : Int), by omega⟩
  rw [e1]
  obtain ⟨c, hc⟩ := h2
  rw [hc]
  exact ⟨c, by rw [← Int.mul_assoc]; rfl⟩
theorem invN_dvd {m0 : Nat} (h : m0 % 2 = 1) : (2 : Int) ^ 64 ∣ (m0 : Int) * ((invN m0 5 : Nat) : Int) - 1 := by
  have s0 : (2 : Int) ^ 3 ∣ (m0 : Int) * ((invN m0 0 : Nat) : Int) - 1 := odd_sq h
  have s1 := newton (e' := 6) s0 (by omega) (by omega) (newton_nat (m := m0) (x := invN m0 0))
  have s2 := newton (e' := 12) s1 (by omega) (by omega) (newton_nat (m := m0) (x := invN m0 1))
  have s3 := newton (e' := 24) s2 (by omega) (by omega) (newton_nat (m := m0) (x := invN m0 2))
  have s4 := newton (e' := 48) s3 (by omega) (by omega) (newton_nat (m := m0) (x := invN m0 3))
  exact newton (e' := 64) s4 (by omega) (by omega) (newton_nat (m := m0) (x := invN m0 4))

/-- Minus the inverse of a number's lowest word. -/
def lessV (m : Nat) : Nat := (2 ^ 64 - invN (m % 2 ^ 64) 5) % 2 ^ 64
theorem lessV_lt (m : Nat) : lessV m < 2 ^ 64 := Nat.mod_lt _ (Nat.two_pow_pos 64)
theorem lessV_ok {m : Nat} (h : m % 2 = 1) : (m * lessV m + 1) % 2 ^ 64 = 0 := by
  obtain ⟨m0, hm0⟩ : ∃ m0, m0 = m % 2 ^ 64 := ⟨_, rfl⟩
  have h1 := invN_dvd (m0 := m0) (by omega)
  have hl := invN_lt (m0 := m0) (by omega) 5
  obtain ⟨c, hc⟩ := h1
  unfold lessV
  rw [← hm0]
  obtain ⟨y, hy⟩ : ∃ y, y = invN m0 5 := ⟨_, rfl⟩
  rw [← hy] at hc hl ⊢
  have e1 : m * ((2 ^ 64 - y) % 2 ^ 64) % 2 ^ 64 = m0 * (2 ^ 64 - y) % 2 ^ 64 := by rw [Nat.mul_mod_mod, hm0, Nat.mod_mul_mod]
  rw [Nat.add_mod, e1, ← Nat.add_mod_eq_add_mod_right _ rfl]
  have e2 : (((m0 * (2 ^ 64 - y) + 1 : Nat)) : Int) = 2 ^ 64 * ((m0 : Int) - c) := by
    rw [Int.natCast_add, Int.natCast_mul, Int.natCast_sub (Nat.le_of_lt hl), Int.mul_sub, Int.mul_sub, ← hc]
    have : (m0 : Int) * (((2 : Nat) ^ 64 : Nat) : Int) = 2 ^ 64 * (m0 : Int) := by rw [Int.mul_comm]; rfl
    rw [this]
    omega
  have e3 : (m0 * (2 ^ 64 - y) % 2 ^ 64 + 1 % 2 ^ 64) % 2 ^ 64 = (m0 * (2 ^ 64 - y) + 1) % 2 ^ 64 := by rw [← Nat.add_mod]
  rw [e3]
  omega

end Mir

namespace Mir

theorem zero20 : [V.u 64 0, .u 64 0, .u 64 0, .u 64 0, .u 64 0, .u 64 0, .u 64 0, .u 64 0, .u 64 0, .i 0, .u 64 0, .u 64 0, .u 64 0, .u 64 0, .u 64 0, .u 64 0, .u 64 0, .u 64 0, .u 64 0, .u 64 0] = monL 0 0 0 0 := rfl
theorem mon_sp0 (m n l rr m' : Nat) : splice (monL m n l rr) 0 (us 64 (dl 64 9 m')) = monL m' n l rr := by
  have e : us 64 (dl 64 9 m') = [.u 64 (m' / 2 ^ (64 * 0) % 2 ^ 64), .u 64 (m' / 2 ^ (64 * 1) % 2 ^ 64), .u 64 (m' / 2 ^ (64 * 2) % 2 ^ 64), .u 64 (m' / 2 ^ (64 * 3) % 2 ^ 64), .u 64 (m' / 2 ^ (64 * 4) % 2 ^ 64), .u 64 (m' / 2 ^ (64 * 5) % 2 ^ 64), .u 64 (m' / 2 ^ (64 * 6) % 2 ^ 64), .u 64 (m' / 2 ^ (64 * 7) % 2 ^ 64), .u 64 (m' / 2 ^ (64 * 8) % 2 ^ 64)] := rfl
  have h : ∀ l l' : List V, l'.length ≠ 1 → splice l 0 l' = l' ++ l.drop l'.length := fun l l' h => by
    unfold splice
    split
    · simp at h
    · simp
  rw [h _ _ (by rw [us_len, dl_len]; omega), us_len, dl_len]
  simp only [monL]
  rw [List.drop_append_of_le_length (by rw [us_len, dl_len]; omega), List.drop_of_length_le (by rw [us_len, dl_len]; omega), List.nil_append]
theorem mon_sp11 (m n l rr rr' : Nat) : splice (monL m n l rr) 11 (us 64 (dl 64 9 rr')) = monL m n l rr' := by
  have h : ∀ l l' : List V, l'.length ≠ 1 → splice l 11 l' = l.take 11 ++ l' ++ l.drop (11 + l'.length) := fun l l' h => by
    unfold splice
    split
    · simp at h
    · rfl
  rw [h _ _ (by rw [us_len, dl_len]; omega), us_len, dl_len]
  simp only [monL]
  rw [List.drop_of_length_le (by simp [us_len, dl_len]), List.append_nil, ← List.append_assoc, List.take_append_of_le_length (by simp [us_len, dl_len]), List.take_of_length_le (by simp [us_len, dl_len]), List.append_assoc]
theorem mon_set9 (m n l rr : Nat) (k : Nat) : (monL m n l rr).set 9 (.i (k : Int)) = monL m k l rr := by simp [monL, us, dl, tb9]
theorem mon_set10 (m n l rr k : Nat) : (monL m n l rr).set 10 (.u 64 k) = monL m n k rr := by simp [monL, us, dl, tb9]
theorem mon_low (m n l rr b : Nat) : (monL m n l rr).all (lowV b) = true := by
  simp only [monL, List.all_append, List.all_cons, List.all_nil, lowV, Bool.and_true]
  have : ∀ l : List Nat, (us 64 l).all (lowV b) = true := fun l => by simp [us, lowV]
  rw [this, this]; rfl
theorem mapO_flat (nk : Bool) (h : Heap) (b m : Nat) : ∀ l : List V, l.all (fun v => match v with | .i _ => true | .u _ _ => true | _ => false) = true → mapO (fzV nk h b (m + 1)) l = some l
  | [], _ => rfl
  | v :: l, hl => by
    simp only [List.all_cons, Bool.and_eq_true] at hl
    rw [YM, mapO_flat nk h b m l hl.2]
    cases v <;> first | rfl | (exact absurd hl.1 (by simp))
theorem mon_fz (nk : Bool) (k m n l rr : Nat) : fzV nk [some (monL m n l rr)] 0 (k + 1 + 1) (.hp 0 0) = some (.vr (monL m n l rr) 0) := by
  have h := mapO_flat nk [some (monL m n l rr)] 0 k (monL m n l rr) (by simp only [monL, List.all_append, List.all_cons, List.all_nil]; simp [us])
  show ((mapO (fzV nk [some (monL m n l rr)] 0 (k + 1)) (monL m n l rr)).map fun m => V.vr m 0) = _
  rw [h]; rfl

/-- The modulus' words shifted: R modulo m, R R modulo m. -/
abbrev monR (m : Nat) : Nat := 2 ^ (64 * nw m)
abbrev mont (m : Nat) : V := .vr (monL m (nw m) (lessV m) (monR m % m * (monR m % m) % m)) 0

theorem wide_up {r : Nat} (hr : r < M) : List.take 1 (us 64 (dl 64 18 0)) ++ us 64 (dl 64 9 r) ++ List.drop 10 (us 64 (dl 64 18 0)) = us 64 (dl 64 18 (r * 2 ^ 64)) := by
  have h0 : ∀ i, 9 ≤ i → r / 2 ^ (64 * i) % 2 ^ 64 = 0 := fun i hi => word_zero (M64 ▸ hr) hi
  have hw : ∀ i, r * 2 ^ 64 / 2 ^ (64 * (i + 1)) % 2 ^ 64 = r / 2 ^ (64 * i) % 2 ^ 64 := fun i => by
    rw [show 64 * (i + 1) = 64 + 64 * i by omega, Nat.pow_add, ← Nat.div_div_eq_div_mul, Nat.mul_div_cancel _ (Nat.two_pow_pos 64)]
  have hz : r * 2 ^ 64 / 2 ^ (64 * 0) % 2 ^ 64 = 0 := by simp
  have e1 : dl 64 18 (r * 2 ^ 64) = List.take 1 (dl 64 18 0) ++ dl 64 9 r ++ List.drop 10 (dl 64 18 0) := by
    have t18 : ∀ f : Nat → Nat, tb 18 f = [f 0, f 1, f 2, f 3, f 4, f 5, f 6, f 7, f 8, f 9, f 10, f 11, f 12, f 13, f 14, f 15, f 16, f 17] := fun _ => rfl
    simp only [dl]
    rw [t18, t18, tb9, hz, hw 0, hw 1, hw 2, hw 3, hw 4, hw 5, hw 6, hw 7, hw 8, hw 9, hw 10, hw 11, hw 12, hw 13, hw 14, hw 15, hw 16, h0 9 (by omega), h0 10 (by omega), h0 11 (by omega), h0 12 (by omega), h0 13 (by omega), h0 14 (by omega), h0 15 (by omega), h0 16 (by omega)]
    simp
  rw [e1]
  simp only [us, List.map_append, List.map_drop, List.map_take]

theorem pow_word (m k : Nat) : 2 ^ (64 * k) % m * 2 ^ 64 % m = 2 ^ (64 * (k + 1)) % m := by
  rw [Nat.mod_mul_mod, ← Nat.pow_add, Nat.mul_add, Nat.mul_one]

theorem words_of {m : Nat} (hm : m < M) (h0 : m ≠ 0) : ((bl m : Int) + 63).tdiv 64 = (nw m : Int) := by
  have h1 := nw_lt hm
  have h2 : 0 < nw m := by
    rcases Nat.eq_zero_or_pos (nw m) with h | h
    · exact absurd (nw_zero hm h) h0
    · exact h
  obtain ⟨h3, h4⟩ := nw_pos hm h2
  have h5 : bl m ≤ 64 * nw m := bl_le_iff.2 h1
  have h6 : 64 * (nw m - 1) < bl m := by
    rcases Nat.lt_or_ge (64 * (nw m - 1)) (bl m) with h | h
    · exact h
    · exact absurd (Nat.div_eq_of_lt (bl_le_iff.1 h)) h4
  rw [Int.tdiv_eq_ediv_of_nonneg (by omega)]
  omega

theorem r_New {m : Nat} (hm : m < M) (ho : m % 2 = 1) (h3 : 3 ≤ m) : Run T f_mont_New [natv m] [] = some (.tup [mont m, .i 0], []) := by
  rw [Run_at T _ (show T f_mont_New = some m_mont_New from rfl)]
  simp only [c_mont_New]
  simp only [zero20]
  simp only [zero18]
  simp only [zero9]
  have hM3 : 3 < M := by unfold M; exact Nat.lt_of_lt_of_le (show 3 < 2 ^ 2 by decide) (Nat.pow_le_pow_right (by omega) (by omega))
  have h0 : m ≠ 0 := by omega
  have hmp : 0 < m := by omega
  have i9 : ixOf 9 (.i 0) = some 0 := rfl
  have p0 := dl_partL (L := 9) (x := m) (show 0 < 9 by omega)
  rw [Nat.mul_zero, Nat.pow_zero, Nat.div_one] at p0
  have a1 : m % 2 ^ 64 &&& 1 = m % 2 := by rw [Nat.and_one_is_mod]; omega
  have d1 : decide (m % 2 = 0) = false := decide_eq_false (by omega)
  have c1 := r_natSmall 3 (by omega)
  rw [show (3 : Int).toNat = 3 from rfl] at c1
  have c2 := r_natCmp hm hM3
  have d2 : decide (cmpI m 3 < 0) = false := decide_eq_false (by unfold cmpI; rw [if_neg (by omega)]; split <;> omega)
  have c3 := r_natBits hm
  have hbl : bl m ≤ 576 := bl_le_iff.2 hm
  obtain ⟨bb, hbb⟩ : ∃ z : Int, z = (bl m : Int) + 63 := ⟨_, rfl⟩
  have w1 : F (w64 ((bl m : Int) + 63)) bb := ⟨by rw [hbb]; unfold w64; omega⟩
  have hn9 := nw_le m
  have w2 : F (w64 (Int.tdiv bb 64)) (nw m : Int) := ⟨by rw [hbb, words_of hm h0]; unfold w64; omega⟩
  have k1 : okc 9 (us 64 (dl 64 9 m)) 0 (monL 0 0 0 0).length = true := by rw [Ku, dl_len, mon_len]; rfl
  have k2 : ∀ (a b c d : Nat) (v : V) (o : Nat), okc 1 [v] o (monL a b c d).length = (cellV v && decide (o + 1 ≤ 20)) := fun a b c d v o => by rw [mon_len, Kt]
  have k3 : ∀ (a b c d x : Nat), okc 9 (us 64 (dl 64 9 x)) 11 (monL a b c d).length = true := fun a b c d x => by rw [Ku, dl_len, mon_len]; rfl
  have t9 : ∀ x, List.take 9 (dl 64 9 x) = dl 64 9 x := fun x => List.take_of_length_le (by rw [dl_len]; omega)
  obtain ⟨n, hn⟩ : ∃ n, n = nw m := ⟨_, rfl⟩
  obtain ⟨m0, hm0⟩ : ∃ m0, m0 = m % 2 ^ 64 := ⟨_, rfl⟩
  have hl : lessV m = (2 ^ 64 - invN m0 5) % 2 ^ 64 := by rw [hm0]; rfl
  simp only [mont, monR, hl]
  rw [← hn] at w2 hn9 ⊢
  rw [← hm0] at p0 a1
  obtain ⟨x, hx⟩ : ∃ f : Nat → Nat, ∀ i, f i = invN m0 i := ⟨_, fun _ => rfl⟩
  have x0 : m0 = x 0 := by rw [hx]; rfl
  have xs : ∀ k, x k * ((2 + 2 ^ 64 - m0 * x k % 2 ^ 64) % 2 ^ 64) % 2 ^ 64 = x (k + 1) := fun k => by rw [hx, hx]; rfl
  rw [← hx]
  have flat20 : ∀ a b c d, boxable (.agg (monL a b c d)) = true := fun _ _ _ _ => rfl
  have l9 : ∀ a b c d, ([some (monL a b c d)] : Heap).all (lowR 1) = true := fun a b c d => by simp [lowR, mon_low]
  simp only [EE,EX,Nat.reduceLeDiff,Nat.reduceEqDiff,Int.reduceEq,reduceCtorEq,Nat.reduceAdd,Nat.reduceMul,if_true,if_false,decide_true,decide_false, i9, p0, a1, d1, c1, c2, d2, c3, w1.eq, w2.eq, k1, k2, t9, mon_sp0, mon_set9, natv_noHp]
  rw [loop_use T (fun k => ⟨[(1, .vr (us 64 (dl 64 9 m)) 0), (4, .hp 0 0), (5, .u 64 (x k)), (30, .i (k : Int))], [some (monL m n 0 0)]⟩) 5
    (.exit 0, ⟨[(1, .vr (us 64 (dl 64 9 m)) 0), (4, .hp 0 0), (5, .u 64 (x 5))], [some (monL m n 0 0)]⟩) ?h0 (by simp) ?hs ?hn]
  rotate_left
  · rw [← x0]; rfl
  · intro k hk
    have l1 : decide ((k : Int) < 5) = true := decide_eq_true (by omega)
    have l2 : F (w64 ((k : Int) + 1)) ((k + 1 : Nat) : Int) := ⟨by unfold w64; omega⟩
    have l3 := xs k
    obtain ⟨y, hy⟩ : ∃ y, y = m0 * x k % 2 ^ 64 := ⟨_, rfl⟩
    rw [← hy] at l3
    obtain ⟨z, hz⟩ : ∃ z, z = (2 + 2 ^ 64 - y) % 2 ^ 64 := ⟨_, rfl⟩
    rw [← hz] at l3
    simp only [EE,EX,Nat.reduceLeDiff,Nat.reduceEqDiff,Int.reduceEq,reduceCtorEq,Nat.reduceAdd,Nat.reduceMul,if_true,if_false,decide_true,decide_false, i9, p0, l1, l2.eq, ← hy, ← hz, l3]
  · have l1 : decide (((5 : Nat) : Int) < 5) = false := by simp
    simp only [EE,EX,Nat.reduceLeDiff,Nat.reduceEqDiff,Int.reduceEq,reduceCtorEq,Nat.reduceAdd,Nat.reduceMul,if_true,if_false,decide_true,decide_false, l1]
  have c4 := r_By hm h0
  have c5 := r_natSmall 1 (by omega)
  rw [show (1 : Int).toNat = 1 from rfl] at c5
  have hM1 : 1 < M := by unfold M; exact Nat.one_lt_two_pow (by omega)
  have c6 : ∀ u v, u < M → v < M → _ := fun u v hu hv => r_ModMul hu hv hm h0
  have c7 := c6 1 1 hM1 hM1
  have hMM : ∀ r, r < m → r * 2 ^ 64 < M * M := fun r hr => by
    have h1 : r * 2 ^ 64 < M * 2 ^ 64 := Nat.mul_lt_mul_of_pos_right (Nat.lt_trans hr hm) (Nat.two_pow_pos 64)
    refine Nat.lt_of_lt_of_le h1 (Nat.mul_le_mul_left _ ?_)
    unfold M; exact Nat.pow_le_pow_right (by omega) (by omega)
  have c8 : ∀ r, r < m → _ := fun r hr => r_ModRest (hMM r hr) hm h0
  obtain ⟨dd, hdd⟩ : ∃ l, l = dvl (m * 2 ^ shf m) (nw m) (shf m) := ⟨_, rfl⟩
  have n1 : noHp 8 (.agg [.vr dd 0]) = true := by
    have : dd.all (noHp 6) = true := by rw [hdd, dvl, List.all_append, us_noHp]; rfl
    show (dd.all (noHp 6) && true) = true
    rw [this]; rfl
  simp only [dvm, dv, ← hdd] at c4 c6 c7 c8
  have kn := mon_n m n ((2 ^ 64 - x 5) % 2 ^ 64) 0
  obtain ⟨l, hll⟩ : ∃ l, l = (2 ^ 64 - x 5) % 2 ^ 64 := ⟨_, rfl⟩
  rw [← hll] at kn ⊢
  obtain ⟨r, hr⟩ : ∃ f : Nat → Nat, ∀ k, f k = 2 ^ (64 * k) % m := ⟨_, fun _ => rfl⟩
  have hrl : ∀ k, r k < m := fun k => by rw [hr]; exact Nat.mod_lt _ hmp
  have r0 : 1 * 1 % m = r 0 := by rw [hr]
  have rs : ∀ k, r k * 2 ^ 64 % m = r (k + 1) := fun k => by rw [hr, hr]; exact pow_word m k
  rw [r0] at c7
  rw [← hr]
  have cp : ∀ (rr : Nat), rr < M → ∀ {kp : List Nat} {e : Env} {h : Heap} {q : List MO} {y z : Opd}, ev e y = .ls 1 8 1 17 17 → get e 8 = .loc (us 64 (dl 64 18 0)) → ev e z = .ls 1 7 0 9 9 → get e 7 = .loc (us 64 (dl 64 9 rr)) →
      rg T kp e h (⟨some 62, none, .cpyl 8 1 [7] y z⟩ :: q) = rg T kp ((62, .i 9) :: (8, .loc (us 64 (dl 64 18 (rr * 2 ^ 64)))) :: e) h q := fun rr hrr {kp e h q y z} h1 h2 h3 h4 => by
    have h5 : sliceCellsL e h [7] (ev e z) = some (us 64 (dl 64 9 rr)) := by
      rw [h3]
      simp [sliceCellsL, h4, us_len, dl_len]
      exact List.take_of_length_le (by rw [us_len, dl_len]; omega)
    have := cpyl_gen (kp := kp) (r := q) (d := 62) (b := 9) h1 h2 h5 (by rw [h3]; rfl) (by rw [us_len, dl_len]) (us_cellV _ _) (by rw [us_len, dl_len]; omega) (by omega)
    rw [show min 9 17 = 9 by omega, List.take_of_length_le (l := us 64 (dl 64 9 rr)) (by rw [us_len, dl_len]; omega), wide_up hrr] at this
    exact this
  have e20 : decide (10 + 1 ≤ 20) = true := by decide
  simp only [EE,EX,Nat.reduceLeDiff,Nat.reduceEqDiff,Int.reduceEq,reduceCtorEq,Nat.reduceAdd,Nat.reduceMul,if_true,if_false,decide_true,decide_false, ← hll, k2, mon_set10, List.set_cons_zero, n1, c4, c5, c7, one_part, one_get, kn, e20, natv_noHp]
  rw [loop_use T (fun k => ⟨[(4, .hp 0 0), (6, .loc [.vr dd 0]), (7, .loc (us 64 (dl 64 9 (r k)))), (55, .i (n : Int)), (56, .i (k : Int))], [some (monL m n l 0)]⟩) n
    (.exit 2, ⟨[(4, .hp 0 0), (6, .loc [.vr dd 0]), (7, .loc (us 64 (dl 64 9 (r n))))], [some (monL m n l 0)]⟩) ?h0b (by simp) ?hsb ?hnb]
  rotate_left
  · rfl
  · intro k hk
    have l1 : decide ((k : Int) < (n : Int)) = true := decide_eq_true (by omega)
    have l2 : F (w64 ((k : Int) + 1)) ((k + 1 : Nat) : Int) := ⟨by unfold w64; omega⟩
    have l3 := c8 (r k) (hrl k)
    rw [rs k] at l3
    have l4 := @cp (r k) (Nat.lt_trans (hrl k) hm)
    have i18 : ixOf 19 (.i 1) = some 1 := rfl
    obtain ⟨W, hW⟩ : ∃ W, W = r k * 2 ^ 64 := ⟨_, rfl⟩
    rw [← hW] at l3 l4
    have hn8 : noHp 8 (widev W) = true := widev_noHp W 6
    simp only [EE,EX,Nat.reduceLeDiff,Nat.reduceEqDiff,Int.reduceEq,reduceCtorEq,Nat.reduceAdd,Nat.reduceMul,if_true,if_false,decide_true,decide_false, l1, l2.eq, l3, l4, i18, n1, one_part, one_get, hn8]
  · have l1 : decide ((n : Int) < (n : Int)) = false := by simp
    simp only [EE,EX,Nat.reduceLeDiff,Nat.reduceEqDiff,Int.reduceEq,reduceCtorEq,Nat.reduceAdd,Nat.reduceMul,if_true,if_false,decide_true,decide_false, l1]
  have c9 := c6 (r n) (r n) (Nat.lt_trans (hrl n) hm) (Nat.lt_trans (hrl n) hm)
  obtain ⟨rr, hrr⟩ : ∃ z, z = r n * r n % m := ⟨_, rfl⟩
  rw [← hrr] at c9 ⊢
  simp only [EE,EX,Nat.reduceLeDiff,Nat.reduceEqDiff,Int.reduceEq,reduceCtorEq,Nat.reduceAdd,Nat.reduceMul,if_true,if_false,decide_true,decide_false, n1, one_part, one_get, c9, k3, mon_sp11, mon_fz, natv_noHp]

end Mir

namespace Mir

theorem odd_gcd {m k : Nat} (h : m % 2 = 1) : Nat.gcd m (2 ^ k) = 1 := by
  apply Nat.Coprime.pow_right
  rw [Nat.Coprime, Nat.gcd_comm, Nat.gcd_rec, h]; rfl

/-- A number that shares no part with m has an inverse. -/
theorem has_inv {a m : Nat} (h1 : 1 < m) (hg : Nat.gcd m a = 1) : ∃ i, i < m ∧ i * a % m = 1 := by
  have hmp : 0 < m := by omega
  have e0 : EuOk a m ⟨m, a % m, 0, 1⟩ := ⟨by simp only; omega, by simp only; omega, by simp only; omega, Nat.mod_lt _ hmp, by simp, by simp, by rw [Nat.gcd_comm]; exact (Nat.gcd_rec m a).symm⟩
  obtain ⟨n, hw, hn⟩ := eu_stop m (a % m) ⟨m, a % m, 0, 1⟩ (Nat.le_refl _)
  have hok := eu_ok e0 hw
  have he := hok n (Nat.le_refl n)
  have ho : (euAt m ⟨m, a % m, 0, 1⟩ n).o = 1 := by
    have := he.g
    rw [hn, Nat.gcd_zero_right, hg] at this
    exact this
  exact ⟨_, he.s, by rw [he.ws, ho]; exact Nat.mod_eq_of_lt (by omega)⟩

open Classical in
/-- R's inverse modulo m. -/
noncomputable def monI (m : Nat) : Nat := if h : ∃ i, i < m ∧ i * monR m % m = 1 then h.choose else 0
theorem monI_ok {m : Nat} (ho : m % 2 = 1) (h3 : 3 ≤ m) : monI m < m ∧ monI m * monR m % m = 1 := by
  have h : ∃ i, i < m ∧ i * monR m % m = 1 := has_inv (by omega) (odd_gcd ho)
  unfold monI
  rw [dif_pos h]
  exact h.choose_spec

theorem r_RawV {m a b : Nat} (hm : m < M) (ho : m % 2 = 1) (h3 : 3 ≤ m) (ha : a < m) (hb : b < m) : Run T f_mont_Mont_Raw [mont m, natv a, natv b] [] = some (natv (a * b * monI m % m), []) := by
  have h := r_Raw (rr := monR m % m * (monR m % m) % m) (b := b) hm (by omega) (lessV_lt m) (lessV_ok ho) (Nat.lt_trans ha hm) hb
  rw [h]
  obtain ⟨X, hX⟩ : ∃ X, X = rdSt m (lessV m) a b (nw m) := ⟨_, rfl⟩
  have h1 : X < m + b := by rw [hX]; exact rdSt_lt (by omega) _
  have h2 := rdSt_mod (a := a) (b := b) (lessV_ok ho) (nw m)
  rw [← hX, Nat.mod_eq_of_lt (Nat.lt_trans ha (nw_lt hm))] at h2
  rw [← hX]
  obtain ⟨i1, i2⟩ := monI_ok ho h3
  obtain ⟨r, hr⟩ : ∃ r, r = if X < m then X else X - m := ⟨_, rfl⟩
  have hrm : r < m := by rw [hr]; split <;> omega
  have hrX : r % m = X % m := by
    rw [hr]
    split
    · rfl
    · rename_i hh
      have : X = X - m + m := by omega
      conv => rhs; rw [this, Nat.add_mod_right]
  have e : r = a * b * monI m % m := by
    have e1 : r * 1 % m = a * b * monI m % m := by
      rw [← i2, Nat.mul_mod_mod, Nat.mul_left_comm, Nat.mul_comm, Nat.mul_mod, Nat.mul_mod r, hrX, ← Nat.mul_mod X, h2, ← Nat.mul_mod]
    rw [Nat.mul_one, Nat.mod_eq_of_lt hrm] at e1
    exact e1
  rw [← hr, e]

theorem r_may_ok {m k : Nat} {L : List V} {f : Nat → Nat} (hm : m < M) (hk : k < 100) (hL : ∀ i, i < k → part L (i * 9) (some 9) = some (natv (f i))) (hf : ∀ i, i < k → f i < m) :
    Run T f_mont_Mont_may [mont m, .vs k L] [] = some (.i 0, []) := by
  rw [Run_at T _ (show T f_mont_Mont_may = some m_mont_Mont_may from rfl)]
  simp only [c_mont_Mont_may]
  simp only [zero9]
  have kl : decide (k < 9223372036854775808) = true := decide_eq_true (by omega)
  have k1 := mon_m m (nw m) (lessV m) (monR m % m * (monR m % m) % m)
  obtain ⟨X, hX⟩ : ∃ X, X = monL m (nw m) (lessV m) (monR m % m * (monR m % m) % m) := ⟨_, rfl⟩
  simp only [mont]
  rw [← hX] at k1 ⊢
  have e1 : eqV .ptr (.vr X 0) .nilp = some false := rfl
  simp only [EE,EX,Nat.reduceLeDiff,Nat.reduceEqDiff,Int.reduceEq,reduceCtorEq,Nat.reduceAdd,Nat.reduceMul,if_true,if_false,decide_true,decide_false, kl, e1]
  rw [loop_use T (fun i => ⟨[(0, .vr X 0), (9, .vs k L), (10, .i (k : Int)), (11, .i (i : Int))], []⟩) k (.exit 0, ⟨[], []⟩) ?h0 (by simp) ?hs ?hn]
  · simp only [EE,EX,Nat.reduceLeDiff,Nat.reduceEqDiff,Int.reduceEq,reduceCtorEq,Nat.reduceAdd,Nat.reduceMul,if_true,if_false,decide_true,decide_false]
  · rfl
  · intro i hi
    have l1 : decide ((i : Int) < (k : Int)) = true := decide_eq_true (by omega)
    have l2 := ixOf_nat hi
    have l3 := hL i hi
    have l4 : F (w64 ((i : Int) + 1)) ((i + 1 : Nat) : Int) := ⟨by unfold w64; omega⟩
    have hfi := hf i hi
    have c1 := r_natCmp (Nat.lt_trans hfi hm) hm
    have d1 : decide (0 ≤ cmpI (f i) m) = false := decide_eq_false (by unfold cmpI; rw [if_pos hfi]; omega)
    obtain ⟨y, hy⟩ : ∃ y, y = f i := ⟨_, rfl⟩
    rw [← hy] at l3 c1 d1
    obtain ⟨i9, hi9⟩ : ∃ y, y = i * 9 := ⟨_, rfl⟩
    rw [← hi9] at l3
    simp only [EE,EX,Nat.reduceLeDiff,Nat.reduceEqDiff,Int.reduceEq,reduceCtorEq,Nat.reduceAdd,Nat.reduceMul,if_true,if_false,decide_true,decide_false, l1, l2, ← hi9, l3, l4.eq, c1, d1, k1, natv_noHp]
  · have l1 : decide ((k : Int) < (k : Int)) = false := by simp
    simp only [EE,EX,Nat.reduceLeDiff,Nat.reduceEqDiff,Int.reduceEq,reduceCtorEq,Nat.reduceAdd,Nat.reduceMul,if_true,if_false,decide_true,decide_false, l1]

theorem one9 (a : Nat) : ∀ i, i < 1 → part (us 64 (dl 64 9 a)) (i * 9) (some 9) = some (natv ((fun _ => a) i)) := fun i hi => by
  have : i = 0 := by omega
  subst this
  exact ζp a
theorem two9 {a b : Nat} (ha : a < M) (hb : b < M) : ∀ i, i < 2 → part (us 64 (dl 64 18 (a + M * b))) (i * 9) (some 9) = some (natv ((fun i => if i = 0 then a else b) i)) := fun i hi => by
  have h1 : (a + M * b) % M = a := by rw [Nat.add_mul_mod_self_left, Nat.mod_eq_of_lt ha]
  have h2 : (a + M * b) / M = b := by rw [Nat.add_mul_div_left _ _ (by omega), Nat.div_eq_of_lt ha, Nat.zero_add]
  rcases (show i = 0 ∨ i = 1 by omega) with h | h <;> subst h
  · rw [sig_lo, h1]; rfl
  · show part _ 9 _ = _
    rw [sig_hi, h2]; rfl

theorem mont_noHp (m k : Nat) : noHp (k + 2) (mont m) = true := mon_noHp _ _ _ _ _

theorem rr_mul {a m : Nat} (ho : m % 2 = 1) (h3 : 3 ≤ m) : a * (monR m % m * (monR m % m) % m) * monI m % m = a * monR m % m := by
  obtain ⟨i1, i2⟩ := monI_ok ho h3
  obtain ⟨R, hR⟩ : ∃ R, R = monR m := ⟨_, rfl⟩
  obtain ⟨I, hI⟩ : ∃ R, R = monI m := ⟨_, rfl⟩
  rw [← hR, ← hI] at i2 ⊢
  rw [← Nat.mul_mod R R m, Nat.mul_right_comm a, Nat.mul_mod_mod]
  have : a * I * (R * R) = a * R * (I * R) := by grind
  rw [this, Nat.mul_mod, i2, Nat.mul_one, Nat.mod_mod]

section
variable {m a b : Nat} (hm : m < M) (ho : m % 2 = 1) (h3 : 3 ≤ m)
include hm ho h3
theorem r_To (ha : a < m) : Run T f_mont_Mont_To [mont m, natv a] [] = some (.tup [natv (a * monR m % m), .i 0], []) := by
  rw [Run_at T _ (show T f_mont_Mont_To = some m_mont_Mont_To from rfl)]
  simp only [c_mont_Mont_To]
  simp only [zero9]
  have c1 := r_may_ok hm (by omega) (one9 a) (fun _ _ => ha)
  have k1 := mon_rr m (nw m) (lessV m) (monR m % m * (monR m % m) % m)
  have c2 := r_RawV (b := monR m % m * (monR m % m) % m) hm ho h3 ha (Nat.mod_lt _ (by omega))
  rw [rr_mul ho h3] at c2
  have n1 : noHp 8 (mont m) = true := mont_noHp m 6
  obtain ⟨rr, hrr⟩ : ∃ z, z = monR m % m * (monR m % m) % m := ⟨_, rfl⟩
  simp only [mont] at c1 c2 n1 ⊢
  rw [← hrr] at k1 c1 c2 n1 ⊢
  obtain ⟨X, hX⟩ : ∃ X, X = monL m (nw m) (lessV m) rr := ⟨_, rfl⟩
  rw [← hX] at k1 c1 c2 n1 ⊢
  simp only [EE,EX,Nat.reduceLeDiff,Nat.reduceEqDiff,Int.reduceEq,reduceCtorEq,Nat.reduceAdd,Nat.reduceMul,if_true,if_false,decide_true,decide_false, c1, c2, k1, n1, natv_noHp]
theorem r_MFrom (ha : a < m) : Run T f_mont_Mont_From [mont m, natv a] [] = some (.tup [natv (a * monI m % m), .i 0], []) := by
  rw [Run_at T _ (show T f_mont_Mont_From = some m_mont_Mont_From from rfl)]
  simp only [c_mont_Mont_From]
  simp only [zero9]
  have c1 := r_may_ok hm (by omega) (one9 a) (fun _ _ => ha)
  have c2 := r_RawV (b := 1) hm ho h3 ha (by omega)
  rw [Nat.mul_one] at c2
  have c3 := r_natSmall 1 (by omega)
  rw [show (1 : Int).toNat = 1 from rfl] at c3
  have n1 : noHp 8 (mont m) = true := mont_noHp m 6
  obtain ⟨rr, hrr⟩ : ∃ z, z = monR m % m * (monR m % m) % m := ⟨_, rfl⟩
  simp only [mont] at c1 c2 n1 ⊢
  rw [← hrr] at c1 c2 n1 ⊢
  obtain ⟨X, hX⟩ : ∃ X, X = monL m (nw m) (lessV m) rr := ⟨_, rfl⟩
  rw [← hX] at c1 c2 n1 ⊢
  simp only [EE,EX,Nat.reduceLeDiff,Nat.reduceEqDiff,Int.reduceEq,reduceCtorEq,Nat.reduceAdd,Nat.reduceMul,if_true,if_false,decide_true,decide_false, c1, c2, c3, n1, natv_noHp]
theorem r_MMul (ha : a < m) (hb : b < m) : Run T f_mont_Mont_Mul [mont m, natv a, natv b] [] = some (.tup [natv (a * b * monI m % m), .i 0], []) := by
  rw [Run_at T _ (show T f_mont_Mont_Mul = some m_mont_Mont_Mul from rfl)]
  simp only [c_mont_Mont_Mul]
  simp only [zero18]
  simp only [zero9]
  have haM : a < M := by omega
  have c1 := r_may_ok hm (by omega) (two9 haM (show b < M by omega)) (fun i _ => by show (if i = 0 then a else b) < m; split <;> assumption)
  have c2 := r_RawV (b := b) hm ho h3 ha hb
  have s1 := sig_put1 haM
  have s2 := sig_put2 (t := b) haM
  have n1 : noHp 8 (mont m) = true := mont_noHp m 6
  obtain ⟨rr, hrr⟩ : ∃ z, z = monR m % m * (monR m % m) % m := ⟨_, rfl⟩
  simp only [mont] at c1 c2 n1 ⊢
  rw [← hrr] at c1 c2 n1 ⊢
  obtain ⟨X, hX⟩ : ∃ X, X = monL m (nw m) (lessV m) rr := ⟨_, rfl⟩
  rw [← hX] at c1 c2 n1 ⊢
  simp only [EE,EX,Nat.reduceLeDiff,Nat.reduceEqDiff,Int.reduceEq,reduceCtorEq,Nat.reduceAdd,Nat.reduceMul,if_true,if_false,decide_true,decide_false, c1, c2, n1, s1, s2, natv_noHp]
theorem r_MInv (ha : a < m) (hg : Nat.gcd m a = 1) : ∃ i, i < m ∧ i * a % m = 1 ∧ Run T f_mont_Mont_Inv [mont m, natv a] [] = some (.tup [natv (i * monR m * monR m % m), .i 0], []) := by
  obtain ⟨i, hi1, hi2, c2⟩ := r_Inverse (a := a) (by omega) hm (by omega) (by omega) hg
  refine ⟨i, hi1, hi2, ?_⟩
  rw [Run_at T _ (show T f_mont_Mont_Inv = some m_mont_Mont_Inv from rfl)]
  simp only [c_mont_Mont_Inv]
  simp only [zero9]
  have c1 := r_may_ok hm (by omega) (one9 a) (fun _ _ => ha)
  have k1 := mon_m m (nw m) (lessV m) (monR m % m * (monR m % m) % m)
  have k2 := mon_rr m (nw m) (lessV m) (monR m % m * (monR m % m) % m)
  have hrrl : monR m % m * (monR m % m) % m < m := Nat.mod_lt _ (by omega)
  have c3 := r_RawV hm ho h3 hi1 hrrl
  rw [rr_mul ho h3] at c3
  have c4 := r_RawV (a := i * monR m % m) hm ho h3 (Nat.mod_lt _ (by omega)) hrrl
  rw [rr_mul ho h3, show i * monR m % m * monR m % m = i * monR m * monR m % m from Nat.mod_mul_mod _ _ _] at c4
  have n1 : noHp 8 (mont m) = true := mont_noHp m 6
  obtain ⟨rr, hrr⟩ : ∃ z, z = monR m % m * (monR m % m) % m := ⟨_, rfl⟩
  simp only [mont] at c1 c3 c4 n1 ⊢
  rw [← hrr] at k1 k2 c1 c3 c4 n1 ⊢
  obtain ⟨X, hX⟩ : ∃ X, X = monL m (nw m) (lessV m) rr := ⟨_, rfl⟩
  rw [← hX] at k1 k2 c1 c3 c4 n1 ⊢
  simp only [EE,EX,Nat.reduceLeDiff,Nat.reduceEqDiff,Int.reduceEq,reduceCtorEq,Nat.reduceAdd,Nat.reduceMul,if_true,if_false,decide_true,decide_false, c1, c2, c3, c4, k1, k2, n1, natv_noHp]
end

end Mir

