/- One module of several texts (DivA DivB DivC DivD DivE DivF DivG DivH DivI). Conditions: none. -/
import Derived.Test.YtmfbmdbabebhmaaGreatAllN
set_option linter.unusedVariables false
set_option linter.unusedSimpArgs false
set_option exponentiation.threshold 5000
set_option maxRecDepth 20000
namespace Mir

/-- A divisor: its words, how many, its shift. -/
def dvl (D n s : Nat) : List V := us 64 (dl 64 9 D) ++ [.i (n : Int), .i (s : Int)]
abbrev dv (D n s : Nat) : V := .vr (dvl D n s) 0

theorem dv_n (D n s : Nat) : part (dvl D n s) 9 none = some (.i (n : Int)) := by
  simp only [part, dvl]
  rw [List.getElem?_append_right (by rw [us_len, dl_len]; omega), us_len, dl_len]; rfl
theorem dv_s (D n s : Nat) : part (dvl D n s) 10 none = some (.i (s : Int)) := by
  simp only [part, dvl]
  rw [List.getElem?_append_right (by rw [us_len, dl_len]; omega), us_len, dl_len]; rfl
theorem dv_w {D n s i : Nat} (h : i < 9) : part (dvl D n s) i none = some (.u 64 (D / 2 ^ (64 * i) % 2 ^ 64)) := by
  simp only [part, dvl]
  rw [List.getElem?_append_left (by rw [us_len, dl_len]; exact h)]
  exact us_get (dl_get h)

theorem split_mul (q D P : Nat) : q * D = q * (D % P) + P * (q * (D / P)) := by
  have h := Nat.div_add_mod D P
  have h2 : q * D = q * (P * (D / P) + D % P) := by rw [h]
  rw [h2, Nat.mul_add, Nat.mul_left_comm, Nat.add_comm]
/-- The product's i-th digit, what is carried. -/
theorem qd_digit {q D i : Nat} (hq : q < 2 ^ 64) : (mC 64 q D 0 i + q * (D / 2 ^ (64 * i) % 2 ^ 64)) % 2 ^ 64 = q * D / 2 ^ (64 * i) % 2 ^ 64 ∧ (mC 64 q D 0 i + q * (D / 2 ^ (64 * i) % 2 ^ 64)) / 2 ^ 64 = mC 64 q D 0 (i + 1) := by
  have hU : mU 64 q D 0 = 0 := by simp [mU, Nat.mod_one]
  have h0 : q / 2 ^ (64 * 0) % 2 ^ 64 = q := by simp; omega
  have h1 := mT_word 64 q D 0 i
  have h2 := mC_step 64 q D 0 i
  rw [hU, h0, Nat.zero_div, Nat.zero_mod, Nat.add_zero] at h1 h2
  refine ⟨?_, h2⟩
  rw [h1, mT, hU, h0, Nat.zero_add, Nat.mul_zero, Nat.pow_zero, Nat.mul_one, Nat.zero_add]
  have h4 : 2 ^ (64 * (i + 1)) = 2 ^ (64 * i) * 2 ^ 64 := by rw [← Nat.pow_add]; congr 1
  have e : q * D = q * (D % 2 ^ (64 * (i + 1))) + 2 ^ (64 * i) * (2 ^ 64 * (q * (D / 2 ^ (64 * (i + 1))))) := by
    rw [← Nat.mul_assoc (2 ^ (64 * i)), ← h4]; exact split_mul q D _
  rw [e, Nat.add_mul_div_left _ _ (Nat.two_pow_pos _), Nat.add_mul_mod_self_left]

theorem word_of_window {lo Wv a j : Nat} (hlo : lo < 2 ^ (64 * a)) (hj : a ≤ j) : (lo + 2 ^ (64 * a) * Wv) / 2 ^ (64 * j) % 2 ^ 64 = Wv / 2 ^ (64 * (j - a)) % 2 ^ 64 := by
  have e : 64 * j = 64 * a + 64 * (j - a) := by omega
  rw [e, Nat.pow_add, ← Nat.div_div_eq_div_mul, Nat.add_mul_div_left _ _ (Nat.two_pow_pos _), Nat.div_eq_of_lt hlo, Nat.zero_add]
theorem word_below {lo Wv a j : Nat} (hj : j < a) : (lo + 2 ^ (64 * a) * Wv) / 2 ^ (64 * j) % 2 ^ 64 = lo / 2 ^ (64 * j) % 2 ^ 64 := by
  have e : 2 ^ (64 * a) = 2 ^ (64 * j) * (2 ^ 64 * 2 ^ (64 * (a - j - 1))) := by rw [← Nat.pow_add, ← Nat.pow_add]; congr 1; omega
  rw [e, Nat.mul_assoc, Nat.mul_assoc, Nat.add_mul_div_left _ _ (Nat.two_pow_pos _), Nat.add_mul_mod_self_left]

/-- Rows of nineteen words. -/
abbrev uH (f : Nat → Nat) : Heap := [some (us 64 (tb 19 f))]

/-- A window whose digits are written one by one. -/
theorem win_step {a i : Nat} (s p : Nat → Nat) : tb 19 (fun j => if j = a + i then s (a + i) else if a ≤ j ∧ j < a + i then s j else p j) = tb 19 (fun j => if a ≤ j ∧ j < a + (i + 1) then s j else p j) := tb_congr fun j hj => by
  by_cases h : j = a + i
  · rw [if_pos h, if_pos (by omega), h]
  · rw [if_neg h]
    by_cases h2 : a ≤ j ∧ j < a + i
    · rw [if_pos h2, if_pos (by omega)]
    · rw [if_neg h2, if_neg (by omega)]

theorem r_divTake {D n s lo Wv a q : Nat} (hn : n ≤ 9) (hD : D < 2 ^ (64 * n)) (hlo : lo < 2 ^ (64 * a)) (hW : Wv < 2 ^ (64 * (n + 1))) (ha : a + n < 19) (hq : q < 2 ^ 64) :
    Run T f_divide_divisor_take [dv D n s, .hs 1 0 0 19 19, .i (a : Int), .u 64 q] [some (us 64 (dl 64 19 (lo + 2 ^ (64 * a) * Wv)))] =
      some (.b (decide (Wv < q * D)), [some (us 64 (dl 64 19 (lo + 2 ^ (64 * a) * ((Wv + 2 ^ (64 * (n + 1)) - q * D) % 2 ^ (64 * (n + 1))))))]) := by
  rw [Run_at T _ (show T f_divide_divisor_take = some m_divide_divisor_take from rfl)]
  simp only [c_divide_divisor_take]
  have hqD : q * D < 2 ^ (64 * (n + 1)) := by
    have : q * D < 2 ^ 64 * 2 ^ (64 * n) := Nat.mul_lt_mul'' hq hD
    rw [← Nat.pow_add] at this
    rw [show 64 * (n + 1) = 64 + 64 * n by omega]; exact this
  obtain ⟨X, hX⟩ : ∃ X, X = lo + 2 ^ (64 * a) * Wv := ⟨_, rfl⟩
  obtain ⟨Z, hZ⟩ : ∃ Z, Z = Wv + 2 ^ (64 * (n + 1)) - q * D := ⟨_, rfl⟩
  obtain ⟨Y, hY⟩ : ∃ Y, Y = lo + 2 ^ (64 * a) * (Z % 2 ^ (64 * (n + 1))) := ⟨_, rfl⟩
  obtain ⟨x, hx⟩ : ∃ x : Nat → Nat, ∀ j, x j = X / 2 ^ (64 * j) % 2 ^ 64 := ⟨_, fun _ => rfl⟩
  obtain ⟨y, hy⟩ : ∃ x : Nat → Nat, ∀ j, x j = Y / 2 ^ (64 * j) % 2 ^ 64 := ⟨_, fun _ => rfl⟩
  obtain ⟨d, hd⟩ : ∃ d : Nat → Nat, ∀ i, d i = D / 2 ^ (64 * i) % 2 ^ 64 := ⟨_, fun _ => rfl⟩
  obtain ⟨c, hc⟩ : ∃ c : Nat → Nat, ∀ i, c i = mC 64 q D 0 i := ⟨_, fun _ => rfl⟩
  obtain ⟨e, he⟩ : ∃ e : Nat → Nat, ∀ i, e i = q * D / 2 ^ (64 * i) % 2 ^ 64 := ⟨_, fun _ => rfl⟩
  obtain ⟨b, hb⟩ : ∃ b : Nat → Nat, ∀ i, b i = bor 64 Wv (q * D) i := ⟨_, fun _ => rfl⟩
  have hcl : ∀ i, c i < 2 ^ 64 := fun i => by rw [hc]; exact mC_lt 64 q D 0 i
  have hdl : ∀ i, d i < 2 ^ 64 := fun i => by rw [hd]; exact Nat.mod_lt _ (Nat.two_pow_pos 64)
  have hbl : ∀ i, (b i ≤ 1) = True := fun i => by rw [hb]; exact eq_true (bor_le 64 Wv (q * D) i)
  have hdig : ∀ i, (c i + q * d i) % 2 ^ 64 = e i ∧ (c i + q * d i) / 2 ^ 64 = c (i + 1) := fun i => by rw [hc, hd, he, hc]; exact qd_digit hq
  have hxw : ∀ i, x (a + i) = Wv / 2 ^ (64 * i) % 2 ^ 64 := fun i => by rw [hx, hX, word_of_window hlo (by omega), show a + i - a = i by omega]
  have hyw : ∀ i, i < n + 1 → y (a + i) = Z / 2 ^ (64 * i) % 2 ^ 64 := fun i hi => by
    rw [hy, hY, word_of_window hlo (by omega), show a + i - a = i by omega]
    have := congrArg (fun l => l.getD i 0) (dl_mod 64 (n + 1) Z)
    simp only [dl_getD hi] at this
    exact this
  have hlo' : ∀ i, i < n + 1 → (x (a + i) + 2 ^ 64 - e i - b i) % 2 ^ 64 = y (a + i) := fun i hi => by
    rw [hxw, he, hb, hyw i hi, hZ]; exact bor_lo 64 (n + 1) Wv (q * D) i hi hqD
  have hhi : ∀ i, (if x (a + i) < e i + b i then 1 else 0) = b (i + 1) := fun i => by rw [hxw, he, hb, hb]; exact bor_hi 64 Wv (q * D) i
  have hcn : c n = e n := by
    have h1 := (hdig n).1
    have h2 : d n = 0 := by rw [hd]; exact word_zero hD (Nat.le_refl n)
    rw [h2, Nat.mul_zero, Nat.add_zero, Nat.mod_eq_of_lt (hcl n)] at h1
    exact h1
  have hbn : decide (b (n + 1) = 1) = decide (Wv < q * D) := by
    rw [hb, bor, Nat.mod_eq_of_lt hW, Nat.mod_eq_of_lt hqD]
    by_cases h : Wv < q * D <;> simp [h]
  have hb0 : b 0 = 0 := by rw [hb]; simp [bor, Nat.mod_one]
  have hc0 : c 0 = 0 := by rw [hc, mC_zero]
  have hlX : dl 64 19 X = tb 19 x := tb_congr fun j hj => (hx j).symm
  have hlY : tb 19 (fun j => if a ≤ j ∧ j < a + (n + 1) then y j else x j) = dl 64 19 Y := tb_congr fun j hj => by
    by_cases h : a ≤ j ∧ j < a + (n + 1)
    · rw [if_pos h, hy]
    · rw [if_neg h, hx]
      by_cases h2 : j < a
      · rw [hX, hY, word_below h2, word_below h2]
      · rw [hX, hY, word_of_window hlo (by omega), word_of_window hlo (by omega), word_zero hW (by omega), word_zero (Nat.mod_lt _ (Nat.two_pow_pos _)) (by omega)]
  rw [← hX, ← hZ, ← hY]
  rw [← hlY, hlX]
  have k1 := dv_n D n s
  have k2 : ∀ i, i < 9 → part (dvl D n s) i none = some (.u 64 (d i)) := fun i hi => by rw [hd]; exact dv_w hi
  obtain ⟨dd, hdd⟩ : ∃ l, l = dvl D n s := ⟨_, rfl⟩
  simp only [dv, ← hdd] at k1 k2 ⊢
  obtain ⟨an, han⟩ : ∃ z, z = a + n := ⟨_, rfl⟩
  have k3 : F (w64 ((a : Int) + (n : Int))) (an : Int) := ⟨by unfold w64; omega⟩
  simp only [EE,EX,Nat.reduceLeDiff,Nat.reduceEqDiff,Int.reduceEq,reduceCtorEq,Nat.reduceAdd,Nat.reduceMul,if_true,if_false,decide_true,decide_false, k1]
  rw [loop_use T (fun i => ⟨[(0, .vr dd 0), (1, .hs 1 0 0 19 19), (2, .i (a : Int)), (3, .u 64 q), (9, .u 64 (b i)), (10, .u 64 (c i)), (18, .i (n : Int)), (19, .i (i : Int))], uH (fun j => if a ≤ j ∧ j < a + i then y j else x j)⟩) n
    (.exit 0, ⟨[(0, .vr dd 0), (1, .hs 1 0 0 19 19), (2, .i (a : Int)), (9, .u 64 (b n)), (10, .u 64 (c n))], uH (fun j => if a ≤ j ∧ j < a + n then y j else x j)⟩) ?h0 (by simp) ?hs ?hn]
  · have l1 := ixOf_nat (show an < 19 by omega)
    have l2 := part_tb (w := 64) (fun j => if a ≤ j ∧ j < a + n then y j else x j) an (show an < 19 by omega)
    rw [if_neg (by omega)] at l2
    have l3 := hbl n
    have l4 := hlo' n (by omega)
    have l5 := hhi n
    rw [← han, ← hcn] at l4 l5
    have l6 : (an + 1 ≤ 19) = True := by simp; omega
    have l7 : tb 19 (fun j => if j = an then y an else if a ≤ j ∧ j < a + n then y j else x j) = tb 19 (fun j => if a ≤ j ∧ j < a + (n + 1) then y j else x j) := by subst han; exact win_step y x
    have l9 : ∀ f, (uH f).all (lowR 1) = true := fun f => by simp [uH, lowR, us_low]
    simp only [uH] at l9 ⊢
    simp only [EE,EX,Nat.reduceLeDiff,Nat.reduceEqDiff,Int.reduceEq,reduceCtorEq,Nat.reduceAdd,Nat.reduceMul,if_true,if_false,decide_true,decide_false, k1, k3.eq, l1, l2, l3, l4, l5, l6, l7, l9, hbn, List.take_succ_cons, List.take_nil]
  · have e1 : tb 19 x = tb 19 (fun j => if a ≤ j ∧ j < a + 0 then y j else x j) := tb_congr fun j hj => by rw [if_neg (by omega)]
    rw [e1]; simp only [hb0, hc0]; rfl
  · intro i hi
    obtain ⟨ai, hai⟩ : ∃ z, z = a + i := ⟨_, rfl⟩
    have l1 : decide ((i : Int) < (n : Int)) = true := by simp; omega
    have l2 := ixOf_nat (show i < 9 by omega)
    have l3 := k2 i (by omega)
    have l4 := r_Mul64 hq (hdl i)
    obtain ⟨g1, g2⟩ := hdig i
    obtain ⟨i1, hi1⟩ : ∃ z, z = i + 1 := ⟨_, rfl⟩
    have l5 : F (w64 ((i : Int) + 1)) (i1 : Int) := ⟨by unfold w64; omega⟩
    have l6 : F (w64 ((a : Int) + (i : Int))) (ai : Int) := ⟨by unfold w64; omega⟩
    have l7 := ixOf_nat (show ai < 19 by omega)
    have l8 := part_tb (w := 64) (fun j => if a ≤ j ∧ j < a + i then y j else x j) ai (show ai < 19 by omega)
    rw [if_neg (by omega)] at l8
    have l9 := hbl i
    have l10 := hlo' i (by omega)
    have l11 := hhi i
    rw [← hai] at l10 l11
    have l12 : (ai + 1 ≤ 19) = True := by simp; omega
    have l13 : tb 19 (fun j => if j = ai then y ai else if a ≤ j ∧ j < a + i then y j else x j) = tb 19 (fun j => if a ≤ j ∧ j < a + (i + 1) then y j else x j) := by subst hai; exact win_step y x
    have hab : q * d i ≤ 18446744073709551615 * 18446744073709551615 := Nat.mul_le_mul (by omega) (by have := hdl i; omega)
    obtain ⟨w1, w2⟩ := mul_word (u := 0) hab (by omega) (hcl i)
    rw [Nat.add_zero, Nat.add_zero] at w1
    rw [Nat.add_zero, Nat.add_zero] at w2
    have hmm : (q * d i % 2 ^ 64) % 2 ^ 64 = q * d i % 2 ^ 64 := Nat.mod_mod _ _
    have hz : q * d i % 2 ^ 64 / 2 ^ 64 = 0 := Nat.div_eq_of_lt (Nat.mod_lt _ (Nat.two_pow_pos 64))
    rw [hmm] at w1
    rw [hmm, hz, Nat.add_zero] at w2
    rw [g1] at w1
    rw [g2] at w2
    obtain ⟨ab, hab'⟩ : ∃ z, z = q * d i := ⟨_, rfl⟩
    rw [← hab'] at l4 w1 w2
    obtain ⟨hh, hhh⟩ : ∃ z, ab / 2 ^ 64 = z := ⟨_, rfl⟩
    obtain ⟨ll, hll⟩ : ∃ z, ab % 2 ^ 64 = z := ⟨_, rfl⟩
    rw [hhh, hll] at l4
    have hhl : hh % 2 ^ 64 = hh := Nat.mod_eq_of_lt (by
      rw [← hhh]
      have : ab < 2 ^ 64 * 2 ^ 64 := by rw [hab']; exact Nat.mul_lt_mul'' hq (hdl i)
      omega)
    rw [hll] at w1
    rw [hhh, hll, hhl] at w2
    obtain ⟨c2, hc2⟩ : ∃ z, (ll + c i) / 2 ^ 64 = z := ⟨_, rfl⟩
    rw [hc2] at w2
    rw [← hi1] at w2 l11 l13 ⊢
    simp only [uH]
    simp only [EE,EX,Nat.reduceLeDiff,Nat.reduceEqDiff,Int.reduceEq,reduceCtorEq,Nat.reduceAdd,Nat.reduceMul,if_true,if_false,decide_true,decide_false, l1, l2, l3, l4, l5.eq, l6.eq, l7, l8, l9, l10, l11, l12, l13, w1, w2, hc2]
  · have l1 : decide ((n : Int) < (n : Int)) = false := by simp
    simp only [uH]
    simp only [EE,EX,Nat.reduceLeDiff,Nat.reduceEqDiff,Int.reduceEq,reduceCtorEq,Nat.reduceAdd,Nat.reduceMul,if_true,if_false,decide_true,decide_false, l1]

theorem r_divBack {D n s lo Wv a : Nat} (hn : n ≤ 9) (hD : D < 2 ^ (64 * n)) (hlo : lo < 2 ^ (64 * a)) (hW : Wv < 2 ^ (64 * (n + 1))) (ha : a + n < 19) :
    Run T f_divide_divisor_back [dv D n s, .hs 1 0 0 19 19, .i (a : Int)] [some (us 64 (dl 64 19 (lo + 2 ^ (64 * a) * Wv)))] =
      some (.b (decide (2 ^ (64 * (n + 1)) ≤ Wv + D)), [some (us 64 (dl 64 19 (lo + 2 ^ (64 * a) * ((Wv + D) % 2 ^ (64 * (n + 1))))))]) := by
  rw [Run_at T _ (show T f_divide_divisor_back = some m_divide_divisor_back from rfl)]
  simp only [c_divide_divisor_back]
  have hD' : D < 2 ^ (64 * (n + 1)) := Nat.lt_of_lt_of_le hD (Nat.pow_le_pow_right (by omega) (by omega))
  obtain ⟨X, hX⟩ : ∃ X, X = lo + 2 ^ (64 * a) * Wv := ⟨_, rfl⟩
  obtain ⟨Z, hZ⟩ : ∃ Z, Z = Wv + D := ⟨_, rfl⟩
  obtain ⟨Y, hY⟩ : ∃ Y, Y = lo + 2 ^ (64 * a) * (Z % 2 ^ (64 * (n + 1))) := ⟨_, rfl⟩
  obtain ⟨x, hx⟩ : ∃ x : Nat → Nat, ∀ j, x j = X / 2 ^ (64 * j) % 2 ^ 64 := ⟨_, fun _ => rfl⟩
  obtain ⟨y, hy⟩ : ∃ x : Nat → Nat, ∀ j, x j = Y / 2 ^ (64 * j) % 2 ^ 64 := ⟨_, fun _ => rfl⟩
  obtain ⟨d, hd⟩ : ∃ d : Nat → Nat, ∀ i, d i = D / 2 ^ (64 * i) % 2 ^ 64 := ⟨_, fun _ => rfl⟩
  obtain ⟨b, hb⟩ : ∃ b : Nat → Nat, ∀ i, b i = (Wv % 2 ^ (64 * i) + D % 2 ^ (64 * i)) / 2 ^ (64 * i) := ⟨_, fun _ => rfl⟩
  have hbl : ∀ i, (b i ≤ 1) = True := fun i => by rw [hb]; exact eq_true (carry_le 64 Wv D i)
  have hxw : ∀ i, x (a + i) = Wv / 2 ^ (64 * i) % 2 ^ 64 := fun i => by rw [hx, hX, word_of_window hlo (by omega), show a + i - a = i by omega]
  have hyw : ∀ i, i < n + 1 → y (a + i) = Z / 2 ^ (64 * i) % 2 ^ 64 := fun i hi => by
    rw [hy, hY, word_of_window hlo (by omega), show a + i - a = i by omega]
    have := congrArg (fun l => l.getD i 0) (dl_mod 64 (n + 1) Z)
    simp only [dl_getD hi] at this
    exact this
  have hlo' : ∀ i, i < n + 1 → (x (a + i) + d i + b i) % 2 ^ 64 = y (a + i) := fun i hi => by
    rw [hxw, hd, hb, hyw i hi, hZ]; exact carry_lo 64 Wv D i
  have hhi : ∀ i, (x (a + i) + d i + b i) / 2 ^ 64 = b (i + 1) := fun i => by rw [hxw, hd, hb, hb]; exact carry_hi 64 Wv D i
  have hdn : d n = 0 := by rw [hd]; exact word_zero hD (Nat.le_refl n)
  have hbn : decide (b (n + 1) = 1) = decide (2 ^ (64 * (n + 1)) ≤ Z) := by
    have hP : 0 < 2 ^ (64 * (n + 1)) := Nat.two_pow_pos _
    rw [hb, Nat.mod_eq_of_lt hW, Nat.mod_eq_of_lt hD', ← hZ]
    by_cases h : 2 ^ (64 * (n + 1)) ≤ Z
    · rw [decide_eq_true h, decide_eq_true (Nat.div_eq_of_lt_le (by omega) (by omega))]
    · rw [decide_eq_false h, Nat.div_eq_of_lt (by omega)]; rfl
  have hb0 : b 0 = 0 := by rw [hb]; simp [Nat.mod_one]
  have hlX : dl 64 19 X = tb 19 x := tb_congr fun j hj => (hx j).symm
  have hlY : tb 19 (fun j => if a ≤ j ∧ j < a + (n + 1) then y j else x j) = dl 64 19 Y := tb_congr fun j hj => by
    by_cases h : a ≤ j ∧ j < a + (n + 1)
    · rw [if_pos h, hy]
    · rw [if_neg h, hx]
      by_cases h2 : j < a
      · rw [hX, hY, word_below h2, word_below h2]
      · rw [hX, hY, word_of_window hlo (by omega), word_of_window hlo (by omega), word_zero hW (by omega), word_zero (Nat.mod_lt _ (Nat.two_pow_pos _)) (by omega)]
  rw [← hX, ← hZ, ← hY]
  rw [← hlY, hlX]
  have k1 := dv_n D n s
  have k2 : ∀ i, i < 9 → part (dvl D n s) i none = some (.u 64 (d i)) := fun i hi => by rw [hd]; exact dv_w hi
  obtain ⟨dd, hdd⟩ : ∃ l, l = dvl D n s := ⟨_, rfl⟩
  simp only [dv, ← hdd] at k1 k2 ⊢
  obtain ⟨an, han⟩ : ∃ z, z = a + n := ⟨_, rfl⟩
  have k3 : F (w64 ((a : Int) + (n : Int))) (an : Int) := ⟨by unfold w64; omega⟩
  simp only [EE,EX,Nat.reduceLeDiff,Nat.reduceEqDiff,Int.reduceEq,reduceCtorEq,Nat.reduceAdd,Nat.reduceMul,if_true,if_false,decide_true,decide_false, k1]
  rw [loop_use T (fun i => ⟨[(0, .vr dd 0), (1, .hs 1 0 0 19 19), (2, .i (a : Int)), (7, .u 64 (b i)), (12, .i (n : Int)), (13, .i (i : Int))], uH (fun j => if a ≤ j ∧ j < a + i then y j else x j)⟩) n
    (.exit 0, ⟨[(0, .vr dd 0), (1, .hs 1 0 0 19 19), (2, .i (a : Int)), (7, .u 64 (b n))], uH (fun j => if a ≤ j ∧ j < a + n then y j else x j)⟩) ?h0 (by simp) ?hs ?hn]
  · have l1 := ixOf_nat (show an < 19 by omega)
    have l2 := part_tb (w := 64) (fun j => if a ≤ j ∧ j < a + n then y j else x j) an (show an < 19 by omega)
    rw [if_neg (by omega)] at l2
    have l3 := hbl n
    have l4 := hlo' n (by omega)
    have l5 := hhi n
    rw [← han, hdn] at l4 l5
    rw [Nat.add_zero] at l4 l5
    have l6 : (an + 1 ≤ 19) = True := by simp; omega
    have l7 : tb 19 (fun j => if j = an then y an else if a ≤ j ∧ j < a + n then y j else x j) = tb 19 (fun j => if a ≤ j ∧ j < a + (n + 1) then y j else x j) := by subst han; exact win_step y x
    have l9 : ∀ f, (uH f).all (lowR 1) = true := fun f => by simp [uH, lowR, us_low]
    simp only [uH] at l9 ⊢
    simp only [EE,EX,Nat.reduceLeDiff,Nat.reduceEqDiff,Int.reduceEq,reduceCtorEq,Nat.reduceAdd,Nat.reduceMul,if_true,if_false,decide_true,decide_false, k1, k3.eq, l1, l2, l3, l4, l5, l6, l7, l9, hbn, List.take_succ_cons, List.take_nil]
  · have e1 : tb 19 x = tb 19 (fun j => if a ≤ j ∧ j < a + 0 then y j else x j) := tb_congr fun j hj => by rw [if_neg (by omega)]
    rw [e1]; simp only [hb0]; rfl
  · intro i hi
    obtain ⟨ai, hai⟩ : ∃ z, z = a + i := ⟨_, rfl⟩
    have l1 : decide ((i : Int) < (n : Int)) = true := by simp; omega
    have l2 := ixOf_nat (show i < 9 by omega)
    have l3 := k2 i (by omega)
    obtain ⟨i1, hi1⟩ : ∃ z, z = i + 1 := ⟨_, rfl⟩
    have l5 : F (w64 ((i : Int) + 1)) (i1 : Int) := ⟨by unfold w64; omega⟩
    have l6 : F (w64 ((a : Int) + (i : Int))) (ai : Int) := ⟨by unfold w64; omega⟩
    have l7 := ixOf_nat (show ai < 19 by omega)
    have l8 := part_tb (w := 64) (fun j => if a ≤ j ∧ j < a + i then y j else x j) ai (show ai < 19 by omega)
    rw [if_neg (by omega)] at l8
    have l9 := hbl i
    have l10 := hlo' i (by omega)
    have l11 := hhi i
    rw [← hai] at l10 l11
    have l12 : (ai + 1 ≤ 19) = True := by simp; omega
    have l13 : tb 19 (fun j => if j = ai then y ai else if a ≤ j ∧ j < a + i then y j else x j) = tb 19 (fun j => if a ≤ j ∧ j < a + (i + 1) then y j else x j) := by subst hai; exact win_step y x
    rw [← hi1] at l11 l13 ⊢
    simp only [uH]
    simp only [EE,EX,Nat.reduceLeDiff,Nat.reduceEqDiff,Int.reduceEq,reduceCtorEq,Nat.reduceAdd,Nat.reduceMul,if_true,if_false,decide_true,decide_false, l1, l2, l3, l5.eq, l6.eq, l7, l8, l9, l10, l11, l12, l13]
  · have l1 : decide ((n : Int) < (n : Int)) = false := by simp
    simp only [uH]
    simp only [EE,EX,Nat.reduceLeDiff,Nat.reduceEqDiff,Int.reduceEq,reduceCtorEq,Nat.reduceAdd,Nat.reduceMul,if_true,if_false,decide_true,decide_false, l1]

end Mir

namespace Mir

/-- Knuth's guess of a digit of 32 bits, by two digits: how often it is too great. -/
theorem est32 {U u y y1 y0 : Nat} (hy : y = y1 * 4294967296 + y0) (hy0 : y0 < 4294967296) (hy1 : 2147483648 ≤ y1) (hy1l : y1 < 4294967296) (hU : U < y) (hu : u < 4294967296) :
    ∃ (q r : Nat → Nat) (K : Nat), (∀ i, q i = U / y1 - i) ∧ (∀ i, r i = U % y1 + i * y1) ∧ K ≤ 1 ∧ U / y1 < 4294967296 + 2 ∧
      (∀ i, i < K → r (i + 1) < 4294967296 ∧ 1 ≤ q i ∧ (4294967296 ≤ q i ∨ (q i < 4294967296 ∧ 4294967296 * r i + u < q i * y0))) ∧
      ((q K < 4294967296 ∧ q K * y0 ≤ 4294967296 * r K + u ∧ q K = (U * 4294967296 + u) / y) ∨
       (4294967296 ≤ r (K + 1) ∧ 1 ≤ q K ∧ (4294967296 ≤ q K ∨ (q K < 4294967296 ∧ 4294967296 * r K + u < q K * y0)) ∧ q (K + 1) = (U * 4294967296 + u) / y)) ∧
      (∀ i, i ≤ K → r i < 4294967296) := by
  obtain ⟨N, hN⟩ : ∃ N, N = U * 4294967296 + u := ⟨_, rfl⟩
  obtain ⟨t, ht⟩ : ∃ t, t = N / y := ⟨_, rfl⟩
  have hyp : 0 < y := by omega
  have hy1p : 0 < y1 := by omega
  have ht1 : t * y ≤ N := by rw [ht]; exact Nat.div_mul_le_self _ _
  have ht2 : N < (t + 1) * y := by rw [ht, Nat.mul_comm]; exact Nat.lt_mul_div_succ N hyp
  have htl : t < 4294967296 := by
    rw [ht, Nat.div_lt_iff_lt_mul hyp, hN]
    have : (U + 1) * 4294967296 ≤ y * 4294967296 := Nat.mul_le_mul_right _ hU
    rw [Nat.succ_mul] at this
    rw [Nat.mul_comm 4294967296 y]
    omega
  have hdm := Nat.div_add_mod U y1
  have hml := Nat.mod_lt U hy1p
  obtain ⟨q0, hq0⟩ : ∃ q0, q0 = U / y1 := ⟨_, rfl⟩
  obtain ⟨r0, hr0⟩ : ∃ r0, r0 = U % y1 := ⟨_, rfl⟩
  rw [← hq0, ← hr0] at hdm
  rw [← hr0] at hml
  -- what a guess is worth
  have worth : ∀ k, k ≤ q0 → (q0 - k) * y1 + (r0 + k * y1) = U := fun k hk => by
    have : (q0 - k) * y1 + k * y1 = q0 * y1 := by rw [← Nat.add_mul]; congr 1; omega
    rw [Nat.mul_comm y1 q0] at hdm
    omega
  have cmp : ∀ k, k ≤ q0 → ((q0 - k) * y ≤ N ↔ (q0 - k) * y0 ≤ 4294967296 * (r0 + k * y1) + u) := fun k hk => by
    have h1 := worth k hk
    obtain ⟨g, hg⟩ : ∃ g, g = q0 - k := ⟨_, rfl⟩
    obtain ⟨r, hr⟩ : ∃ r, r = r0 + k * y1 := ⟨_, rfl⟩
    rw [← hg, ← hr] at h1 ⊢
    have h2 : g * y = g * y1 * 4294967296 + g * y0 := by rw [hy, Nat.mul_add, Nat.mul_assoc]
    rw [h2, hN, ← h1, Nat.add_mul]
    omega
  have le_t : ∀ g, g * y ≤ N ↔ g ≤ t := fun g => by rw [ht, Nat.le_div_iff_mul_le hyp]
  have ge_t : t ≤ q0 := by
    rw [hq0, Nat.le_div_iff_mul_le hy1p]
    have h1 : t * y = t * y1 * 4294967296 + t * y0 := by rw [hy, Nat.mul_add, Nat.mul_assoc]
    omega
  have q0l : q0 < 4294967296 + 2 := by
    rw [hq0, Nat.div_lt_iff_lt_mul hy1p]
    omega
  -- the test
  have test : ∀ k, k ≤ q0 → t < q0 - k → (4294967296 ≤ q0 - k ∨ (q0 - k < 4294967296 ∧ 4294967296 * (r0 + k * y1) + u < (q0 - k) * y0)) := fun k hk h => by
    by_cases h1 : 4294967296 ≤ q0 - k
    · exact .inl h1
    · right
      refine ⟨by omega, ?_⟩
      rcases Nat.lt_or_ge (4294967296 * (r0 + k * y1) + u) ((q0 - k) * y0) with h2 | h2
      · exact h2
      · exact absurd ((le_t _).1 ((cmp k hk).2 h2)) (by omega)
  have brk : ∀ k, k ≤ q0 → t ≤ q0 - k → q0 - k ≤ 4294967296 → 4294967296 ≤ r0 + k * y1 → q0 - k = t := fun k hk h1 h2 h3 => by
    have h4 : (q0 - k) * y0 ≤ 4294967296 * 4294967295 := Nat.mul_le_mul h2 (by omega)
    have h5 := (le_t _).1 ((cmp k hk).2 (by omega))
    omega
  rw [← hq0, ← hr0, ← hN, ← ht]
  refine ⟨fun i => q0 - i, fun i => r0 + i * y1, ?_⟩
  by_cases c0 : q0 = t
  · refine ⟨0, fun _ => rfl, fun _ => rfl, by omega, q0l, fun i hi => absurd hi (by omega), .inl ⟨by simp; omega, ?_, by simp; exact c0⟩, fun i hi => ?_⟩
    · exact (cmp 0 (by omega)).1 ((le_t _).2 (by omega))
    · have : i = 0 := by omega
      subst this
      simp
      omega
  · have g0 : t < q0 - 0 := by omega
    have t0 := test 0 (by omega) g0
    by_cases c1 : 4294967296 ≤ r0 + 1 * y1
    · refine ⟨0, fun _ => rfl, fun _ => rfl, by omega, q0l, fun i hi => absurd hi (by omega), .inr ⟨c1, by simp; omega, t0, brk 1 (by omega) (by omega) (by omega) c1⟩, fun i hi => ?_⟩
      have : i = 0 := by omega
      subst this
      simp
      omega
    · have rl : ∀ i, i ≤ 1 → r0 + i * y1 < 4294967296 := fun i hi => by
        rcases (show i = 0 ∨ i = 1 by omega) with h | h <;> subst h <;> omega
      have first : ∀ i, i < 1 → r0 + (i + 1) * y1 < 4294967296 ∧ 1 ≤ q0 - i ∧ (4294967296 ≤ q0 - i ∨ (q0 - i < 4294967296 ∧ 4294967296 * (r0 + i * y1) + u < (q0 - i) * y0)) := fun i hi => by
        have : i = 0 := by omega
        subst this
        exact ⟨rl 1 (by omega), by omega, t0⟩
      by_cases c2 : q0 - 1 = t
      · refine ⟨1, fun _ => rfl, fun _ => rfl, by omega, q0l, first, .inl ⟨by simp only [c2]; exact htl, (cmp 1 (by omega)).1 ((le_t _).2 (by omega)), c2⟩, rl⟩
      · have c3 : 4294967296 ≤ r0 + 2 * y1 := by omega
        exact ⟨1, fun _ => rfl, fun _ => rfl, by omega, q0l, first, .inr ⟨c3, by simp only; omega, test 1 (by omega) (by omega), brk 2 (by omega) (by omega) (by omega) c3⟩, rl⟩

theorem r_LZ {x : Nat} (hx : x < 2 ^ 64) : Run T f_bits_LeadingZeros64 [.u 64 x] [] = some (.i ((64 - bl x : Nat) : Int), []) := by
  rw [Run_at T _ (show T f_bits_LeadingZeros64 = some m_bits_LeadingZeros64 from rfl)]
  simp only [c_bits_LeadingZeros64]
  have k1 := r_Len64 hx
  have k2 := bl_lt64 hx
  have k3 : F (w64 (64 - (bl x : Int))) ((64 - bl x : Nat) : Int) := ⟨by unfold w64; omega⟩
  simp only [EE,EX,Nat.reduceLeDiff,Nat.reduceEqDiff,Int.reduceEq,reduceCtorEq,Nat.reduceAdd,Nat.reduceMul,if_true,if_false,decide_true,decide_false, k1, k3.eq]

/-- The next rest: modulo words. -/
theorem next_rest {U u p R : Nat} (h : U * 4294967296 + u = p + R) (hR : R < 2 ^ 64) : ((U * 4294967296 % 2 ^ 64 + u) % 2 ^ 64 + 2 ^ 64 - p % 2 ^ 64) % 2 ^ 64 = R := by omega
theorem two_stepsB {hi a b y N B : Nat} (hy : 0 < y) (hN : N = (hi * B + a) * B + b) :
    (hi * B + a) / y * B + ((hi * B + a) % y * B + b) / y = N / y ∧ ((hi * B + a) % y * B + b) % y = N % y := by
  obtain ⟨A, hA⟩ : ∃ A, A = hi * B + a := ⟨_, rfl⟩
  rw [← hA] at hN ⊢
  have h1 := Nat.div_add_mod A y
  have h2 : N = (A % y * B + b) + y * (A / y * B) := by
    have h3 : A * B = (y * (A / y) + A % y) * B := by rw [h1]
    rw [hN, ← Nat.mul_assoc, h3, Nat.add_mul]; omega
  rw [h2, Nat.add_mul_div_left _ _ hy, Nat.add_mul_mod_self_left]
  exact ⟨Nat.add_comm _ _, rfl⟩
theorem two_steps {hi a b y N : Nat} (hy : 0 < y) (hN : N = (hi * 4294967296 + a) * 4294967296 + b) :
    (hi * 4294967296 + a) / y * 4294967296 + ((hi * 4294967296 + a) % y * 4294967296 + b) / y = N / y ∧ ((hi * 4294967296 + a) % y * 4294967296 + b) % y = N % y := two_stepsB hy hN

theorem mul32 {a b : Nat} (ha : a < 4294967296) (hb : b < 4294967296) : a * b < 2 ^ 64 := Nat.mul_lt_mul'' (c := 4294967296) (d := 4294967296) ha hb
theorem dec_lem {z i : Nat} (h1 : 1 ≤ z - i) (h2 : z < 4294967296 + 2) : (z - i + 2 ^ 64 - 1) % 2 ^ 64 = z - (i + 1) := by omega
theorem inc_lem {m i y : Nat} (h : m + i * y < 4294967296) (hy : y < 4294967296) : (m + i * y + y) % 2 ^ 64 = m + (i + 1) * y := by
  rw [Nat.add_mul, Nat.one_mul]
  obtain ⟨p, hp⟩ : ∃ p, p = i * y := ⟨_, rfl⟩
  rw [← hp] at h ⊢
  omega
theorem rest_lem {U y : Nat} (hU : U < 2 ^ 64) : (U + 2 ^ 64 - U / y * y % 2 ^ 64) % 2 ^ 64 = U % y := by
  have h1 := Nat.div_add_mod U y
  rw [Nat.mul_comm] at h1
  obtain ⟨p, hp⟩ : ∃ p, p = U / y * y := ⟨_, rfl⟩
  obtain ⟨z, hz⟩ : ∃ z, z = U % y := ⟨_, rfl⟩
  rw [← hp, ← hz] at h1
  rw [← hp, ← hz]
  omega
theorem p2_lem {r : Nat} (h : r < 4294967296) : 4294967296 * r % 2 ^ 64 = 4294967296 * r := by omega
theorem p3_lem {r u : Nat} (h : r < 4294967296) (hu : u < 4294967296) : (4294967296 * r + u) % 2 ^ 64 = 4294967296 * r + u := by omega
theorem top_lem {t u : Nat} (h : t * 4294967296 + u < 2 ^ 64) : (t * 4294967296 % 2 ^ 64 + u) % 2 ^ 64 = t * 4294967296 + u := by omega
theorem words_lem (hi lo : Nat) : hi * 2 ^ 64 + lo = (hi * 4294967296 + lo / 2 ^ 32) * 4294967296 + lo % 2 ^ 32 := by omega
theorem quo_lem {hi lo y : Nat} (hh : hi < y) (hl : lo < 2 ^ 64) : (hi * 2 ^ 64 + lo) / y < 2 ^ 64 := by
  have h : (hi + 1) * 2 ^ 64 ≤ y * 2 ^ 64 := Nat.mul_le_mul_right _ hh
  obtain ⟨B, hB⟩ : ∃ B, B = 2 ^ 64 := ⟨_, rfl⟩
  rw [← hB] at h hl ⊢
  rw [Nat.add_mul, Nat.one_mul] at h
  rw [Nat.div_lt_iff_lt_mul (by omega), Nat.mul_comm B]
  omega

theorem r_Div64 {hi lo y : Nat} (hy : y < 2 ^ 64) (hy2 : 2 ^ 63 ≤ y) (hh : hi < y) (hl : lo < 2 ^ 64) :
    Run T f_bits_Div64 [.u 64 hi, .u 64 lo, .u 64 y] [] = some (.tup [.u 64 ((hi * 2 ^ 64 + lo) / y), .u 64 ((hi * 2 ^ 64 + lo) % y)], []) := by
  rw [Run_at T _ (show T f_bits_Div64 = some m_bits_Div64 from rfl)]
  simp only [c_bits_Div64]
  have k1 : decide (y = 0) = false := by simp; omega
  have k2 : decide (y ≤ hi) = false := by simp; omega
  by_cases h0 : hi = 0
  · subst h0
    have k3 : decide ((0:Nat) = 0) = true := rfl
    have e : 0 * 2 ^ 64 + lo = lo := by omega
    rw [e]
    simp only [EE,EX,Nat.reduceLeDiff,Nat.reduceEqDiff,Int.reduceEq,reduceCtorEq,Nat.reduceAdd,Nat.reduceMul,if_true,if_false,decide_true,decide_false, k1, k2, k3]
  · have k3 : decide (hi = 0) = false := by simp [h0]
    have k4 := r_LZ hy
    have hb : bl y = 64 := bl_eq (k := 63) (by omega) (by omega)
    rw [hb, show ((64 - 64 : Nat) : Int) = 0 from rfl] at k4
    obtain ⟨y1, hy1⟩ : ∃ z, y / 2 ^ 32 = z := ⟨_, rfl⟩
    obtain ⟨y0, hy0⟩ : ∃ z, y % 2 ^ 32 = z := ⟨_, rfl⟩
    obtain ⟨u1, hu1⟩ : ∃ z, lo / 2 ^ 32 = z := ⟨_, rfl⟩
    obtain ⟨u0, hu0⟩ : ∃ z, lo % 2 ^ 32 = z := ⟨_, rfl⟩
    have k5 : y &&& 4294967295 = y0 := by rw [← hy0]; exact Nat.and_two_pow_sub_one_eq_mod y 32
    have k6 : lo &&& 4294967295 = u0 := by rw [← hu0]; exact Nat.and_two_pow_sub_one_eq_mod lo 32
    have k7 : y * 2 ^ 0 % 2 ^ 64 = y := by omega
    have k8 : hi * 2 ^ 0 % 2 ^ 64 = hi := by omega
    have k9 : lo * 2 ^ 0 % 2 ^ 64 = lo := by omega
    have k10 : lo / 2 ^ 64 = 0 := by omega
    have k11 : hi ||| 0 = hi := Nat.or_zero hi
    have k12 : decide (y1 = 0) = false := by simp; omega
    have c1 : ((0 : Int) % 2 ^ 64).toNat = 0 := by decide
    have c2 : min 0 64 = 0 := by decide
    have c3 : (64 + 2 ^ 64 - 0) % 2 ^ 64 = 64 := by decide
    have c4 : min 64 64 = 64 := by decide
    have c5 : min 32 64 = 32 := by decide
    have hyy : y = y1 * 4294967296 + y0 := by omega
    have hy0l : y0 < 4294967296 := by omega
    have hy1l : y1 < 4294967296 := by omega
    have hy1g : 2147483648 ≤ y1 := by omega
    have hu1l : u1 < 4294967296 := by omega
    have hu0l : u0 < 4294967296 := by omega
    have hyp : 0 < y := by omega
    obtain ⟨N, hN⟩ : ∃ N, N = hi * 2 ^ 64 + lo := ⟨_, rfl⟩
    have hN2 : N = (hi * 4294967296 + u1) * 4294967296 + u0 := by rw [hN, ← hu1, ← hu0]; exact words_lem hi lo
    have hNl : N / y < 2 ^ 64 := by rw [hN]; exact quo_lem hh hl
    obtain ⟨f1, f2⟩ := two_steps hyp hN2
    rw [← hN]
    obtain ⟨q, r, K, hqa, hra, hKa, hqla, hsta, henda, hrla⟩ := est32 hyy hy0l hy1g hy1l hh hu1l
    have e1 := Nat.div_add_mod (hi * 4294967296 + u1) y
    rw [Nat.mul_comm] at e1
    have hRl : (hi * 4294967296 + u1) % y < y := Nat.mod_lt _ hyp
    obtain ⟨t1, ht1⟩ : ∃ z, (hi * 4294967296 + u1) / y = z := ⟨_, rfl⟩
    obtain ⟨R, hR⟩ : ∃ z, (hi * 4294967296 + u1) % y = z := ⟨_, rfl⟩
    rw [ht1] at henda
    rw [ht1, hR] at f1
    rw [hR] at f2 hRl
    rw [ht1, hR] at e1
    have n1 := next_rest e1.symm (show R < 2 ^ 64 by omega)
    obtain ⟨quo2, rst2, cnt2, hqb, hrb, hKb, hqlb, hstb, hendb, hrlb⟩ := est32 hyy hy0l hy1g hy1l hRl hu0l
    have e2 := Nat.div_add_mod (R * 4294967296 + u0) y
    rw [f2, Nat.mul_comm] at e2
    obtain ⟨t0, ht0⟩ : ∃ z, (R * 4294967296 + u0) / y = z := ⟨_, rfl⟩
    rw [ht0] at hendb f1 e2
    have n2 := next_rest e2.symm (show N % y < 2 ^ 64 from Nat.lt_trans (Nat.mod_lt _ hyp) hy)
    have n3 : (t1 * 4294967296 % 2 ^ 64 + t0) % 2 ^ 64 = N / y := by rw [← f1] at hNl ⊢; exact top_lem hNl
    have n4 : N % y / 2 ^ 0 = N % y := by rw [Nat.pow_zero, Nat.div_one]
    have bx1 : ∀ st, bk 1 (some (.exit 0, st)) = some (.exit 0, st) := fun _ => X5 1 0 _ rfl
    have bx2 : ∀ st, bk 3 (some (.exit 2, st)) = some (.exit 2, st) := fun _ => X5 3 2 _ rfl
    clear f1 f2 e1 e2 hN2 hNl
    simp only [EE,EX,Nat.reduceLeDiff,Nat.reduceEqDiff,Int.reduceEq,reduceCtorEq,Nat.reduceAdd,Nat.reduceMul,if_true,if_false,decide_true,decide_false, k1, k2, k3, k4, k5, k6, c1, c2, c3, c4, c5, k7, k8, k9, k10, k11, k12, hy1, hu1]
    rw [loop_use T (fun i => ⟨[(2, .u 64 y), (8, .u 64 0), (9, .u 64 y1), (10, .u 64 y0), (11, .u 64 hi), (13, .u 64 u1), (14, .u 64 u0), (15, .u 64 (q i)), (16, .u 64 (r i))], []⟩) K (.exit 0, ⟨[(2, .u 64 y), (8, .u 64 0), (9, .u 64 y1), (10, .u 64 y0), (11, .u 64 hi), (13, .u 64 u1), (14, .u 64 u0), (15, .u 64 t1)], []⟩) ?h0a (by simp) ?hsa ?hna]
    rotate_left
    · have e1 : q 0 = hi / y1 := by rw [hqa]; exact Nat.sub_zero _
      have e2 : r 0 = hi % y1 := by rw [hra, Nat.zero_mul, Nat.add_zero]
      have e3 : (hi + 2 ^ 64 - hi / y1 * y1 % 2 ^ 64) % 2 ^ 64 = hi % y1 := rest_lem (show hi < 2 ^ 64 by omega)
      rw [e3, ← e1, ← e2]
    · intro i hi
      obtain ⟨g1, g2, g3⟩ := hsta i hi
      have d3 : decide (4294967296 ≤ r (i + 1)) = false := decide_eq_false (by omega)
      have s1 : (q i + 2 ^ 64 - 1) % 2 ^ 64 = q (i + 1) := by rw [hqa, hqa]; rw [hqa] at g2; exact dec_lem g2 hqla
      have s2 : (r i + y1) % 2 ^ 64 = r (i + 1) := by have h3 := hrla i (by omega); rw [hra] at h3; rw [hra, hra]; exact inc_lem h3 hy1l
      have p2 : 4294967296 * r i % 2 ^ 64 = 4294967296 * r i := p2_lem (hrla i (by omega))
      have p3 : (4294967296 * r i + u1) % 2 ^ 64 = 4294967296 * r i + u1 := p3_lem (hrla i (by omega)) hu1l
      rcases g3 with g | ⟨g, g4⟩
      · have d1 : decide (4294967296 ≤ q i) = true := decide_eq_true g
        simp only [EE,EX,Nat.reduceLeDiff,Nat.reduceEqDiff,Int.reduceEq,reduceCtorEq,Nat.reduceAdd,Nat.reduceMul,if_true,if_false,decide_true,decide_false, d1, s1, s2, d3]
      · have d1 : decide (4294967296 ≤ q i) = false := decide_eq_false (by omega)
        have d2 : decide (4294967296 * r i + u1 < q i * y0) = true := decide_eq_true g4
        have p1 : q i * y0 % 2 ^ 64 = q i * y0 := Nat.mod_eq_of_lt (mul32 g hy0l)
        simp only [EE,EX,Nat.reduceLeDiff,Nat.reduceEqDiff,Int.reduceEq,reduceCtorEq,Nat.reduceAdd,Nat.reduceMul,if_true,if_false,decide_true,decide_false, d1, d2, p1, p2, p3, s1, s2, d3]
    · rcases henda with ⟨g1, g2, g3⟩ | ⟨g1, g2, g3, g4⟩
      · have d1 : decide (4294967296 ≤ q K) = false := decide_eq_false (by omega)
        have d2 : decide (4294967296 * r K + u1 < q K * y0) = false := decide_eq_false (by omega)
        have p1 : q K * y0 % 2 ^ 64 = q K * y0 := Nat.mod_eq_of_lt (mul32 g1 hy0l)
        have p2 : 4294967296 * r K % 2 ^ 64 = 4294967296 * r K := p2_lem (hrla K (by omega))
        have p3 : (4294967296 * r K + u1) % 2 ^ 64 = 4294967296 * r K + u1 := p3_lem (hrla K (by omega)) hu1l
        rw [← g3]
        simp only [EE,EX,Nat.reduceLeDiff,Nat.reduceEqDiff,Int.reduceEq,reduceCtorEq,Nat.reduceAdd,Nat.reduceMul,if_true,if_false,decide_true,decide_false, d1, d2, p1, p2, p3]
      · have d3 : decide (4294967296 ≤ r (K + 1)) = true := decide_eq_true g1
        rw [← g4]
        have s1 : (q K + 2 ^ 64 - 1) % 2 ^ 64 = q (K + 1) := by rw [hqa, hqa]; rw [hqa] at g2; exact dec_lem g2 hqla
        have s2 : (r K + y1) % 2 ^ 64 = r (K + 1) := by have h3 := hrla K (by omega); rw [hra] at h3; rw [hra, hra]; exact inc_lem h3 hy1l
        have p2 : 4294967296 * r K % 2 ^ 64 = 4294967296 * r K := p2_lem (hrla K (by omega))
        have p3 : (4294967296 * r K + u1) % 2 ^ 64 = 4294967296 * r K + u1 := p3_lem (hrla K (by omega)) hu1l
        rcases g3 with g | ⟨g, g4⟩
        · have d1 : decide (4294967296 ≤ q K) = true := decide_eq_true g
          simp only [EE,EX,Nat.reduceLeDiff,Nat.reduceEqDiff,Int.reduceEq,reduceCtorEq,Nat.reduceAdd,Nat.reduceMul,if_true,if_false,decide_true,decide_false, d1, s1, s2, d3, bx1, bx2]
        · have d1 : decide (4294967296 ≤ q K) = false := decide_eq_false (by omega)
          have d2 : decide (4294967296 * r K + u1 < q K * y0) = true := decide_eq_true g4
          have p1 : q K * y0 % 2 ^ 64 = q K * y0 := Nat.mod_eq_of_lt (mul32 g hy0l)
          simp only [EE,EX,Nat.reduceLeDiff,Nat.reduceEqDiff,Int.reduceEq,reduceCtorEq,Nat.reduceAdd,Nat.reduceMul,if_true,if_false,decide_true,decide_false, d1, d2, p1, p2, p3, s1, s2, d3, bx1, bx2]
    simp only [EE,EX,Nat.reduceLeDiff,Nat.reduceEqDiff,Int.reduceEq,reduceCtorEq,Nat.reduceAdd,Nat.reduceMul,if_true,if_false,decide_true,decide_false, n1, k12]
    rw [loop_use T (fun i => ⟨[(2, .u 64 y), (8, .u 64 0), (9, .u 64 y1), (10, .u 64 y0), (14, .u 64 u0), (15, .u 64 t1), (16, .u 64 (rst2 i)), (17, .u 64 R), (18, .u 64 (quo2 i))], []⟩) cnt2 (.exit 2, ⟨[(2, .u 64 y), (8, .u 64 0), (14, .u 64 u0), (15, .u 64 t1), (17, .u 64 R), (18, .u 64 t0)], []⟩) ?h0b (by simp) ?hsb ?hnb]
    rotate_left
    · have e1 : quo2 0 = R / y1 := by rw [hqb]; exact Nat.sub_zero _
      have e2 : rst2 0 = R % y1 := by rw [hrb, Nat.zero_mul, Nat.add_zero]
      have e3 : (R + 2 ^ 64 - R / y1 * y1 % 2 ^ 64) % 2 ^ 64 = R % y1 := rest_lem (show R < 2 ^ 64 by omega)
      rw [e3, ← e1, ← e2]
    · intro i hi
      obtain ⟨g1, g2, g3⟩ := hstb i hi
      have d3 : decide (4294967296 ≤ rst2 (i + 1)) = false := decide_eq_false (by omega)
      have s1 : (quo2 i + 2 ^ 64 - 1) % 2 ^ 64 = quo2 (i + 1) := by rw [hqb, hqb]; rw [hqb] at g2; exact dec_lem g2 hqlb
      have s2 : (rst2 i + y1) % 2 ^ 64 = rst2 (i + 1) := by have h3 := hrlb i (by omega); rw [hrb] at h3; rw [hrb, hrb]; exact inc_lem h3 hy1l
      have p2 : 4294967296 * rst2 i % 2 ^ 64 = 4294967296 * rst2 i := p2_lem (hrlb i (by omega))
      have p3 : (4294967296 * rst2 i + u0) % 2 ^ 64 = 4294967296 * rst2 i + u0 := p3_lem (hrlb i (by omega)) hu0l
      rcases g3 with g | ⟨g, g4⟩
      · have d1 : decide (4294967296 ≤ quo2 i) = true := decide_eq_true g
        simp only [EE,EX,Nat.reduceLeDiff,Nat.reduceEqDiff,Int.reduceEq,reduceCtorEq,Nat.reduceAdd,Nat.reduceMul,if_true,if_false,decide_true,decide_false, d1, s1, s2, d3]
      · have d1 : decide (4294967296 ≤ quo2 i) = false := decide_eq_false (by omega)
        have d2 : decide (4294967296 * rst2 i + u0 < quo2 i * y0) = true := decide_eq_true g4
        have p1 : quo2 i * y0 % 2 ^ 64 = quo2 i * y0 := Nat.mod_eq_of_lt (mul32 g hy0l)
        simp only [EE,EX,Nat.reduceLeDiff,Nat.reduceEqDiff,Int.reduceEq,reduceCtorEq,Nat.reduceAdd,Nat.reduceMul,if_true,if_false,decide_true,decide_false, d1, d2, p1, p2, p3, s1, s2, d3]
    · rcases hendb with ⟨g1, g2, g3⟩ | ⟨g1, g2, g3, g4⟩
      · have d1 : decide (4294967296 ≤ quo2 cnt2) = false := decide_eq_false (by omega)
        have d2 : decide (4294967296 * rst2 cnt2 + u0 < quo2 cnt2 * y0) = false := decide_eq_false (by omega)
        have p1 : quo2 cnt2 * y0 % 2 ^ 64 = quo2 cnt2 * y0 := Nat.mod_eq_of_lt (mul32 g1 hy0l)
        have p2 : 4294967296 * rst2 cnt2 % 2 ^ 64 = 4294967296 * rst2 cnt2 := p2_lem (hrlb cnt2 (by omega))
        have p3 : (4294967296 * rst2 cnt2 + u0) % 2 ^ 64 = 4294967296 * rst2 cnt2 + u0 := p3_lem (hrlb cnt2 (by omega)) hu0l
        rw [← g3]
        simp only [EE,EX,Nat.reduceLeDiff,Nat.reduceEqDiff,Int.reduceEq,reduceCtorEq,Nat.reduceAdd,Nat.reduceMul,if_true,if_false,decide_true,decide_false, d1, d2, p1, p2, p3]
      · have d3 : decide (4294967296 ≤ rst2 (cnt2 + 1)) = true := decide_eq_true g1
        rw [← g4]
        have s1 : (quo2 cnt2 + 2 ^ 64 - 1) % 2 ^ 64 = quo2 (cnt2 + 1) := by rw [hqb, hqb]; rw [hqb] at g2; exact dec_lem g2 hqlb
        have s2 : (rst2 cnt2 + y1) % 2 ^ 64 = rst2 (cnt2 + 1) := by have h3 := hrlb cnt2 (by omega); rw [hrb] at h3; rw [hrb, hrb]; exact inc_lem h3 hy1l
        have p2 : 4294967296 * rst2 cnt2 % 2 ^ 64 = 4294967296 * rst2 cnt2 := p2_lem (hrlb cnt2 (by omega))
        have p3 : (4294967296 * rst2 cnt2 + u0) % 2 ^ 64 = 4294967296 * rst2 cnt2 + u0 := p3_lem (hrlb cnt2 (by omega)) hu0l
        rcases g3 with g | ⟨g, g4⟩
        · have d1 : decide (4294967296 ≤ quo2 cnt2) = true := decide_eq_true g
          simp only [EE,EX,Nat.reduceLeDiff,Nat.reduceEqDiff,Int.reduceEq,reduceCtorEq,Nat.reduceAdd,Nat.reduceMul,if_true,if_false,decide_true,decide_false, d1, s1, s2, d3, bx1, bx2]
        · have d1 : decide (4294967296 ≤ quo2 cnt2) = false := decide_eq_false (by omega)
          have d2 : decide (4294967296 * rst2 cnt2 + u0 < quo2 cnt2 * y0) = true := decide_eq_true g4
          have p1 : quo2 cnt2 * y0 % 2 ^ 64 = quo2 cnt2 * y0 := Nat.mod_eq_of_lt (mul32 g hy0l)
          simp only [EE,EX,Nat.reduceLeDiff,Nat.reduceEqDiff,Int.reduceEq,reduceCtorEq,Nat.reduceAdd,Nat.reduceMul,if_true,if_false,decide_true,decide_false, d1, d2, p1, p2, p3, s1, s2, d3, bx1, bx2]
    simp only [EE,EX,Nat.reduceLeDiff,Nat.reduceEqDiff,Int.reduceEq,reduceCtorEq,Nat.reduceAdd,Nat.reduceMul,if_true,if_false,decide_true,decide_false, c1, c2, n2, n3, n4]

end Mir

namespace Mir

/-- Knuth's guess of a word, by three words: how often it is seen to be too great. -/
theorem est64 {N u y1 y0 t B : Nat} (hB : B = 18446744073709551616) (hy1 : 9223372036854775808 ≤ y1) (hy1l : y1 < B) (hu : u < B) (hle : t ≤ N / y1) (hcmp : t * (y1 * B + y0) ≤ N * B + u) :
    ∃ (q r : Nat → Nat) (K : Nat), (∀ i, q i = N / y1 - i) ∧ (∀ i, r i = N % y1 + i * y1) ∧ K ≤ 1 ∧
      (∀ i, i < K → r (i + 1) < B ∧ 1 ≤ q i ∧ B * r i + u < q i * y0) ∧
      ((q K * y0 ≤ B * r K + u ∧ t ≤ q K) ∨ (B ≤ r (K + 1) ∧ 1 ≤ q K ∧ B * r K + u < q K * y0 ∧ t ≤ q (K + 1))) ∧
      (∀ i, i ≤ K → r i < B) := by
  have hy1p : 0 < y1 := by omega
  have hdm := Nat.div_add_mod N y1
  have hml := Nat.mod_lt N hy1p
  obtain ⟨q0, hq0⟩ : ∃ q0, q0 = N / y1 := ⟨_, rfl⟩
  obtain ⟨r0, hr0⟩ : ∃ r0, r0 = N % y1 := ⟨_, rfl⟩
  rw [← hq0, ← hr0] at hdm
  rw [← hr0] at hml
  rw [← hq0] at hle
  have worth : ∀ k, k ≤ q0 → (q0 - k) * y1 + (r0 + k * y1) = N := fun k hk => by
    have : (q0 - k) * y1 + k * y1 = q0 * y1 := by rw [← Nat.add_mul]; congr 1; omega
    rw [Nat.mul_comm y1 q0] at hdm
    omega
  have cmp : ∀ k, k ≤ q0 → q0 - k ≤ t → (q0 - k) * y0 ≤ B * (r0 + k * y1) + u := fun k hk hkt => by
    have h1 := worth k hk
    obtain ⟨g, hg⟩ : ∃ g, g = q0 - k := ⟨_, rfl⟩
    obtain ⟨r, hr⟩ : ∃ r, r = r0 + k * y1 := ⟨_, rfl⟩
    rw [← hg, ← hr] at h1
    rw [← hg] at hkt
    rw [← hg, ← hr]
    have h0 : g * (y1 * B + y0) ≤ N * B + u := Nat.le_trans (Nat.mul_le_mul_right _ hkt) hcmp
    have h2 : g * (y1 * B + y0) = g * y1 * B + g * y0 := by rw [Nat.mul_add, Nat.mul_assoc]
    rw [h2, ← h1, Nat.add_mul, Nat.mul_comm r B] at h0
    omega
  have le1 : ∀ k, k ≤ q0 → B * (r0 + k * y1) + u < (q0 - k) * y0 → t ≤ q0 - (k + 1) ∧ 1 ≤ q0 - k := fun k hk h => by
    rcases Nat.lt_or_ge t (q0 - k) with h1 | h1
    · omega
    · exact absurd (cmp k hk h1) (by omega)
  rw [← hq0, ← hr0]
  refine ⟨fun i => q0 - i, fun i => r0 + i * y1, ?_⟩
  rcases Nat.lt_or_ge (B * (r0 + 0 * y1) + u) ((q0 - 0) * y0) with c0 | c0
  · obtain ⟨g1, g2⟩ := le1 0 (by omega) c0
    by_cases c1 : B ≤ r0 + 1 * y1
    · refine ⟨0, fun _ => rfl, fun _ => rfl, by omega, fun i hi => absurd hi (by omega), .inr ⟨c1, g2, c0, g1⟩, fun i hi => ?_⟩
      have : i = 0 := by omega
      subst this
      simp
      omega
    · have rl : ∀ i, i ≤ 1 → r0 + i * y1 < B := fun i hi => by
        rcases (show i = 0 ∨ i = 1 by omega) with h | h <;> subst h <;> omega
      have first : ∀ i, i < 1 → r0 + (i + 1) * y1 < B ∧ 1 ≤ q0 - i ∧ B * (r0 + i * y1) + u < (q0 - i) * y0 := fun i hi => by
        have : i = 0 := by omega
        subst this
        exact ⟨rl 1 (by omega), g2, c0⟩
      rcases Nat.lt_or_ge (B * (r0 + 1 * y1) + u) ((q0 - 1) * y0) with c2 | c2
      · obtain ⟨g3, g4⟩ := le1 1 (by omega) c2
        exact ⟨1, fun _ => rfl, fun _ => rfl, by omega, first, .inr ⟨by simp only; omega, g4, c2, g3⟩, rl⟩
      · exact ⟨1, fun _ => rfl, fun _ => rfl, by omega, first, .inl ⟨c2, g1⟩, rl⟩
  · refine ⟨0, fun _ => rfl, fun _ => rfl, by omega, fun i hi => absurd hi (by omega), .inl ⟨c0, by simpa using hle⟩, fun i hi => ?_⟩
    have : i = 0 := by omega
    subst this
    simp
    omega

theorem dec_lem64 {z i : Nat} (h1 : 1 ≤ z - i) (h2 : z < 2 ^ 64) : (z - i + 2 ^ 64 - 1) % 2 ^ 64 = z - (i + 1) := by omega
theorem sum_small {m i y : Nat} (h : m + (i + 1) * y < 2 ^ 64) : (m + i * y + y) % 2 ^ 64 = m + (i + 1) * y ∧ ¬ (m + (i + 1) * y < m + i * y) := by
  rw [Nat.add_mul, Nat.one_mul] at h ⊢
  obtain ⟨p, hp⟩ : ∃ p, p = i * y := ⟨_, rfl⟩
  rw [← hp] at h ⊢
  omega
theorem sum_great {m i y : Nat} (h : 2 ^ 64 ≤ m + (i + 1) * y) (h1 : m + i * y < 2 ^ 64) (hy : y < 2 ^ 64) : (m + i * y + y) % 2 ^ 64 < m + i * y := by
  rw [Nat.add_mul, Nat.one_mul] at h
  obtain ⟨p, hp⟩ : ∃ p, p = i * y := ⟨_, rfl⟩
  rw [← hp] at h h1 ⊢
  omega
/-- A product's two words against two words. -/
theorem two_words {p r u : Nat} (hu : u < 2 ^ 64) : (p ≤ 18446744073709551616 * r + u ↔ (p / 2 ^ 64 < r ∨ (p / 2 ^ 64 = r ∧ p % 2 ^ 64 ≤ u))) := by omega
theorem q_le {t D Wv P : Nat} (hP : 0 < P) (h : t * D ≤ Wv) : t * (D / P) ≤ Wv / P := by
  rw [Nat.le_div_iff_mul_le hP, Nat.mul_assoc]
  exact Nat.le_trans (Nat.mul_le_mul_left _ (Nat.div_mul_le_self _ _)) h
theorem two_parts (X k : Nat) : X / 2 ^ (64 * k) = X / 2 ^ (64 * (k + 1)) * 18446744073709551616 + X / 2 ^ (64 * k) % 2 ^ 64 := by
  have h := Nat.div_add_mod (X / 2 ^ (64 * k)) (2 ^ 64)
  rw [Nat.div_div_eq_div_mul, ← Nat.pow_add, show 64 * k + 64 = 64 * (k + 1) by omega] at h
  omega

theorem r_guess {D n s lo Wv a : Nat} (hn1 : 1 ≤ n) (hn : n ≤ 9) (hD : D < 2 ^ (64 * n)) (hD2 : 2 ^ 63 ≤ D / 2 ^ (64 * (n - 1))) (hlo : lo < 2 ^ (64 * a)) (hW : Wv < D * 2 ^ 64) (ha : a + n < 19) :
    ∃ x, x < 2 ^ 64 ∧ Wv / D ≤ x ∧ Run T f_divide_divisor_guess [dv D n s, .hs 1 0 0 19 19, .i (a : Int)] [some (us 64 (dl 64 19 (lo + 2 ^ (64 * a) * Wv)))] =
      some (.u 64 x, [some (us 64 (dl 64 19 (lo + 2 ^ (64 * a) * Wv)))]) := by
  rw [Run_at T _ (show T f_divide_divisor_guess = some m_divide_divisor_guess from rfl)]
  simp only [c_divide_divisor_guess]
  have hDp : 0 < D := by
    rcases Nat.eq_zero_or_pos D with h | h
    · rw [h, Nat.zero_div] at hD2; omega
    · exact h
  obtain ⟨n1, hn1'⟩ : ∃ z, z = n - 1 := ⟨_, rfl⟩
  rw [← hn1'] at hD2
  have htl : D / 2 ^ (64 * n1) < 2 ^ 64 := by
    rw [Nat.div_lt_iff_lt_mul (Nat.two_pow_pos _), ← Nat.pow_add, show 64 + 64 * n1 = 64 * n by omega]; exact hD
  obtain ⟨top, htop⟩ : ∃ z, z = D / 2 ^ (64 * n1) := ⟨_, rfl⟩
  rw [← htop] at hD2 htl
  have hWl : Wv / 2 ^ (64 * n) < 2 ^ 64 := by
    rw [Nat.div_lt_iff_lt_mul (Nat.two_pow_pos _), Nat.mul_comm]
    exact Nat.lt_of_lt_of_le hW (Nat.mul_le_mul_right _ (Nat.le_of_lt hD))
  obtain ⟨X, hX⟩ : ∃ X, X = lo + 2 ^ (64 * a) * Wv := ⟨_, rfl⟩
  obtain ⟨x, hx⟩ : ∃ x : Nat → Nat, ∀ j, x j = X / 2 ^ (64 * j) % 2 ^ 64 := ⟨_, fun _ => rfl⟩
  obtain ⟨d, hd⟩ : ∃ d : Nat → Nat, ∀ i, d i = D / 2 ^ (64 * i) % 2 ^ 64 := ⟨_, fun _ => rfl⟩
  have hxw : ∀ i, x (a + i) = Wv / 2 ^ (64 * i) % 2 ^ 64 := fun i => by rw [hx, hX, word_of_window hlo (by omega), show a + i - a = i by omega]
  have hlX : dl 64 19 X = tb 19 x := tb_congr fun j hj => (hx j).symm
  have hxl : ∀ j, x j < 2 ^ 64 := fun j => by rw [hx]; exact Nat.mod_lt _ (Nat.two_pow_pos 64)
  have hdl : ∀ i, d i < 2 ^ 64 := fun i => by rw [hd]; exact Nat.mod_lt _ (Nat.two_pow_pos 64)
  rw [← hX, hlX]
  have k1 := dv_n D n s
  have k2 : ∀ i, i < 9 → part (dvl D n s) i none = some (.u 64 (d i)) := fun i hi => by rw [hd]; exact dv_w hi
  obtain ⟨dd, hdd⟩ : ∃ l, l = dvl D n s := ⟨_, rfl⟩
  simp only [dv, ← hdd] at k1 k2 ⊢
  obtain ⟨an, han⟩ : ∃ z, z = a + n := ⟨_, rfl⟩
  obtain ⟨am, ham⟩ : ∃ z, z = a + n1 := ⟨_, rfl⟩
  have w1 : F (w64 ((n : Int) - 1)) (n1 : Int) := ⟨by unfold w64; omega⟩
  have w2 : F (w64 ((a : Int) + (n : Int))) (an : Int) := ⟨by unfold w64; omega⟩
  have w3 : F (w64 ((an : Int) - 1)) (am : Int) := ⟨by unfold w64; omega⟩
  have i1 := ixOf_nat (show n1 < 9 by omega)
  have i2 := ixOf_nat (show an < 19 by omega)
  have i3 := ixOf_nat (show am < 19 by omega)
  have p1 := k2 n1 (by omega)
  have p2 := part_tb (w := 64) x an (show an < 19 by omega)
  have p3 := part_tb (w := 64) x am (show am < 19 by omega)
  have hdt : d n1 = top := by rw [hd, ← htop]; exact Nat.mod_eq_of_lt htl
  rw [hdt] at p1
  have hhi : x an = Wv / 2 ^ (64 * n) := by rw [han, hxw]; exact Nat.mod_eq_of_lt hWl
  have hlw : x am = Wv / 2 ^ (64 * n1) % 2 ^ 64 := by rw [ham, hxw]
  have hN : x an * 2 ^ 64 + x am = Wv / 2 ^ (64 * n1) := by
    have := two_parts Wv n1
    rw [show n1 + 1 = n by omega] at this
    rw [hhi, hlw]; exact this.symm
  obtain ⟨hi, hhi'⟩ : ∃ z, x an = z := ⟨_, rfl⟩
  obtain ⟨low, hlow'⟩ : ∃ z, x am = z := ⟨_, rfl⟩
  have hil : hi < 2 ^ 64 := by rw [← hhi']; exact hxl an
  have lowl : low < 2 ^ 64 := by rw [← hlow']; exact hxl am
  rw [hhi'] at hN hhi p2
  rw [hlow'] at hN hlw p3
  have l9 : ∀ f, (uH f).all (lowR 1) = true := fun f => by simp [uH, lowR, us_low]
  simp only [uH] at l9
  by_cases c1 : top ≤ hi
  · refine ⟨18446744073709551615, by omega, ?_, ?_⟩
    · have : Wv / D < 2 ^ 64 := by rw [Nat.div_lt_iff_lt_mul hDp, Nat.mul_comm]; exact hW
      omega
    · have e1 : decide (top ≤ hi) = true := decide_eq_true c1
      simp only [EE,EX,Nat.reduceLeDiff,Nat.reduceEqDiff,Int.reduceEq,reduceCtorEq,Nat.reduceAdd,Nat.reduceMul,if_true,if_false,decide_true,decide_false, k1, w1.eq, w2.eq, w3.eq, i1, i2, i3, p1, p2, p3, e1, l9, List.take_succ_cons, List.take_nil]
  · have e1 : decide (top ≤ hi) = false := decide_eq_false c1
    have r1 := r_Div64 htl hD2 (by omega) lowl (hi := hi)
    obtain ⟨N, hN'⟩ : ∃ z, z = hi * 2 ^ 64 + low := ⟨_, rfl⟩
    rw [← hN'] at r1 hN
    have tle : Wv / D ≤ N / top := by
      have := q_le (t := Wv / D) (D := D) (Wv := Wv) (P := 2 ^ (64 * n1)) (Nat.two_pow_pos _) (Nat.div_mul_le_self _ _)
      rw [← hN, ← htop] at this
      rw [Nat.le_div_iff_mul_le (by omega)]
      exact this
    have q0l : N / top < 2 ^ 64 := by rw [hN']; exact quo_lem (by omega) lowl
    by_cases c2 : n = 1
    · refine ⟨N / top, q0l, tle, ?_⟩
      have e2 : decide ((n : Int) = 1) = true := decide_eq_true (by omega)
      simp only [EE,EX,Nat.reduceLeDiff,Nat.reduceEqDiff,Int.reduceEq,reduceCtorEq,Nat.reduceAdd,Nat.reduceMul,if_true,if_false,decide_true,decide_false, k1, w1.eq, w2.eq, w3.eq, i1, i2, i3, p1, p2, p3, e1, e2, r1, l9, List.take_succ_cons, List.take_nil]
    · have e2 : decide ((n : Int) = 1) = false := decide_eq_false (by omega)
      obtain ⟨n2, hn2⟩ : ∃ z, z = n - 2 := ⟨_, rfl⟩
      obtain ⟨al, hal⟩ : ∃ z, z = a + n2 := ⟨_, rfl⟩
      have w4 : F (w64 ((n : Int) - 2)) (n2 : Int) := ⟨by unfold w64; omega⟩
      have w5 : F (w64 ((an : Int) - 2)) (al : Int) := ⟨by unfold w64; omega⟩
      have i4 := ixOf_nat (show n2 < 9 by omega)
      have i5 := ixOf_nat (show al < 19 by omega)
      have p4 := k2 n2 (by omega)
      have p5 := part_tb (w := 64) x al (show al < 19 by omega)
      obtain ⟨m2, hm2⟩ : ∃ z, d n2 = z := ⟨_, rfl⟩
      obtain ⟨u2, hu2⟩ : ∃ z, x al = z := ⟨_, rfl⟩
      have hml : m2 < 2 ^ 64 := by rw [← hm2]; exact hdl n2
      have hul : u2 < 2 ^ 64 := by rw [← hu2]; exact hxl al
      have hcmp : Wv / D * (top * 18446744073709551616 + m2) ≤ N * 18446744073709551616 + u2 := by
        have h1 := q_le (t := Wv / D) (D := D) (Wv := Wv) (P := 2 ^ (64 * n2)) (Nat.two_pow_pos _) (Nat.div_mul_le_self _ _)
        have h2 := two_parts Wv n2
        have h3 := two_parts D n2
        rw [show n2 + 1 = n1 by omega] at h2 h3
        rw [← hN, ← hxw, ← hal, hu2] at h2
        rw [← htop, ← hd, hm2] at h3
        rw [h2, h3] at h1
        exact h1
      rw [hm2] at p4
      rw [hu2] at p5
      obtain ⟨B, hB⟩ : ∃ B, B = 18446744073709551616 := ⟨_, rfl⟩
      obtain ⟨t, ht⟩ : ∃ t, t = Wv / D := ⟨_, rfl⟩
      rw [← ht] at tle hcmp
      rw [← ht]
      obtain ⟨q, r, K, hq, hr, hK, hst, hend, hrl⟩ := est64 (N := N) (u := u2) (y1 := top) (y0 := m2) (t := t) rfl (by omega) htl hul tle hcmp
      clear hcmp hN hhi hlw htop hX hx hd
      have e3 : N / top = q 0 := by rw [hq]; exact (Nat.sub_zero _).symm
      have e4 : N % top = r 0 := by rw [hr, Nat.zero_mul, Nat.add_zero]
      rw [e3, e4] at r1
      have hql : ∀ i, q i < 2 ^ 64 := fun i => by rw [hq]; omega
      have mulp : ∀ i, ∃ hh ll, Run T f_bits_Mul64 [.u 64 (q i), .u 64 m2] [] = some (.tup [.u 64 hh, .u 64 ll], []) ∧ (q i * m2 ≤ 18446744073709551616 * r i + u2 ↔ (hh < r i ∨ (hh = r i ∧ ll ≤ u2))) := fun i => ⟨_, _, r_Mul64 (hql i) hml, two_words hul⟩
      have stp : ∀ i, r (i + 1) < 2 ^ 64 → 1 ≤ q i → (q i + 2 ^ 64 - 1) % 2 ^ 64 = q (i + 1) ∧ (r i + top) % 2 ^ 64 = r (i + 1) ∧ ¬ (r (i + 1) < r i) := fun i h1 h2 => by
        rw [hq] at h2
        rw [hr] at h1
        rw [hq, hq, hr, hr]
        exact ⟨dec_lem64 h2 q0l, sum_small h1⟩
      refine ⟨if q K * m2 ≤ 18446744073709551616 * r K + u2 then q K else q (K + 1), by split <;> exact hql _, ?_, ?_⟩
      · split
        · rcases hend with ⟨g1, g2⟩ | ⟨g1, g2, g3, g4⟩
          · exact g2
          · omega
        · rcases hend with ⟨g1, g2⟩ | ⟨g1, g2, g3, g4⟩
          · omega
          · exact g4
      · have w6 := hK
        simp only [EE,EX,Nat.reduceLeDiff,Nat.reduceEqDiff,Int.reduceEq,reduceCtorEq,Nat.reduceAdd,Nat.reduceMul,if_true,if_false,decide_true,decide_false, k1, w1.eq, w2.eq, w3.eq, i1, i2, i3, p1, p2, p3, e1, e2, r1]
        rw [loop_use T (fun i => ⟨[(0, .vr dd 0), (1, .hs 1 0 0 19 19), (2, .i (a : Int)), (7, .u 64 top), (10, .u 64 (q i)), (11, .u 64 (r i))], uH x⟩) K (.ret, ⟨[(6, .u 64 (if q K * m2 ≤ 18446744073709551616 * r K + u2 then q K else q (K + 1)))], uH x⟩) ?h0 (by simp) ?hs ?hn]
        · simp only [uH]
          simp only [EE,EX,Nat.reduceLeDiff,Nat.reduceEqDiff,Int.reduceEq,reduceCtorEq,Nat.reduceAdd,Nat.reduceMul,if_true,if_false,decide_true,decide_false, l9, List.take_succ_cons, List.take_nil]
        · rfl
        · intro i hi
          simp only [uH]
          obtain ⟨g1, g2, g3⟩ := hst i hi
          obtain ⟨s1, s2, s3⟩ := stp i g1 g2
          have d4 : decide (r (i + 1) < r i) = false := decide_eq_false s3
          obtain ⟨hh, ll, m1, m2'⟩ := mulp i
          have m3 : ¬ (hh < r i ∨ (hh = r i ∧ ll ≤ u2)) := fun h => absurd (m2'.2 h) (by omega)
          have d1 : decide (hh < r i) = false := decide_eq_false fun h => m3 (.inl h)
          by_cases c3 : hh = r i
          · have d2 : decide (hh = r i) = true := decide_eq_true c3
            have d3 : decide (ll ≤ u2) = false := decide_eq_false fun h => m3 (.inr ⟨c3, h⟩)
            simp only [EE,EX,Nat.reduceLeDiff,Nat.reduceEqDiff,Int.reduceEq,reduceCtorEq,Nat.reduceAdd,Nat.reduceMul,if_true,if_false,decide_true,decide_false, k1, w2.eq, w4.eq, w5.eq, i4, i5, p4, p5, m1, d1, d2, d3, s1, s2, d4]
          · have d2 : decide (hh = r i) = false := decide_eq_false c3
            simp only [EE,EX,Nat.reduceLeDiff,Nat.reduceEqDiff,Int.reduceEq,reduceCtorEq,Nat.reduceAdd,Nat.reduceMul,if_true,if_false,decide_true,decide_false, k1, w2.eq, w4.eq, w5.eq, i4, i5, p4, p5, m1, d1, d2, s1, s2, d4]
        · simp only [uH]
          rcases hend with ⟨g1, g2⟩ | ⟨g1, g2, g3, g4⟩
          · rw [if_pos g1]
            obtain ⟨hh, ll, m1, m2'⟩ := mulp K
            rcases m2'.1 g1 with h | ⟨h1, h2⟩
            · have d1 : decide (hh < r K) = true := decide_eq_true h
              simp only [EE,EX,Nat.reduceLeDiff,Nat.reduceEqDiff,Int.reduceEq,reduceCtorEq,Nat.reduceAdd,Nat.reduceMul,if_true,if_false,decide_true,decide_false, k1, w2.eq, w4.eq, w5.eq, i4, i5, p4, p5, m1, d1]
            · have d1 : decide (hh < r K) = false := decide_eq_false (by omega)
              have d2 : decide (hh = r K) = true := decide_eq_true h1
              have d3 : decide (ll ≤ u2) = true := decide_eq_true h2
              simp only [EE,EX,Nat.reduceLeDiff,Nat.reduceEqDiff,Int.reduceEq,reduceCtorEq,Nat.reduceAdd,Nat.reduceMul,if_true,if_false,decide_true,decide_false, k1, w2.eq, w4.eq, w5.eq, i4, i5, p4, p5, m1, d1, d2, d3]
          · rw [if_neg (by omega)]
            have s1 : (q K + 2 ^ 64 - 1) % 2 ^ 64 = q (K + 1) := by rw [hq] at g2; rw [hq, hq]; exact dec_lem64 g2 q0l
            have s2 : (r K + top) % 2 ^ 64 < r K := by
              have h := hrl K (Nat.le_refl _)
              rw [hr] at h g1
              rw [hr]
              exact sum_great g1 h htl
            have d4 : decide ((r K + top) % 2 ^ 64 < r K) = true := decide_eq_true s2
            obtain ⟨hh, ll, m1, m2'⟩ := mulp K
            have m3 : ¬ (hh < r K ∨ (hh = r K ∧ ll ≤ u2)) := fun h => absurd (m2'.2 h) (by omega)
            have d1 : decide (hh < r K) = false := decide_eq_false fun h => m3 (.inl h)
            by_cases c3 : hh = r K
            · have d2 : decide (hh = r K) = true := decide_eq_true c3
              have d3 : decide (ll ≤ u2) = false := decide_eq_false fun h => m3 (.inr ⟨c3, h⟩)
              simp only [EE,EX,Nat.reduceLeDiff,Nat.reduceEqDiff,Int.reduceEq,reduceCtorEq,Nat.reduceAdd,Nat.reduceMul,if_true,if_false,decide_true,decide_false, k1, w2.eq, w4.eq, w5.eq, i4, i5, p4, p5, m1, d1, d2, d3, s1, d4]
            · have d2 : decide (hh = r K) = false := decide_eq_false c3
              simp only [EE,EX,Nat.reduceLeDiff,Nat.reduceEqDiff,Int.reduceEq,reduceCtorEq,Nat.reduceAdd,Nat.reduceMul,if_true,if_false,decide_true,decide_false, k1, w2.eq, w4.eq, w5.eq, i4, i5, p4, p5, m1, d1, d2, s1, d4]

end Mir

namespace Mir

/-- Words used, of L. -/
def nwl (L W : Nat) : Nat := tl (dl 64 L W)

theorem dl_partL {L x i : Nat} (h : i < L) : part (us 64 (dl 64 L x)) i none = some (.u 64 (x / 2 ^ (64 * i) % 2 ^ 64)) := by
  simp only [part]; exact us_get (dl_get h)

theorem r_length (L W : Nat) (hL : L ≤ 100) : Run T f_divide_length [.vs L (us 64 (dl 64 L W))] [] = some (.i (nwl L W : Int), []) := by
  rw [Run_at T _ (show T f_divide_length = some m_divide_length from rfl)]
  simp only [c_divide_length]
  have hle : nwl L W ≤ L := by have := tl_le (dl 64 L W); rw [dl_len] at this; exact this
  have hlt : decide (L < 9223372036854775808) = true := decide_eq_true (by omega)
  simp only [EE,EX,Nat.reduceLeDiff,Nat.reduceEqDiff,Int.reduceEq,reduceCtorEq,Nat.reduceAdd,Nat.reduceMul,if_true,if_false,decide_true,decide_false, hlt]
  rw [loop_use T (fun i => ⟨[(0, .vs L (us 64 (dl 64 L W))), (3, .i ((L - i : Nat) : Int))], []⟩) (L - nwl L W) (.exit 0, ⟨[(3, .i (nwl L W : Int))], []⟩) ?h0 (by simp) ?hs ?hn]
  · simp only [EE,EX,Nat.reduceLeDiff,Nat.reduceEqDiff,Int.reduceEq,reduceCtorEq,Nat.reduceAdd,Nat.reduceMul,if_true,if_false,decide_true,decide_false]
  · rfl
  · intro i hi
    have g1 : ((0:Int) < ((L - i : Nat) : Int)) = True := by simp; omega
    have g2 : w64 (((L - i : Nat) : Int) - 1) = ((L - (i + 1) : Nat) : Int) := by unfold w64; omega
    have g3 := ixOf_nat (show L - (i + 1) < L by omega)
    have g4 : part (us 64 (dl 64 L W)) (L - (i + 1)) none = some (.u 64 0) := by
      have := tl_zero (dl 64 L W) (L - (i + 1)) (by have : tl (dl 64 L W) = nwl L W := rfl; omega)
      rw [dl_getD (by omega)] at this
      rw [dl_partL (by omega), this]
    simp only [EE,EX,Nat.reduceLeDiff,Nat.reduceEqDiff,Int.reduceEq,reduceCtorEq,Nat.reduceAdd,Nat.reduceMul,if_true,if_false,decide_true,decide_false, g1, g2, g3, g4]
  · have e : L - (L - nwl L W) = nwl L W := by omega
    rw [e]
    rcases Nat.eq_zero_or_pos (nwl L W) with h0 | h0
    · have g1 : ((0:Int) < ((nwl L W : Nat) : Int)) = False := by simp; omega
      simp only [EE,EX,Nat.reduceLeDiff,Nat.reduceEqDiff,Int.reduceEq,reduceCtorEq,Nat.reduceAdd,Nat.reduceMul,if_true,if_false,decide_true,decide_false, g1]
    · have g1 : ((0:Int) < ((nwl L W : Nat) : Int)) = True := by simp; omega
      have g2 : w64 (((nwl L W : Nat) : Int) - 1) = ((nwl L W - 1 : Nat) : Int) := by unfold w64; omega
      have g3 := ixOf_nat (show nwl L W - 1 < L by omega)
      have g5 := tl_pos (dl 64 L W) h0
      rw [show tl (dl 64 L W) = nwl L W from rfl, dl_getD (by omega)] at g5
      have g4 := dl_partL (x := W) (show nwl L W - 1 < L by omega)
      generalize W / 2 ^ (64 * (nwl L W - 1)) % 2 ^ 64 = y at *
      simp only [EE,EX,Nat.reduceLeDiff,Nat.reduceEqDiff,Int.reduceEq,reduceCtorEq,Nat.reduceAdd,Nat.reduceMul,if_true,if_false,decide_true,decide_false, g1, g2, g3, g4, g5]

/-- A divisor's eleven cells. -/
def dvf (f : Nat → Nat) (n s : Int) : List V := us 64 (tb 9 f) ++ [.i n, .i s]

theorem tb9 (f : Nat → Nat) : tb 9 f = [f 0, f 1, f 2, f 3, f 4, f 5, f 6, f 7, f 8] := rfl
theorem dvf_len (f : Nat → Nat) (n s : Int) : (dvf f n s).length = 11 := by simp [dvf, us, tb9]
theorem dvf_n (f : Nat → Nat) (n s : Int) : part (dvf f n s) 9 none = some (.i n) := by simp [dvf, us, tb9, part]
theorem dvf_s (f : Nat → Nat) (n s : Int) : part (dvf f n s) 10 none = some (.i s) := by simp [dvf, us, tb9, part]
theorem dvf_w (f : Nat → Nat) (n s : Int) (i : Nat) (h : i < 9) : part (dvf f n s) i none = some (.u 64 (f i)) := by
  simp only [part, dvf]
  rw [List.getElem?_append_left (by rw [us_len, tb_len]; exact h)]
  exact us_get (tb_get h)
theorem dvf_set (f : Nat → Nat) (n s : Int) (i y : Nat) (h : i < 9) : (dvf f n s).set i (.u 64 y) = dvf (fun j => if j = i then y else f j) n s := by
  simp only [dvf]
  rw [List.set_append_left _ _ (by rw [us_len, tb_len]; exact h), us_set, tb_set]
theorem dvf_set9 (f : Nat → Nat) (n m s : Int) : (dvf f n s).set 9 (.i m) = dvf f m s := by simp [dvf, us, tb9]
theorem dvf_set10 (f : Nat → Nat) (n m s : Int) : (dvf f n s).set 10 (.i m) = dvf f n m := by simp [dvf, us, tb9]
theorem dvf_make (x : Nat) : splice [.u 64 0, .u 64 0, .u 64 0, .u 64 0, .u 64 0, .u 64 0, .u 64 0, .u 64 0, .u 64 0, .i 0, .i 0] 0 (us 64 (dl 64 9 x)) = dvf (fun j => x / 2 ^ (64 * j) % 2 ^ 64) 0 0 := by
  simp [splice, dvf, dl, us, tb9]
theorem dvf_dvl (D n s : Nat) : dvf (fun j => D / 2 ^ (64 * j) % 2 ^ 64) n s = dvl D n s := rfl
theorem dvf_mapO (nk : Bool) (h : Heap) (b m : Nat) (f : Nat → Nat) (n s : Int) : mapO (fzV nk h b (m + 1)) (dvf f n s) = some (dvf f n s) := by
  simp [dvf, us, tb9, mapO, fzV]
theorem dvf_fz (nk : Bool) (m : Nat) (f : Nat → Nat) (n s : Int) : fzV nk [some (dvf f n s)] 0 (m + 1 + 1) (.hp 0 0) = some (.vr (dvf f n s) 0) := by
  simp only [fzV, Nat.lt_irrefl, if_false, G8, dvf_mapO]
  rfl

theorem of_nums {x : Nat} (hx : x < M) (h0 : x ≠ 0) : 0 < nw x ∧ x / 2 ^ (64 * (nw x - 1)) < 2 ^ 64 ∧ bl (x / 2 ^ (64 * (nw x - 1))) ≤ 64 ∧ 1 ≤ bl (x / 2 ^ (64 * (nw x - 1))) ∧ bl x = bl (x / 2 ^ (64 * (nw x - 1))) + 64 * (nw x - 1) := by
  have h1 : 0 < nw x := by
    rcases Nat.eq_zero_or_pos (nw x) with h | h
    · exact absurd (nw_zero hx h) h0
    · exact h
  obtain ⟨h2, h3⟩ := nw_pos hx h1
  have h4 : x / 2 ^ (64 * (nw x - 1)) < 2 ^ 64 := by rw [← h2]; exact Nat.mod_lt _ (Nat.two_pow_pos 64)
  exact ⟨h1, h4, bl_lt64 h4, bl_pos h3, bl_div h3⟩

theorem r_of {x n s : Nat} (hx : x < M) (h0 : x ≠ 0) (hn : n = nw x) (hs : s = 64 * n - bl x) :
    Run T f_divide_of [.vr (us 64 (dl 64 9 x)) 0] [] = some (dv (x * 2 ^ s) n s, []) := by
  rw [Run_at T _ (show T f_divide_of = some m_divide_of from rfl)]
  simp only [c_divide_of]
  obtain ⟨g1, g2, g3, g4, g5⟩ := of_nums hx h0
  rw [← hn] at g1 g2 g3 g4 g5
  have hn9 : n ≤ 9 := by rw [hn]; exact nw_le x
  obtain ⟨n1, hn1⟩ : ∃ z, z = n - 1 := ⟨_, rfl⟩
  rw [← hn1] at g2 g3 g4 g5
  have hs' : s = 64 - bl (x / 2 ^ (64 * n1)) := by omega
  obtain ⟨w, hw⟩ : ∃ f : Nat → Nat, f = fun j => x / 2 ^ (64 * j) % 2 ^ 64 := ⟨_, rfl⟩
  obtain ⟨e, he⟩ : ∃ f : Nat → Nat, f = fun j => x * 2 ^ s / 2 ^ (64 * j) % 2 ^ 64 := ⟨_, rfl⟩
  have k1 := r_length 9 x (by omega)
  rw [show nwl 9 x = n from hn.symm] at k1
  have k2 := dvf_make x
  rw [← hw] at k2
  have hwt : w n1 = x / 2 ^ (64 * n1) := by rw [hw]; exact Nat.mod_eq_of_lt g2
  have k3 := r_LZ (x := w n1) (by rw [hwt]; exact g2)
  rw [hwt, ← hs'] at k3
  have k4 : F (w64 ((n : Int) - 1)) (n1 : Int) := ⟨by unfold w64; omega⟩
  have i1 := ixOf_nat (show n1 < 9 by omega)
  have p1 := dvf_w w n 0 n1 (by omega)
  rw [hwt] at p1
  have hsl : s < 64 := by omega
  have hnh : x * 2 ^ s < 2 ^ (64 * n) := by
    have h1 := bl_lt x
    have h2 : x * 2 ^ s < 2 ^ bl x * 2 ^ s := Nat.mul_lt_mul_of_pos_right h1 (Nat.two_pow_pos s)
    rw [← Nat.pow_add, show bl x + s = 64 * n by omega] at h2
    exact h2
  have hxn : x < 2 ^ (64 * n) := by rw [hn]; exact nw_lt hx
  have hlow : ∀ j, n ≤ j → w j = e j := fun j hj => by rw [hw, he]; simp only; rw [word_zero hxn hj, word_zero hnh hj]
  have hfirst : e 0 = w 0 * 2 ^ s % 2 ^ 64 := by
    rw [hw, he]; exact shl_first (x := x) (k := s) (q := 0) (r := s) (by omega)
  have hnext : ∀ i, (w (i + 1) * 2 ^ s % 2 ^ 64 ||| w i / 2 ^ (64 - s)) = e (i + 1) := fun i => by
    rw [hw, he]; exact shl_next (x := x) (k := s) (q := 0) (r := s) (by omega) (by omega) i
  have hnone : s = 0 → ∀ i, w i * 2 ^ s % 2 ^ 64 = e i := fun h i => by
    rw [hw, he, h]; simp only [Nat.pow_zero, Nat.mul_one, Nat.mod_mod]
  have hend : dvf e n s = dvl (x * 2 ^ s) n s := by rw [he]; exact dvf_dvl _ _ _
  simp only [dv, ← hend]
  have hwl : ∀ i, w i < 2 ^ 64 := fun i => by rw [hw]; exact Nat.mod_lt _ (Nat.two_pow_pos 64)
  have k5 : okc 9 (us 64 (dl 64 9 x)) 0 [V.u 64 0, .u 64 0, .u 64 0, .u 64 0, .u 64 0, .u 64 0, .u 64 0, .u 64 0, .u 64 0, .i 0, .i 0].length = true := by rw [Ku, dl_len]; rfl
  have k6 : ∀ (f : Nat → Nat) (n s : Int) (v : V) (o : Nat), okc 1 [v] o (dvf f n s).length = (cellV v && decide (o + 1 ≤ 11)) := fun f n s v o => by rw [dvf_len, Kt]
  have k0 : List.take 9 (dl 64 9 x) = dl 64 9 x := List.take_of_length_le (by rw [dl_len]; omega)
  have l9 : ∀ f n s, ([some (dvf f n s)] : Heap).all (lowR 1) = true := fun f n s => by simp [lowR, dvf, us, tb9, lowV]
  have hms : min s 64 = s := Nat.min_eq_left (by omega)
  have hmt : min (64 - s) 64 = 64 - s := Nat.min_eq_left (by omega)
  simp only [EE,EX,Nat.reduceLeDiff,Nat.reduceEqDiff,Int.reduceEq,reduceCtorEq,Nat.reduceAdd,Nat.reduceMul,if_true,if_false,decide_true,decide_false, k0, k1, k2, k3, k4.eq, k5, k6, i1, p1, dvf_set9, dvf_set10, dvf_n, dvf_s]
  rw [loop_use T (fun k => ⟨[(3, .hp 0 0), (4, .i ((n : Int) - 1 - (k : Int)))], [some (dvf (fun j => if n - k ≤ j then e j else w j) n s)]⟩) n (.exit 0, ⟨[(3, .hp 0 0)], [some (dvf e n s)]⟩) ?h0 (by simp) ?hs ?hn]
  · simp only [EE,EX,Nat.reduceLeDiff,Nat.reduceEqDiff,Int.reduceEq,reduceCtorEq,Nat.reduceAdd,Nat.reduceMul,if_true,if_false,decide_true,decide_false, dvf_fz]
  · have e1 : (n : Int) - 1 - ((0 : Nat) : Int) = (n1 : Int) := by omega
    have e2 : (fun j => if n - 0 ≤ j then e j else w j) = w := funext fun j => by
      by_cases h : n - 0 ≤ j
      · rw [if_pos h]; exact (hlow j (by omega)).symm
      · rw [if_neg h]
    rw [e1, e2]
  · intro k hk
    obtain ⟨i, hi⟩ : ∃ i, i = n1 - k := ⟨_, rfl⟩
    have e1 : (n : Int) - 1 - (k : Int) = (i : Int) := by omega
    have e2 : (n : Int) - 1 - ((k + 1 : Nat) : Int) = (i : Int) - 1 := by omega
    have hnk : n - k = i + 1 := by omega
    have hnk2 : n - (k + 1) = i := by omega
    rw [e1, e2, hnk, hnk2]
    have c1 : decide ((0 : Int) ≤ (i : Int)) = true := decide_eq_true (by omega)
    have c2 : F (w64 ((i : Int) - 1)) ((i : Int) - 1) := ⟨by unfold w64; omega⟩
    have i2 := ixOf_nat (show i < 9 by omega)
    have p2 := dvf_w (fun j => if i + 1 ≤ j then e j else w j) n s i (by omega)
    rw [if_neg (by omega)] at p2
    have s2 : ∀ y, (dvf (fun j => if i + 1 ≤ j then e j else w j) n s).set i (.u 64 y) = dvf (fun j => if j = i then y else if i + 1 ≤ j then e j else w j) n s := fun y => dvf_set _ _ _ i y (by omega)
    have fin : (fun j => if j = i then e i else if i + 1 ≤ j then e j else w j) = (fun j => if i ≤ j then e j else w j) := funext fun j => by
      by_cases h : j = i
      · rw [if_pos h, if_pos (by omega), h]
      · rw [if_neg h]
        by_cases h2 : i + 1 ≤ j
        · rw [if_pos h2, if_pos (by omega)]
        · rw [if_neg h2, if_neg (by omega)]
    have i5 : decide (i ≤ 10) = true := decide_eq_true (by omega)
    by_cases h0i : i = 0
    · have c3 : decide ((0 : Int) < (i : Int)) = false := decide_eq_false (by omega)
      have y1 : w i * 2 ^ s % 2 ^ 64 = e i := by rw [h0i]; exact hfirst.symm
      simp only [EE,EX,Nat.reduceLeDiff,Nat.reduceEqDiff,Int.reduceEq,reduceCtorEq,Nat.reduceAdd,Nat.reduceMul,if_true,if_false,decide_true,decide_false, c1, c2.eq, c3, i2, i5, p2, s2, k6, dvf_n, dvf_s, hms, y1, fin]
    · have c3 : decide ((0 : Int) < (i : Int)) = true := decide_eq_true (by omega)
      by_cases hs0 : s = 0
      · have c4 : decide ((0 : Int) < (s : Int)) = false := decide_eq_false (by omega)
        have y1 := hnone hs0 i
        simp only [EE,EX,Nat.reduceLeDiff,Nat.reduceEqDiff,Int.reduceEq,reduceCtorEq,Nat.reduceAdd,Nat.reduceMul,if_true,if_false,decide_true,decide_false, c1, c2.eq, c3, c4, i2, i5, p2, s2, k6, dvf_n, dvf_s, hms, y1, fin]
      · have c4 : decide ((0 : Int) < (s : Int)) = true := decide_eq_true (by omega)
        obtain ⟨i0, hi0⟩ : ∃ z, z = i - 1 := ⟨_, rfl⟩
        have y2 := hnext i0
        rw [show i0 + 1 = i by omega] at y2
        obtain ⟨y, hy⟩ : ∃ y, w i * 2 ^ s % 2 ^ 64 = y := ⟨_, rfl⟩
        rw [hy] at y2
        have c5 : F (w64 ((i : Int) - 1)) (i0 : Int) := ⟨by unfold w64; omega⟩
        have c6 : F (w64 (64 - (s : Int))) ((64 - s : Nat) : Int) := ⟨by unfold w64; omega⟩
        have c7 : (i : Int) - 1 = (i0 : Int) := by omega
        have i3 := ixOf_nat (show i0 < 9 by omega)
        have p3 := dvf_w (fun j => if j = i then y else if i + 1 ≤ j then e j else w j) n s i (by omega)
        rw [if_pos rfl] at p3
        have p4 := dvf_w (fun j => if j = i then y else if i + 1 ≤ j then e j else w j) n s i0 (by omega)
        rw [if_neg (by omega), if_neg (by omega)] at p4
        have s3 : ∀ z, (dvf (fun j => if j = i then y else if i + 1 ≤ j then e j else w j) n s).set i (.u 64 z) = dvf (fun j => if j = i then z else if i + 1 ≤ j then e j else w j) n s := fun z => by
          rw [dvf_set _ _ _ i z (by omega)]
          congr 1
          funext j
          by_cases h : j = i
          · rw [if_pos h, if_pos h]
          · rw [if_neg h, if_neg h, if_neg h]
        rw [c7]
        simp only [EE,EX,Nat.reduceLeDiff,Nat.reduceEqDiff,Int.reduceEq,reduceCtorEq,Nat.reduceAdd,Nat.reduceMul,if_true,if_false,decide_true,decide_false, c1, c3, c4, c5.eq, c6.eq, i2, i3, i5, p2, p3, p4, s2, s3, k6, dvf_n, dvf_s, hms, hmt, hy, y2, fin]
  · have e1 : (n : Int) - 1 - (n : Int) = -1 := by omega
    have e2 : (fun j => if n - n ≤ j then e j else w j) = e := funext fun j => if_pos (by omega)
    have c1 : decide ((0 : Int) ≤ -1) = false := by decide
    rw [e1, e2]
    simp only [EE,EX,Nat.reduceLeDiff,Nat.reduceEqDiff,Int.reduceEq,reduceCtorEq,Nat.reduceAdd,Nat.reduceMul,if_true,if_false,decide_true,decide_false, c1]

end Mir

namespace Mir

/-- What is left when the words from a on are divided; the window that is divided next. -/
def stN (N D a : Nat) : Nat := N % 2 ^ (64 * a) + 2 ^ (64 * a) * (N / 2 ^ (64 * a) % D)
def wvN (N D a : Nat) : Nat := N / 2 ^ (64 * (a + 1)) % D * 18446744073709551616 + N / 2 ^ (64 * a) % 2 ^ 64

theorem stN_win (N D a : Nat) : stN N D (a + 1) = N % 2 ^ (64 * a) + 2 ^ (64 * a) * wvN N D a := by
  have e : 2 ^ (64 * (a + 1)) = 2 ^ (64 * a) * 18446744073709551616 := by rw [Nat.mul_add, Nat.pow_add]
  have h : N % 2 ^ (64 * (a + 1)) = N % 2 ^ (64 * a) + 2 ^ (64 * a) * (N / 2 ^ (64 * a) % 2 ^ 64) := by rw [e, Nat.mod_mul]
  rw [stN, wvN, h]
  obtain ⟨r, hr⟩ : ∃ r, r = N / 2 ^ (64 * (a + 1)) % D := ⟨_, rfl⟩
  rw [← hr, e]
  obtain ⟨A, hA⟩ : ∃ A, A = 2 ^ (64 * a) := ⟨_, rfl⟩
  obtain ⟨u, hu⟩ : ∃ u, u = N / 2 ^ (64 * a) % 2 ^ 64 := ⟨_, rfl⟩
  rw [← hu, ← hA, Nat.mul_add, Nat.mul_assoc, Nat.mul_comm 18446744073709551616 r]
  omega
theorem wv_parts (N D a : Nat) : N / 2 ^ (64 * a) = wvN N D a + D * (N / 2 ^ (64 * (a + 1)) / D * 18446744073709551616) := by
  have h1 := two_parts N a
  have h2 := Nat.div_add_mod (N / 2 ^ (64 * (a + 1))) D
  obtain ⟨n1, hn⟩ : ∃ z, z = N / 2 ^ (64 * (a + 1)) := ⟨_, rfl⟩
  rw [← hn] at h1 h2
  rw [wvN, ← hn, ← Nat.mul_assoc]
  obtain ⟨u, hu⟩ : ∃ u, u = N / 2 ^ (64 * a) % 2 ^ 64 := ⟨_, rfl⟩
  obtain ⟨z, hz⟩ : ∃ z, z = N / 2 ^ (64 * a) := ⟨_, rfl⟩
  rw [← hz] at h1 hu ⊢
  rw [← hu] at h1 ⊢
  obtain ⟨B, hB⟩ : ∃ B, B = 18446744073709551616 := ⟨_, rfl⟩
  rw [← hB] at h1 ⊢
  have h3 : n1 * B = (D * (n1 / D) + n1 % D) * B := by rw [h2]
  rw [Nat.add_mul] at h3
  omega
theorem wv_mod {N D a : Nat} : wvN N D a % D = N / 2 ^ (64 * a) % D := by
  rw [wv_parts N D a, Nat.add_mul_mod_self_left]
theorem wv_lt {N D a : Nat} (hD : 0 < D) : wvN N D a < D * 2 ^ 64 := by
  have h1 := Nat.mod_lt (N / 2 ^ (64 * (a + 1))) hD
  have h2 : N / 2 ^ (64 * a) % 2 ^ 64 < 2 ^ 64 := Nat.mod_lt _ (Nat.two_pow_pos 64)
  rw [wvN]
  omega
theorem wv_div {N D a : Nat} (hD : 0 < D) : wvN N D a / D = N / D / 2 ^ (64 * a) % 2 ^ 64 := by
  have h1 : wvN N D a / D < 2 ^ 64 := by rw [Nat.div_lt_iff_lt_mul hD, Nat.mul_comm]; exact wv_lt hD
  rw [Nat.div_div_eq_div_mul, Nat.mul_comm D, ← Nat.div_div_eq_div_mul, wv_parts N D a, Nat.add_mul_div_left _ _ hD]
  obtain ⟨u, hu⟩ : ∃ u, u = wvN N D a / D := ⟨_, rfl⟩
  obtain ⟨v, hv⟩ : ∃ v, v = N / 2 ^ (64 * (a + 1)) / D := ⟨_, rfl⟩
  rw [← hu] at h1 ⊢
  rw [← hv]
  omega
theorem stN_next {N D a : Nat} : stN N D a = N % 2 ^ (64 * a) + 2 ^ (64 * a) * (wvN N D a % D) := by rw [stN, wv_mod]
theorem stN_zero (N D : Nat) : stN N D 0 = N % D := by simp [stN, Nat.mod_one]
theorem stN_top {N D a : Nat} (h : N / 2 ^ (64 * a) < D) : stN N D a = N := by
  rw [stN, Nat.mod_eq_of_lt h, Nat.add_comm]; exact Nat.div_add_mod N _
/-- The top of a number of L words, shifted, is below a divisor of n words. -/
theorem top_small {W s L n D a : Nat} (hW : W < 2 ^ (64 * L)) (hs : s < 64) (hn : 1 ≤ n) (hD2 : 2 ^ 63 ≤ D / 2 ^ (64 * (n - 1))) (ha : L ≤ n - 1 + a) : W * 2 ^ s / 2 ^ (64 * a) < D := by
  have h1 : 2 ^ 63 * 2 ^ (64 * (n - 1)) ≤ D := (Nat.le_div_iff_mul_le (Nat.two_pow_pos _)).1 hD2
  refine Nat.lt_of_lt_of_le ?_ h1
  rw [Nat.div_lt_iff_lt_mul (Nat.two_pow_pos _), ← Nat.pow_add, ← Nat.pow_add]
  refine Nat.lt_of_lt_of_le (Nat.mul_lt_mul_of_pos_right hW (Nat.two_pow_pos s)) ?_
  rw [← Nat.pow_add]
  exact Nat.pow_le_pow_right (by omega) (by omega)

/-- What is given back, step by step. -/
theorem back_step {Wv D x t P i c : Nat} (ht : t = Wv / D) (hD : 0 < D) (hc : c = x - t) (hx : t ≤ x) (hP : x * D ≤ P) (hi : i < c) :
    decide (P ≤ (P + Wv - (x - i) * D) + D) = !decide (i + 1 < c) ∧ ((P + Wv - (x - i) * D) + D) % P = (if i + 1 < c then P + Wv - (x - (i + 1)) * D else Wv % D) ∧ P + Wv - (x - i) * D < P := by
  have h1 : (x - i) * D = (x - (i + 1)) * D + D := by
    have : x - i = x - (i + 1) + 1 := by omega
    rw [this, Nat.add_mul, Nat.one_mul]
  have h2 : (x - i) * D ≤ x * D := Nat.mul_le_mul_right _ (by omega)
  have h3 : Wv < (t + 1) * D := by rw [ht, Nat.mul_comm]; exact Nat.lt_mul_div_succ Wv hD
  have h4 : (t + 1) * D ≤ (x - i) * D := Nat.mul_le_mul_right _ (by omega)
  obtain ⟨y, hy⟩ : ∃ y, y = (x - (i + 1)) * D := ⟨_, rfl⟩
  rw [← hy] at h1
  rw [← hy]
  by_cases h : i + 1 < c
  · have h5 : (t + 1) * D ≤ y := by rw [hy]; exact Nat.mul_le_mul_right _ (by omega)
    rw [decide_eq_true h, if_pos h, decide_eq_false (by omega)]
    refine ⟨rfl, ?_, by omega⟩
    rw [Nat.mod_eq_of_lt (by omega)]
    omega
  · have h5 : y = t * D := by rw [hy]; congr 1; omega
    have h6 : t * D ≤ Wv := by rw [ht]; exact Nat.div_mul_le_self _ _
    rw [decide_eq_false h, if_neg h, decide_eq_true (by omega)]
    refine ⟨rfl, ?_, by omega⟩
    have h7 : P + Wv - (x - i) * D + D = P + (Wv - t * D) := by omega
    have h8 : Wv - t * D = Wv % D := by
      have := Nat.div_add_mod Wv D
      rw [← ht, Nat.mul_comm] at this
      omega
    rw [h7, h8, Nat.add_mod_left, Nat.mod_eq_of_lt]
    have := Nat.mod_lt Wv hD
    omega
theorem take_first {Wv D x t P c : Nat} (ht : t = Wv / D) (hD : 0 < D) (hc : c = x - t) (hx : t ≤ x) (hP : x * D ≤ P) (hW : Wv < P) :
    decide (Wv < x * D) = decide (0 < c) ∧ (Wv + P - x * D) % P = (if 0 < c then P + Wv - (x - 0) * D else Wv % D) := by
  have h3 : Wv < (t + 1) * D := by rw [ht, Nat.mul_comm]; exact Nat.lt_mul_div_succ Wv hD
  have h6 : t * D ≤ Wv := by rw [ht]; exact Nat.div_mul_le_self _ _
  by_cases h : 0 < c
  · have h5 : (t + 1) * D ≤ x * D := Nat.mul_le_mul_right _ (by omega)
    rw [decide_eq_true h, if_pos h, decide_eq_true (by omega), Nat.sub_zero]
    exact ⟨rfl, by rw [Nat.mod_eq_of_lt (by omega)]; omega⟩
  · have h5 : x = t := by omega
    have h8 : Wv - t * D = Wv % D := by
      have := Nat.div_add_mod Wv D
      rw [← ht, Nat.mul_comm] at this
      omega
    rw [decide_eq_false h, if_neg h, h5, decide_eq_false (by omega)]
    refine ⟨rfl, ?_⟩
    rw [show Wv + P - t * D = P + (Wv - t * D) by omega, h8, Nat.add_mod_left, Nat.mod_eq_of_lt]
    have := Nat.mod_le Wv D
    omega

end Mir

namespace Mir

theorem zero19 : [V.u 64 0, .u 64 0, .u 64 0, .u 64 0, .u 64 0, .u 64 0, .u 64 0, .u 64 0, .u 64 0, .u 64 0, .u 64 0, .u 64 0, .u 64 0, .u 64 0, .u 64 0, .u 64 0, .u 64 0, .u 64 0, .u 64 0] = us 64 (tb 19 (fun _ => 0)) := rfl
theorem zero18t : us 64 (dl 64 18 0) = us 64 (tb 18 (fun _ => 0)) := by simp [dl]
theorem zero9t : us 64 (dl 64 9 0) = us 64 (tb 9 (fun _ => 0)) := by simp [dl]

theorem sla19 (X : Nat) : slaO false [some (us 64 (dl 64 19 X))] 19 1 (some (0, 19)) (.hp 0 0) = some (.hs 1 0 0 19 19) := by
  simp [slaO, slaV, row, us_len, dl_len]

theorem r_divide {m n s L W : Nat} (hn1 : 1 ≤ n) (hn : n ≤ 9) (hs : s < 64) (hm : 0 < m) (hD : m * 2 ^ s < 2 ^ (64 * n)) (hD2 : 2 ^ 63 ≤ m * 2 ^ s / 2 ^ (64 * (n - 1))) (hL : L ≤ 18) (hW : W < 2 ^ (64 * L)) :
    Run T f_divide_divisor_divide [dv (m * 2 ^ s) n s, .vs L (us 64 (dl 64 L W))] [] = some (.tup [.agg (us 64 (dl 64 18 (W / m))), natv (W % m)], []) := by
  rw [Run_at T _ (show T f_divide_divisor_divide = some m_divide_divisor_divide from rfl)]
  simp only [c_divide_divisor_divide, zero19]
  simp only [zero18]
  obtain ⟨D, hDe⟩ : ∃ D, D = m * 2 ^ s := ⟨_, rfl⟩
  obtain ⟨N, hN⟩ : ∃ N, N = W * 2 ^ s := ⟨_, rfl⟩
  have hDp : 0 < D := by rw [hDe]; exact Nat.mul_pos hm (Nat.two_pow_pos s)
  have hQ : N / D = W / m := by rw [hN, hDe, Nat.mul_div_mul_right _ _ (Nat.two_pow_pos s)]
  have hR : N % D / 2 ^ s = W % m := by rw [hN, hDe, Nat.mul_mod_mul_right, Nat.mul_div_cancel _ (Nat.two_pow_pos s)]
  rw [← hDe] at hD hD2
  rw [← hDe, ← hQ, ← hR]
  have k1 := dv_n D n s
  have k2 := dv_s D n s
  obtain ⟨cnt, hcnt⟩ : ∃ c, c = L + 1 - n := ⟨_, rfl⟩
  have hcl : cnt + n ≤ 19 ∨ cnt = 0 := by omega
  have htop : N / 2 ^ (64 * cnt) < D := by rw [hN]; exact top_small hW hs hn1 hD2 (by omega)
  obtain ⟨w, hw⟩ : ∃ f : Nat → Nat, ∀ j, f j = W / 2 ^ (64 * j) % 2 ^ 64 := ⟨_, fun _ => rfl⟩
  obtain ⟨e, he⟩ : ∃ f : Nat → Nat, ∀ j, f j = N / 2 ^ (64 * j) % 2 ^ 64 := ⟨_, fun _ => rfl⟩
  obtain ⟨c, hc⟩ : ∃ f : Nat → Nat, ∀ j, f j = if j = 0 then 0 else w (j - 1) / 2 ^ (64 - s) := ⟨_, fun _ => rfl⟩
  have hor : ∀ i, (c i ||| w i * 2 ^ s % 2 ^ 64) = e i := fun i => by
    cases i with
    | zero =>
      rw [hc, if_pos rfl, Nat.zero_or, hw, he, hN]
      exact (shl_first (x := W) (k := s) (q := 0) (r := s) (by omega)).symm
    | succ i =>
      rw [hc, if_neg (by omega), Nat.or_comm, hw, hw, he, hN]
      exact shl_next (x := W) (k := s) (q := 0) (r := s) (by omega) (by omega) i
  have hc0 : s = 0 → ∀ i, c i = 0 := fun h i => by
    rw [hc]
    by_cases h0 : i = 0
    · rw [if_pos h0]
    · rw [if_neg h0, hw, h]; exact Nat.div_eq_of_lt (Nat.mod_lt _ (Nat.two_pow_pos 64))
  have hw0 : ∀ i, L ≤ i → w i = 0 := fun i hi => by rw [hw]; exact word_zero hW hi
  have hend : tb 19 (fun j => if j < L then e j else if j = L then c L else 0) = dl 64 19 N := tb_congr fun j hj => by
    by_cases h1 : j < L
    · rw [if_pos h1, he]
    · rw [if_neg h1, ← he, ← hor j, hw0 j (by omega), Nat.zero_mul, Nat.zero_mod, Nat.or_zero]
      by_cases h2 : j = L
      · rw [if_pos h2, h2]
      · rw [if_neg h2, hc, if_neg (by omega), hw0 _ (by omega), Nat.zero_div]
  have hms : min s 64 = s := Nat.min_eq_left (by omega)
  have hmt : min (64 - s) 64 = 64 - s := Nat.min_eq_left (by omega)
  have kL : decide (L < 9223372036854775808) = true := decide_eq_true (by omega)
  have kW : ∀ i, i < L → part (us 64 (dl 64 L W)) i none = some (.u 64 (w i)) := fun i hi => by rw [hw]; exact dl_partL hi
  obtain ⟨ws, hws⟩ : ∃ l, l = us 64 (dl 64 L W) := ⟨_, rfl⟩
  rw [← hws] at kW ⊢
  obtain ⟨dd, hdd⟩ : ∃ l, l = dvl D n s := ⟨_, rfl⟩
  simp only [dv, ← hdd] at k1 k2 ⊢
  have cS : F (w64 (64 - (s : Int))) ((64 - s : Nat) : Int) := ⟨by unfold w64; omega⟩
  simp only [EE,EX,Nat.reduceLeDiff,Nat.reduceEqDiff,Int.reduceEq,reduceCtorEq,Nat.reduceAdd,Nat.reduceMul,if_true,if_false,decide_true,decide_false, kL]
  rw [loop_use T (fun i => ⟨[(0, .vr dd 0), (1, .vs L ws), (4, .loc (us 64 (dl 64 18 0))), (5, .loc (us 64 (dl 64 9 0))), (6, .hp 0 0), (7, .loc (us 64 (dl 64 18 0))), (15, .vs L ws), (16, .i (L : Int)), (17, .i (i : Int))], uH (fun j => if j < i then e j else if j = i then c i else 0)⟩) L
    (.exit 0, ⟨[(0, .vr dd 0), (1, .vs L ws), (4, .loc (us 64 (dl 64 18 0))), (5, .loc (us 64 (dl 64 9 0))), (6, .hp 0 0), (7, .loc (us 64 (dl 64 18 0)))], uH (fun j => if j < L then e j else if j = L then c L else 0)⟩) ?h0a (by simp) ?hsa ?hna]
  rotate_left
  · have e1 : tb 19 (fun _ => 0) = tb 19 (fun j => if j < 0 then e j else if j = 0 then c 0 else 0) := tb_congr fun j hj => by
      rw [if_neg (by omega), hc]
      by_cases h : j = 0 <;> simp [h]
    rw [e1]; rfl
  · intro i hi
    have l1 : decide ((i : Int) < (L : Int)) = true := decide_eq_true (by omega)
    have l2 := ixOf_nat (show i < L by omega)
    have l3 := kW i hi
    have l4 := ixOf_nat (show i < 19 by omega)
    have l5 := part_tb (w := 64) (fun j => if j < i then e j else if j = i then c i else 0) i (show i < 19 by omega)
    rw [if_neg (by omega), if_pos rfl] at l5
    obtain ⟨i1, hi1⟩ : ∃ z, z = i + 1 := ⟨_, rfl⟩
    have l6 : F (w64 ((i : Int) + 1)) (i1 : Int) := ⟨by unfold w64; omega⟩
    have l7 := ixOf_nat (show i1 < 19 by omega)
    have l8 : (i + 1 ≤ 19) = True := by simp; omega
    have l9 : (i1 + 1 ≤ 19) = True := by simp; omega
    have l10 := hor i
    by_cases hs0 : s = 0
    · have c4 : decide ((0 : Int) < (s : Int)) = false := decide_eq_false (by omega)
      have fn1 : tb 19 (fun j => if j = i then e i else if j < i then e j else if j = i then c i else 0) = tb 19 (fun j => if j < i + 1 then e j else if j = i + 1 then c (i + 1) else 0) := tb_congr fun j hj => by
        by_cases h1 : j = i
        · rw [if_pos h1, if_pos (by omega), h1]
        · rw [if_neg h1, if_neg h1, hc0 hs0 (i + 1)]
          by_cases h2 : j < i
          · rw [if_pos h2, if_pos (by omega)]
          · rw [if_neg h2, if_neg (by omega)]; simp
      rw [← hi1] at fn1 ⊢
      simp only [uH]
      simp only [EE,EX,Nat.reduceLeDiff,Nat.reduceEqDiff,Int.reduceEq,reduceCtorEq,Nat.reduceAdd,Nat.reduceMul,if_true,if_false,decide_true,decide_false, k2, l1, l2, l3, l4, l5, l6.eq, l8, l10, c4, hms, fn1]
    · have c4 : decide ((0 : Int) < (s : Int)) = true := decide_eq_true (by omega)
      have hcn : w i / 2 ^ (64 - s) = c i1 := by rw [hi1, hc, if_neg (by omega)]; rfl
      have fn1 : tb 19 (fun j => if j = i + 1 then c (i + 1) else if j = i then e i else if j < i then e j else if j = i then c i else 0) = tb 19 (fun j => if j < i + 1 then e j else if j = i + 1 then c (i + 1) else 0) := tb_congr fun j hj => by
        by_cases h1 : j = i + 1
        · rw [if_pos h1, if_neg (by omega), if_pos h1]
        · rw [if_neg h1]
          by_cases h2 : j = i
          · rw [if_pos h2, if_pos (by omega), h2]
          · rw [if_neg h2, if_neg h2]
            by_cases h3 : j < i
            · rw [if_pos h3, if_pos (by omega)]
            · rw [if_neg h3, if_neg (by omega), if_neg h1]
      rw [← hi1] at fn1 ⊢
      simp only [uH]
      simp only [EE,EX,Nat.reduceLeDiff,Nat.reduceEqDiff,Int.reduceEq,reduceCtorEq,Nat.reduceAdd,Nat.reduceMul,if_true,if_false,decide_true,decide_false, k2, l1, l2, l3, l4, l5, l6.eq, l7, l8, l9, l10, c4, cS.eq, hms, hmt, hcn, fn1]
  · have l1 : decide ((L : Int) < (L : Int)) = false := by simp
    simp only [uH]
    simp only [EE,EX,Nat.reduceLeDiff,Nat.reduceEqDiff,Int.reduceEq,reduceCtorEq,Nat.reduceAdd,Nat.reduceMul,if_true,if_false,decide_true,decide_false, l1]
  simp only [uH, hend]
  clear hend hor hc0 hw0 kW hms hmt
  obtain ⟨qd, hqd⟩ : ∃ f : Nat → Nat, ∀ j, f j = N / D / 2 ^ (64 * j) % 2 ^ 64 := ⟨_, fun _ => rfl⟩
  have hqd0 : ∀ j, cnt ≤ j → qd j = 0 := fun j hj => by
    rw [hqd, Nat.div_div_eq_div_mul, Nat.mul_comm D, ← Nat.div_div_eq_div_mul, Nat.div_eq_of_lt, Nat.zero_mod]
    refine Nat.lt_of_le_of_lt ?_ htop
    exact Nat.div_le_div_left (Nat.pow_le_pow_right (by omega) (by omega)) (Nat.two_pow_pos _)
  have hz18 : us 64 (dl 64 18 0) = us 64 (tb 18 (fun j => if cnt - 0 ≤ j then qd j else 0)) := by
    rw [zero18t]
    congr 1
    exact tb_congr fun j hj => by
      by_cases h : cnt - 0 ≤ j
      · rw [if_pos h, hqd0 j h]
      · rw [if_neg h]
  have hst : dl 64 19 N = dl 64 19 (stN N D (cnt - 0)) := by rw [Nat.sub_zero, stN_top htop]
  have cA : F (w64 ((L : Int) - (n : Int))) ((L : Int) - (n : Int)) := ⟨by unfold w64; omega⟩
  simp only [EE,EX,Nat.reduceLeDiff,Nat.reduceEqDiff,Int.reduceEq,reduceCtorEq,Nat.reduceAdd,Nat.reduceMul,if_true,if_false,decide_true,decide_false, k1, kL, cA.eq]
  rw [loop_use T (fun k => ⟨[(0, .vr dd 0), (4, .loc (us 64 (dl 64 18 0))), (5, .loc (us 64 (dl 64 9 0))), (6, .hp 0 0), (7, .loc (us 64 (tb 18 (fun j => if cnt - k ≤ j then qd j else 0)))), (10, .i ((L : Int) - (n : Int) - (k : Int)))], [some (us 64 (dl 64 19 (stN N D (cnt - k))))]⟩) cnt
    (.exit 2, ⟨[(0, .vr dd 0), (4, .loc (us 64 (dl 64 18 0))), (5, .loc (us 64 (dl 64 9 0))), (6, .hp 0 0), (7, .loc (us 64 (dl 64 18 (N / D))))], [some (us 64 (dl 64 19 (N % D)))]⟩) ?h0b (by simp) ?hsb ?hnb]
  rotate_left
  · rw [hst]
    have e1 : (L : Int) - (n : Int) - ((0 : Nat) : Int) = (L : Int) - (n : Int) := by omega
    rw [e1, ← hz18]
  · intro k hk
    obtain ⟨a, ha⟩ : ∃ z, z = L - n - k := ⟨_, rfl⟩
    have e1 : (L : Int) - (n : Int) - (k : Int) = (a : Int) := by omega
    have e2 : (L : Int) - (n : Int) - ((k + 1 : Nat) : Int) = (a : Int) - 1 := by omega
    have e3 : cnt - k = a + 1 := by omega
    have e4 : cnt - (k + 1) = a := by omega
    rw [e1, e2, e3, e4, stN_win, stN_next]
    have hlo : N % 2 ^ (64 * a) < 2 ^ (64 * a) := Nat.mod_lt _ (Nat.two_pow_pos _)
    have hWD : wvN N D a < D * 2 ^ 64 := wv_lt hDp
    have hqa : qd a = wvN N D a / D := by rw [hqd, wv_div hDp]
    obtain ⟨lo, hlo'⟩ : ∃ z, z = N % 2 ^ (64 * a) := ⟨_, rfl⟩
    obtain ⟨Wv, hWv⟩ : ∃ z, z = wvN N D a := ⟨_, rfl⟩
    rw [← hlo'] at hlo ⊢
    rw [← hWv] at hWD hqa ⊢
    have hBP : D * 2 ^ 64 ≤ 2 ^ (64 * (n + 1)) := by
      rw [show 64 * (n + 1) = 64 * n + 64 by omega, Nat.pow_add]
      exact Nat.mul_le_mul_right _ (Nat.le_of_lt hD)
    obtain ⟨x, hx1, hx2, hx3⟩ := r_guess (s := s) hn1 hn hD hD2 hlo hWD (by omega)
    rw [← hqa] at hx2
    have hxP : x * D ≤ 2 ^ (64 * (n + 1)) := by
      refine Nat.le_trans ?_ hBP
      rw [Nat.mul_comm]; exact Nat.mul_le_mul_left _ (Nat.le_of_lt hx1)
    have hWP : Wv < 2 ^ (64 * (n + 1)) := Nat.lt_of_lt_of_le hWD hBP
    have tk := r_divTake (s := s) (Wv := Wv) (lo := lo) (a := a) (q := x) hn hD hlo hWP (by omega) hx1
    obtain ⟨cc, hcc⟩ : ∃ z, z = x - qd a := ⟨_, rfl⟩
    obtain ⟨t1, t2⟩ := take_first hqa hDp hcc hx2 hxP hWP
    rw [t1, t2] at tk
    obtain ⟨Wi, hWi⟩ : ∃ f : Nat → Nat, ∀ i, f i = if i < cc then 2 ^ (64 * (n + 1)) + Wv - (x - i) * D else Wv % D := ⟨_, fun _ => rfl⟩
    rw [← hWi 0] at tk
    have bk' : ∀ i, i < cc → Run T f_divide_divisor_back [.vr dd 0, .hs 1 0 0 19 19, .i (a : Int)] [some (us 64 (dl 64 19 (lo + 2 ^ (64 * a) * Wi i)))] =
        some (.b (!decide (i + 1 < cc)), [some (us 64 (dl 64 19 (lo + 2 ^ (64 * a) * Wi (i + 1))))]) := fun i hi => by
      obtain ⟨b1, b2, b3⟩ := back_step hqa hDp hcc hx2 hxP hi
      have h := r_divBack (s := s) (Wv := Wi i) (lo := lo) (a := a) hn hD hlo (by rw [hWi, if_pos hi]; exact b3) (by omega)
      rw [hWi i, if_pos hi, b1, b2, ← hWi (i + 1)] at h
      rw [hWi i, if_pos hi, hdd]
      exact h
    have hWe : Wi cc = Wv % D := by rw [hWi, if_neg (by omega)]
    simp only [dv, ← hdd] at hx3 tk
    have l1 : decide ((0 : Int) ≤ (a : Int)) = true := decide_eq_true (by omega)
    have l2 : F (w64 ((a : Int) - 1)) ((a : Int) - 1) := ⟨by unfold w64; omega⟩
    have l3 := ixOf_nat (show a < 18 by omega)
    have l4 : (a + 1 ≤ 18) = True := by simp; omega
    have fn1 : tb 18 (fun j => if j = a then qd a else if a + 1 ≤ j then qd j else 0) = tb 18 (fun j => if a ≤ j then qd j else 0) := tb_congr fun j hj => by
      by_cases h1 : j = a
      · rw [if_pos h1, if_pos (by omega), h1]
      · rw [if_neg h1]
        by_cases h2 : a + 1 ≤ j
        · rw [if_pos h2, if_pos (by omega)]
        · rw [if_neg h2, if_neg (by omega)]
    simp only [EE,EX,Nat.reduceLeDiff,Nat.reduceEqDiff,Int.reduceEq,reduceCtorEq,Nat.reduceAdd,Nat.reduceMul,if_true,if_false,decide_true,decide_false, l1, sla19, hx3, tk]
    rw [loop_use T (fun i => ⟨[(0, .vr dd 0), (4, .loc (us 64 (dl 64 18 0))), (5, .loc (us 64 (dl 64 9 0))), (6, .hp 0 0), (7, .loc (us 64 (tb 18 (fun j => if a + 1 ≤ j then qd j else 0)))), (10, .i (a : Int)), (11, .u 64 (x - i)), (12, .b (decide (i < cc)))], [some (us 64 (dl 64 19 (lo + 2 ^ (64 * a) * Wi i)))]⟩) cc
      (.exit 4, ⟨[(0, .vr dd 0), (4, .loc (us 64 (dl 64 18 0))), (5, .loc (us 64 (dl 64 9 0))), (6, .hp 0 0), (7, .loc (us 64 (tb 18 (fun j => if a + 1 ≤ j then qd j else 0)))), (10, .i (a : Int)), (11, .u 64 (qd a))], [some (us 64 (dl 64 19 (lo + 2 ^ (64 * a) * (Wv % D))))]⟩) ?h0c (by simp) ?hsc ?hnc]
    rotate_left
    · rfl
    · intro i hi
      have m1 : decide (i < cc) = true := decide_eq_true hi
      have m2 := bk' i hi
      have m3 : (x - i + 2 ^ 64 - 1) % 2 ^ 64 = x - (i + 1) := dec_lem64 (by omega) hx1
      rw [m1]
      simp only [EE,EX,Nat.reduceLeDiff,Nat.reduceEqDiff,Int.reduceEq,reduceCtorEq,Nat.reduceAdd,Nat.reduceMul,if_true,if_false,decide_true,decide_false, sla19, m2, m3, Bool.not_not]
    · have m1 : decide (cc < cc) = false := by simp
      have m2 : x - cc = qd a := by omega
      rw [m1, m2, hWe]
      simp only [EE,EX,Nat.reduceLeDiff,Nat.reduceEqDiff,Int.reduceEq,reduceCtorEq,Nat.reduceAdd,Nat.reduceMul,if_true,if_false,decide_true,decide_false]
    simp only [EE,EX,Nat.reduceLeDiff,Nat.reduceEqDiff,Int.reduceEq,reduceCtorEq,Nat.reduceAdd,Nat.reduceMul,if_true,if_false,decide_true,decide_false, l2.eq, l3, l4, fn1]
  · have e1 : (L : Int) - (n : Int) - (cnt : Int) < 0 := by omega
    have l1 : decide ((0 : Int) ≤ (L : Int) - (n : Int) - (cnt : Int)) = false := decide_eq_false (by omega)
    have e2 : tb 18 (fun j => if cnt - cnt ≤ j then qd j else 0) = dl 64 18 (N / D) := tb_congr fun j hj => by rw [if_pos (by omega), hqd]
    have e3 : stN N D (cnt - cnt) = N % D := by rw [Nat.sub_self, stN_zero]
    rw [e2, e3]
    simp only [EE,EX,Nat.reduceLeDiff,Nat.reduceEqDiff,Int.reduceEq,reduceCtorEq,Nat.reduceAdd,Nat.reduceMul,if_true,if_false,decide_true,decide_false, l1]
  have hRl : N % D < 2 ^ (64 * n) := Nat.lt_trans (Nat.mod_lt _ hDp) hD
  obtain ⟨R, hRe⟩ : ∃ R, R = N % D := ⟨_, rfl⟩
  rw [← hRe] at hRl ⊢
  clear htop hst hz18 hqd0 hqd hR hQ hRe
  obtain ⟨r, hr⟩ : ∃ f : Nat → Nat, ∀ j, f j = R / 2 ^ (64 * j) % 2 ^ 64 := ⟨_, fun _ => rfl⟩
  obtain ⟨v, hv⟩ : ∃ f : Nat → Nat, ∀ j, f j = R / 2 ^ s / 2 ^ (64 * j) % 2 ^ 64 := ⟨_, fun _ => rfl⟩
  have hor : ∀ i, (r i / 2 ^ s ||| r (i + 1) * 2 ^ (64 - s) % 2 ^ 64) = v i := fun i => by
    rw [hr, hr, hv, shr_split (x := R) (k := s) (q := 0) (r := s) (by omega) i]
    exact shr_word R 0 s i (by omega)
  have hs0' : s = 0 → ∀ i, r i / 2 ^ s = v i := fun h i => by rw [hr, hv, h, Nat.pow_zero, Nat.div_one, Nat.div_one]
  have hRow : dl 64 19 R = tb 19 r := tb_congr fun j hj => (hr j).symm
  have hend : tb 9 (fun j => if j < n then v j else 0) = dl 64 9 (R / 2 ^ s) := tb_congr fun j hj => by
    by_cases h : j < n
    · rw [if_pos h, hv]
    · rw [if_neg h, word_zero (Nat.lt_of_le_of_lt (Nat.div_le_self _ _) hRl) (by omega)]
  have hms : min s 64 = s := Nat.min_eq_left (by omega)
  have hmt : min (64 - s) 64 = 64 - s := Nat.min_eq_left (by omega)
  rw [hRow]
  simp only [EE,EX,Nat.reduceLeDiff,Nat.reduceEqDiff,Int.reduceEq,reduceCtorEq,Nat.reduceAdd,Nat.reduceMul,if_true,if_false,decide_true,decide_false, k1]
  rw [loop_use T (fun i => ⟨[(0, .vr dd 0), (4, .loc (us 64 (dl 64 18 0))), (5, .loc (us 64 (dl 64 9 0))), (6, .hp 0 0), (7, .loc (us 64 (dl 64 18 (N / D)))), (13, .loc (us 64 (tb 9 (fun j => if j < i then v j else 0)))), (84, .i (n : Int)), (85, .i (i : Int))], uH r⟩) n
    (.exit 6, ⟨[(4, .loc (us 64 (dl 64 18 0))), (5, .loc (us 64 (dl 64 9 0))), (7, .loc (us 64 (dl 64 18 (N / D)))), (13, .loc (us 64 (dl 64 9 (R / 2 ^ s))))], uH r⟩) ?h0d (by simp) ?hsd ?hnd]
  rotate_left
  · have e1 : us 64 (dl 64 9 0) = us 64 (tb 9 (fun j => if j < 0 then v j else 0)) := by rw [zero9t]; simp
    rw [← e1]; rfl
  · intro i hi
    have l1 : decide ((i : Int) < (n : Int)) = true := decide_eq_true (by omega)
    have l2 := ixOf_nat (show i < 9 by omega)
    have l3 := ixOf_nat (show i < 19 by omega)
    have l4 := part_tb (w := 64) r i (show i < 19 by omega)
    obtain ⟨i1, hi1⟩ : ∃ z, z = i + 1 := ⟨_, rfl⟩
    have l5 := ixOf_nat (show i1 < 19 by omega)
    have l6 := part_tb (w := 64) r i1 (show i1 < 19 by omega)
    have l7 : F (w64 ((i : Int) + 1)) (i1 : Int) := ⟨by unfold w64; omega⟩
    have l8 : (i + 1 ≤ 9) = True := by simp; omega
    have l9 := hor i
    obtain ⟨y, hy⟩ : ∃ y, r i / 2 ^ s = y := ⟨_, rfl⟩
    rw [hy] at l9
    have fn0 : tb 9 (fun j => if j = i then v i else if j < i then v j else 0) = tb 9 (fun j => if j < i1 then v j else 0) := tb_congr fun j hj => by
      by_cases h1 : j = i
      · rw [if_pos h1, if_pos (by omega), h1]
      · rw [if_neg h1]
        by_cases h2 : j < i
        · rw [if_pos h2, if_pos (by omega)]
        · rw [if_neg h2, if_neg (by omega)]
    by_cases h0 : s = 0
    · have c4 : decide ((0 : Int) < (s : Int)) = false := decide_eq_false (by omega)
      have y1 := hs0' h0 i
      rw [hy] at y1
      rw [← hi1]
      simp only [uH]
      simp only [EE,EX,Nat.reduceLeDiff,Nat.reduceEqDiff,Int.reduceEq,reduceCtorEq,Nat.reduceAdd,Nat.reduceMul,if_true,if_false,decide_true,decide_false, k2, l1, l2, l3, l4, l7.eq, l8, c4, hms, hy, y1, fn0]
    · have c4 : decide ((0 : Int) < (s : Int)) = true := decide_eq_true (by omega)
      have p2 := part_tb (w := 64) (fun j => if j = i then y else if j < i then v j else 0) i (show i < 9 by omega)
      rw [if_pos rfl] at p2
      have fn1 : tb 9 (fun j => if j = i then v i else if j = i then y else if j < i then v j else 0) = tb 9 (fun j => if j < i1 then v j else 0) := by
        rw [← fn0]
        exact tb_congr fun j hj => by
          by_cases h1 : j = i
          · rw [if_pos h1, if_pos h1]
          · rw [if_neg h1, if_neg h1, if_neg h1]
      rw [← hi1] at l9 ⊢
      simp only [uH]
      simp only [EE,EX,Nat.reduceLeDiff,Nat.reduceEqDiff,Int.reduceEq,reduceCtorEq,Nat.reduceAdd,Nat.reduceMul,if_true,if_false,decide_true,decide_false, k2, l1, l2, l3, l4, l5, l6, l7.eq, l8, l9, c4, cS.eq, hms, hmt, hy, p2, fn1]
  · have l1 : decide ((n : Int) < (n : Int)) = false := by simp
    rw [hend]
    simp only [uH]
    simp only [EE,EX,Nat.reduceLeDiff,Nat.reduceEqDiff,Int.reduceEq,reduceCtorEq,Nat.reduceAdd,Nat.reduceMul,if_true,if_false,decide_true,decide_false, l1]
  simp only [uH]
  simp only [EE,EX,Nat.reduceLeDiff,Nat.reduceEqDiff,Int.reduceEq,reduceCtorEq,Nat.reduceAdd,Nat.reduceMul,if_true,if_false,decide_true,decide_false]

end Mir

namespace Mir

/-- A modulus, made ready. -/
def shf (m : Nat) : Nat := 64 * nw m - bl m
abbrev dvm (m : Nat) : V := dv (m * 2 ^ shf m) (nw m) (shf m)

theorem r_ofm {m : Nat} (hm : m < M) (h0 : m ≠ 0) : Run T f_divide_of [.vr (us 64 (dl 64 9 m)) 0] [] = some (dvm m, []) := r_of hm h0 rfl rfl

theorem r_divm {m L W : Nat} (hm : m < M) (h0 : m ≠ 0) (hL : L ≤ 18) (hW : W < 2 ^ (64 * L)) :
    Run T f_divide_divisor_divide [dvm m, .vs L (us 64 (dl 64 L W))] [] = some (.tup [.agg (us 64 (dl 64 18 (W / m))), natv (W % m)], []) := by
  obtain ⟨g1, g2, g3, g4, g5⟩ := of_nums hm h0
  have hs : shf m < 64 := by unfold shf; omega
  have hs2 : bl m + shf m = 64 * nw m := by unfold shf; omega
  refine r_divide g1 (nw_le m) hs (Nat.pos_of_ne_zero h0) ?_ ?_ hL hW
  · have h2 : m * 2 ^ shf m < 2 ^ bl m * 2 ^ shf m := Nat.mul_lt_mul_of_pos_right (bl_lt m) (Nat.two_pow_pos _)
    rw [← Nat.pow_add, hs2] at h2
    exact h2
  · rw [Nat.le_div_iff_mul_le (Nat.two_pow_pos _), ← Nat.pow_add]
    have h1 := bl_le h0
    have h2 : 2 ^ (bl m - 1) * 2 ^ shf m ≤ m * 2 ^ shf m := Nat.mul_le_mul_right _ h1
    rw [← Nat.pow_add, show bl m - 1 + shf m = 63 + 64 * (nw m - 1) by omega] at h2
    exact h2

theorem dvl_noHp (D n s : Nat) : noHp 8 (.vr (dvl D n s) 0) = true := by
  simp [noHp, dvl, us]
theorem dvl_fz (nk : Bool) (h : Heap) (b m D n s : Nat) : fzV nk h b (m + 1) (.vr (dvl D n s) 0) = some (.vr (dvl D n s) 0) := by
  simp only [fzV, dvl_noHp, if_true]

theorem p18_9 (X : Nat) : part (us 64 (dl 64 18 X)) 0 (some 9) = some (.agg (us 64 (dl 64 9 X))) := by
  simp [part, dl, us, tb]
  rw [← List.map_take]
  rfl
theorem one_part (v : V) : part [v] 0 (some 1) = some (.agg [v]) := Eq.trans rfl rfl
theorem dvl_fz1 (nk : Bool) (h : Heap) (b m D n s : Nat) : fzV nk h b (m + 1 + 1) (.agg [.vr (dvl D n s) 0]) = some (.agg [.vr (dvl D n s) 0]) := by
  simp only [fzV, mapO, dvl_noHp, if_true]
  rfl

theorem r_zero {x : Nat} (hx : x < M) : Run T f_divide_zero [.vr (us 64 (dl 64 9 x)) 0] [] = some (.b (decide (x = 0)), []) := by
  rw [Run_at T _ (show T f_divide_zero = some m_divide_zero from rfl)]
  simp only [c_divide_zero]
  simp only [zero9]
  have k1 := eq9 hx (show 0 < M by unfold M; exact Nat.two_pow_pos _)
  simp only [EE,EX,Nat.reduceLeDiff,Nat.reduceEqDiff,Int.reduceEq,reduceCtorEq,Nat.reduceAdd,Nat.reduceMul,if_true,if_false,decide_true,decide_false, k1]

theorem r_Div {a m : Nat} (ha : a < M) (hm : m < M) (h0 : m ≠ 0) : Run T f_divide_Div [natv a, natv m] [] = some (.tup [natv (a / m), natv (a % m), .i 0], []) := by
  rw [Run_at T _ (show T f_divide_Div = some m_divide_Div from rfl)]
  simp only [c_divide_Div]
  simp only [zero18]
  simp only [zero9]
  have k1 := r_zero hm
  have k2 : decide (m = 0) = false := decide_eq_false h0
  rw [k2] at k1
  have k3 := r_ofm hm h0
  have k4 := r_divm hm h0 (L := 9) (by omega) (show a < 2 ^ (64 * 9) by rw [← M64]; exact ha)
  have k5 : ∀ x, List.take 9 (dl 64 9 x) = dl 64 9 x := fun x => List.take_of_length_le (by rw [dl_len]; omega)
  have i9 : ixOf 19 (.i 9) = some 9 := rfl
  have i10 : s2aV 9 (.ls 1 7 0 9 18) = some (.lp 7 0) := rfl
  simp only [EE,EX,Nat.reduceLeDiff,Nat.reduceEqDiff,Int.reduceEq,reduceCtorEq,Nat.reduceAdd,Nat.reduceMul,if_true,if_false,decide_true,decide_false, dvl_noHp, k1, k3, k4, k5, i9, i10, p18_9]

theorem r_By {m : Nat} (hm : m < M) (h0 : m ≠ 0) : Run T f_divide_By [natv m] [] = some (.agg [dvm m], []) := by
  rw [Run_at T _ (show T f_divide_By = some m_divide_By from rfl)]
  simp only [c_divide_By]
  have k3 := r_ofm hm h0
  simp only [EE,EX,Nat.reduceLeDiff,Nat.reduceEqDiff,Int.reduceEq,reduceCtorEq,Nat.reduceAdd,Nat.reduceMul,if_true,if_false,decide_true,decide_false, dvl_noHp, dvl_fz, dvl_fz1, one_part, List.set_cons_zero, k3]

end Mir

namespace Mir

theorem nwl_le (L W : Nat) : nwl L W ≤ L := by have := tl_le (dl 64 L W); rw [dl_len] at this; exact this
theorem nwl_lt {L W : Nat} (hW : W < 2 ^ (64 * L)) : W < 2 ^ (64 * nwl L W) := by
  have step : ∀ d, d ≤ L - nwl L W → W / 2 ^ (64 * (L - d)) = 0 := by
    intro d
    induction d with
    | zero => intro _; exact Nat.div_eq_of_lt hW
    | succ d ih =>
      intro h
      have h1 := ih (by omega)
      have h2 := two_parts W (L - (d + 1))
      have h3 := tl_zero (dl 64 L W) (L - (d + 1)) (by have : tl (dl 64 L W) = nwl L W := rfl; omega)
      rw [dl_getD (by have := nwl_le L W; omega)] at h3
      rw [show L - (d + 1) + 1 = L - d by have := nwl_le L W; omega, h1, h3] at h2
      simpa using h2
  have h := step (L - nwl L W) (Nat.le_refl _)
  rw [show L - (L - nwl L W) = nwl L W by have := nwl_le L W; omega, Nat.div_eq_zero_iff_lt (Nat.two_pow_pos _)] at h
  exact h
theorem dl_take (L k W : Nat) (h : k ≤ L) : List.take k (us 64 (dl 64 L W)) = us 64 (dl 64 k W) := by
  simp only [us, dl, tb, List.map_map, ← List.map_take, List.take_range, Nat.min_eq_left h]
theorem prod_lt {a b : Nat} (ha : a < M) (hb : b < M) : a * b < 2 ^ (64 * 18) := by
  have : a * b < M * M := Nat.mul_lt_mul'' ha hb
  rw [show 2 ^ (64 * 18) = M * M by unfold M; rw [← Nat.pow_add]]
  exact this

theorem one_get (v : V) : part [v] 0 none = some v := Eq.trans rfl rfl

/-- A call that is handed a local variable's cells. -/
theorem lend1 {e : Env} {f : Nat} {L : List V} {z : Int} (h7 : get e 7 = .loc L) (h18 : get e 18 = .ls 1 7 0 18 18) (hL : L.length = 18) (hn : L.all (noHp 2) = true) (hrun : Run T f [.vs 18 L] [] = some (.i z, [])) :
    callO T e [] f [7] [.t 18] = some (.i z, []) := by
  have e1 : lendAll e [7] [ea e (.t 18)] = some [.vs 18 L] := by
    rw [Qq, h18, XG]
    simp [lendAll, lend, h7, hL]
    exact List.take_of_length_le (by omega)
  show cM T [] f (lendAll e [7] [ea e (.t 18)]) = _
  rw [e1]
  have n1 : noHp 3 (.vs 18 L) = true := hn
  simp only [cM, List.all_cons, List.all_nil, n1, hrun, cL, noPtr, flat1, flat, Bool.and_self, if_true]
theorem lend2 {e : Env} {f k : Nat} {L dd : List V} {A B : List Nat} (h7 : get e 7 = .loc L) (h15 : get e 15 = .vr dd 0) (h20 : get e 20 = .ls 1 7 0 k 18) (hk : k ≤ L.length) (hn : (L.take k).all (noHp 2) = true) (hd : dd.all (noHp 2) = true)
    (hrun : Run T f [.vr dd 0, .vs k (L.take k)] [] = some (.tup [.agg (us 64 A), .agg (us 64 B)], [])) :
    callO T e [] f [7] [.t 15, .t 20] = some (.tup [.agg (us 64 A), .agg (us 64 B)], []) := by
  have e1 : lendAll e [7] [ea e (.t 15), ea e (.t 20)] = some [.vr dd 0, .vs k (L.take k)] := by
    rw [Qq, Qq, h15, h20, XG, Q8]
    simp [lendAll, lend, h7, hk]
  show cM T [] f (lendAll e [7] [ea e (.t 15), ea e (.t 20)]) = _
  rw [e1]
  have n1 : noHp 3 (.vs k (L.take k)) = true := hn
  have n2 : noHp 3 (.vr dd 0) = true := hd
  simp only [cM, List.all_cons, List.all_nil, n1, n2, hrun, cL, noPtr, flat1, us_flat, Bool.and_self, if_true]

theorem r_ModMul {a b m : Nat} (ha : a < M) (hb : b < M) (hm : m < M) (h0 : m ≠ 0) : Run T f_divide_Modulus_Mul [.agg [dvm m], natv a, natv b] [] = some (natv (a * b % m), []) := by
  rw [Run_at T _ (show T f_divide_Modulus_Mul = some m_divide_Modulus_Mul from rfl)]
  simp only [c_divide_Modulus_Mul]
  simp only [zero18]
  simp only [zero9]
  have k1 := r_natMul ha hb
  have k2 := r_length 18 (a * b) (by omega)
  have hW := prod_lt ha hb
  obtain ⟨W, hWe⟩ : ∃ W, W = a * b := ⟨_, rfl⟩
  rw [← hWe] at k1 k2 hW ⊢
  have k3 := nwl_le 18 W
  have k4 := r_divm hm h0 k3 (nwl_lt hW)
  have k6 := dl_take 18 (nwl 18 W) W k3
  obtain ⟨k, hk⟩ : ∃ k, k = nwl 18 W := ⟨_, rfl⟩
  rw [← hk] at k2 k3 k4 k6
  have k5 : ∀ x, List.take 18 (dl 64 18 x) = dl 64 18 x := fun x => List.take_of_length_le (by rw [dl_len]; omega)
  have k7 := ixOf_nat (show k < 19 by omega)
  have k8 : (k ≤ 18) = True := by simp; omega
  obtain ⟨dd, hdd⟩ : ∃ l, l = dvl (m * 2 ^ shf m) (nw m) (shf m) := ⟨_, rfl⟩
  have k9 : noHp 8 (.vr dd 0) = true := by rw [hdd]; exact dvl_noHp _ _ _
  simp only [dvm, dv, ← hdd] at k4 ⊢
  have nW : (us 64 (dl 64 18 W)).all (noHp 2) = true := us_noHp 64 1 _
  have nk : (List.take k (us 64 (dl 64 18 W))).all (noHp 2) = true := by rw [k6]; exact us_noHp 64 1 _
  have nd : dd.all (noHp 2) = true := by rw [hdd, dvl, List.all_append, us_noHp]; rfl
  have lW : (us 64 (dl 64 18 W)).length = 18 := by rw [us_len, dl_len]
  have lk : k ≤ (us 64 (dl 64 18 W)).length := by rw [lW]; exact k3
  rw [← k6] at k4
  have c1 : ∀ e : Env, get e 7 = .loc (us 64 (dl 64 18 W)) → get e 18 = .ls 1 7 0 18 18 → callO T e [] f_divide_length [7] [.t 18] = some (.i (k : Int), []) := fun e h1 h2 => lend1 h1 h2 lW nW k2
  have c2 : ∀ e : Env, get e 7 = .loc (us 64 (dl 64 18 W)) → get e 15 = .vr dd 0 → get e 20 = .ls 1 7 0 k 18 → callO T e [] f_divide_divisor_divide [7] [.t 15, .t 20] = some (.tup [widev (W / m), natv (W % m)], []) := fun e h1 h2 h3 => lend2 h1 h2 h3 lk nk nd k4
  simp only [EE,EX,Nat.reduceLeDiff,Nat.reduceEqDiff,Int.reduceEq,reduceCtorEq,Nat.reduceAdd,Nat.reduceMul,if_true,if_false,decide_true,decide_false, k1, c1, c2, k5, k7, k8, one_get]

theorem r_ModRest {W m : Nat} (hW : W < M * M) (hm : m < M) (h0 : m ≠ 0) : Run T f_divide_Modulus_Rest [.agg [dvm m], widev W] [] = some (natv (W % m), []) := by
  rw [Run_at T _ (show T f_divide_Modulus_Rest = some m_divide_Modulus_Rest from rfl)]
  simp only [c_divide_Modulus_Rest]
  simp only [zero18]
  simp only [zero9]
  have hW' : W < 2 ^ (64 * 18) := by
    rw [show 2 ^ (64 * 18) = M * M by unfold M; rw [← Nat.pow_add]]
    exact hW
  have k4 := r_divm hm h0 (show 18 ≤ 18 by omega) hW'
  have k5 : ∀ x, List.take 18 (dl 64 18 x) = dl 64 18 x := fun x => List.take_of_length_le (by rw [dl_len]; omega)
  obtain ⟨dd, hdd⟩ : ∃ l, l = dvl (m * 2 ^ shf m) (nw m) (shf m) := ⟨_, rfl⟩
  have k9 : noHp 8 (.vr dd 0) = true := by rw [hdd]; exact dvl_noHp _ _ _
  simp only [dvm, dv, ← hdd] at k4 ⊢
  simp only [EE,EX,Nat.reduceLeDiff,Nat.reduceEqDiff,Int.reduceEq,reduceCtorEq,Nat.reduceAdd,Nat.reduceMul,if_true,if_false,decide_true,decide_false, k4, k5, k9, one_get]

end Mir

namespace Mir

/-- Euclid's steps: both rests, both numbers that a is taken times. -/
structure Eu where
  o : Nat
  w : Nat
  s : Nat
  t : Nat
def euLess (m : Nat) (v : Eu) : Nat := v.o / v.w * v.t % m
def euNext (m : Nat) (v : Eu) : Nat := if v.s < euLess m v then v.s + m - euLess m v else v.s - euLess m v
def euStep (m : Nat) (v : Eu) : Eu := ⟨v.w, v.o % v.w, v.t, euNext m v⟩
def euAt (m : Nat) (v : Eu) : Nat → Eu
  | 0 => v
  | k + 1 => euStep m (euAt m v k)
theorem euAt_next (m : Nat) (v : Eu) (k : Nat) : euAt m v (k + 1) = euAt m (euStep m v) k := by
  induction k with
  | zero => rfl
  | succ k ih => show euStep m (euAt m v (k + 1)) = euStep m (euAt m (euStep m v) k); rw [ih]

/-- What holds of each step. -/
structure EuOk (a m : Nat) (v : Eu) : Prop where
  s : v.s < m
  t : v.t < m
  o : v.o ≤ m
  w : v.w < m
  ws : v.s * a % m = v.o % m
  wt : v.t * a % m = v.w % m
  g : Nat.gcd v.o v.w = Nat.gcd m a

theorem next_lt {m : Nat} {v : Eu} (hs : v.s < m) : euNext m v < m := by
  have h : euLess m v < m := Nat.mod_lt _ (by omega)
  unfold euNext
  split <;> omega
theorem next_mod {m : Nat} {v : Eu} (hs : v.s < m) : (euNext m v + v.o / v.w * v.t) % m = v.s := by
  have h : euLess m v < m := Nat.mod_lt _ (by omega)
  have h1 : (euNext m v + v.o / v.w * v.t) % m = (euNext m v + euLess m v) % m := by
    rw [Nat.add_mod, euLess, Nat.add_mod (euNext m v) (v.o / v.w * v.t % m), Nat.mod_mod]
  rw [h1]
  unfold euNext
  split
  · rw [show v.s + m - euLess m v + euLess m v = v.s + m by omega, Nat.add_mod_right, Nat.mod_eq_of_lt hs]
  · rw [show v.s - euLess m v + euLess m v = v.s by omega, Nat.mod_eq_of_lt hs]

theorem mod_cancel {x y c m : Nat} (h : (x + c) % m = (y + c) % m) : x % m = y % m := by
  have h1 : (x + c + (m * c - c)) % m = (y + c + (m * c - c)) % m := by rw [Nat.add_mod, h, ← Nat.add_mod]
  rcases Nat.eq_zero_or_pos m with h0 | h0
  · subst h0; simp at h; rw [h]
  · have h2 : c ≤ m * c := Nat.le_mul_of_pos_left c h0
    rw [show x + c + (m * c - c) = x + m * c by omega, show y + c + (m * c - c) = y + m * c by omega, Nat.add_mul_mod_self_left, Nat.add_mul_mod_self_left] at h1
    exact h1

theorem eu_step {a m : Nat} {v : Eu} (h : EuOk a m v) (hw : v.w ≠ 0) : EuOk a m (euStep m v) := by
  have hwp : 0 < v.w := Nat.pos_of_ne_zero hw
  have hr : v.o % v.w < v.w := Nat.mod_lt _ hwp
  refine ⟨h.t, next_lt h.s, Nat.le_of_lt h.w, Nat.lt_trans hr h.w, h.wt, ?_, ?_⟩
  · show euNext m v * a % m = v.o % v.w % m
    apply mod_cancel (c := v.o / v.w * v.w)
    have e1 : v.o % v.w + v.o / v.w * v.w = v.o := by rw [Nat.mul_comm]; exact Nat.mod_add_div _ _
    rw [e1, ← h.ws]
    have e2 : (v.o / v.w * v.w) % m = (v.o / v.w * v.t * a) % m := by
      rw [Nat.mul_mod, ← h.wt, ← Nat.mul_mod, Nat.mul_assoc]
    rw [Nat.add_mod, e2, ← Nat.add_mod, ← Nat.add_mul, Nat.mul_mod, next_mod h.s]
    rw [Nat.mul_mod v.s a, Nat.mod_eq_of_lt h.s]
  · show Nat.gcd v.w (v.o % v.w) = _
    rw [← h.g, Nat.gcd_comm v.w, ← Nat.gcd_rec, Nat.gcd_comm]

theorem eu_stop (m : Nat) : ∀ (k : Nat) (v : Eu), v.w ≤ k → ∃ n, (∀ i, i < n → (euAt m v i).w ≠ 0) ∧ (euAt m v n).w = 0 := by
  intro k
  induction k with
  | zero => intro v hv; exact ⟨0, fun i hi => absurd hi (by omega), by show v.w = 0; omega⟩
  | succ k ih =>
    intro v hv
    by_cases h0 : v.w = 0
    · exact ⟨0, fun i hi => absurd hi (by omega), h0⟩
    · have h1 : (euStep m v).w ≤ k := by
        show v.o % v.w ≤ k
        have := Nat.mod_lt v.o (Nat.pos_of_ne_zero h0)
        omega
      obtain ⟨n, hn, he⟩ := ih (euStep m v) h1
      refine ⟨n + 1, fun i hi => ?_, by rw [euAt_next]; exact he⟩
      cases i with
      | zero => exact h0
      | succ i => rw [euAt_next]; exact hn i (by omega)
theorem eu_ok {a m : Nat} {v : Eu} {n : Nat} (h : EuOk a m v) (hn : ∀ i, i < n → (euAt m v i).w ≠ 0) : ∀ i, i ≤ n → EuOk a m (euAt m v i) := by
  intro i
  induction i with
  | zero => intro _; exact h
  | succ i ih => intro hi; exact eu_step (ih (by omega)) (hn i (by omega))

theorem lend10 {e : Env} {f : Nat} {L : List V} {b : Bool} (h : get e 10 = .loc L) (hn : L.all (noHp 2) = true) (hrun : Run T f [.vr L 0] [] = some (.b b, [])) :
    callO T e [] f [10] [.t 10] = some (.b b, []) := by
  have e1 : lendAll e [10] [ea e (.t 10)] = some [.vr L 0] := by
    rw [Qq, h, XT]
    simp [lendAll, lend, h]
  show cM T [] f (lendAll e [10] [ea e (.t 10)]) = _
  rw [e1]
  have n1 : noHp 3 (.vr L 0) = true := hn
  simp only [cM, List.all_cons, List.all_nil, n1, hrun, cL, noPtr, flat1, flat, Bool.and_self, if_true]

/-- The number that Euclid's steps leave. -/
theorem r_InverseRun {a m n : Nat} (ha : a < M) (hm : m < M) (h0 : m ≠ 0) {u : Nat → Eu} (hu : u = euAt m ⟨m, a % m, 0, 1⟩) (hw : ∀ i, i < n → (u i).w ≠ 0) (hn : (u n).w = 0) (hok : ∀ i, i < n → EuOk a m (u i)) (hoM : (u n).o < M) :
    Run T f_divide_Inverse [natv a, natv m] [] = some (if (u n).o ≠ 1 ∨ m = 1 then .tup [natv 0, .i 401] else .tup [natv (u n).s, .i 0], []) := by
  rw [Run_at T _ (show T f_divide_Inverse = some m_divide_Inverse from rfl)]
  simp only [c_divide_Inverse]
  simp only [zero9]
  have hmp := Nat.pos_of_ne_zero h0
  have k1 := r_zero hm
  have k2 : decide (m = 0) = false := decide_eq_false h0
  rw [k2] at k1
  have k3 := r_Div ha hm h0
  have k4 := r_natSmall 1 (by omega)
  rw [show (1 : Int).toNat = 1 from rfl] at k4
  have k5 := r_By hm h0
  have k6 : ∀ x y, x < M → y < M → _ := fun x y hx hy => r_ModMul hx hy hm h0
  obtain ⟨dd, hdd⟩ : ∃ l, l = dvl (m * 2 ^ shf m) (nw m) (shf m) := ⟨_, rfl⟩
  have n1 : noHp 8 (.agg [.vr dd 0]) = true := by
    have : dd.all (noHp 6) = true := by rw [hdd, dvl, List.all_append, us_noHp]; rfl
    show (dd.all (noHp 6) && true) = true
    rw [this]; rfl
  simp only [dvm, dv, ← hdd] at k5 k6
  have u0 : u 0 = ⟨m, a % m, 0, 1⟩ := by rw [hu]; rfl
  have us' : ∀ i, u (i + 1) = euStep m (u i) := fun i => by rw [hu]; rfl
  obtain ⟨g0, hg0⟩ : ∃ z, z = a / m := ⟨_, rfl⟩
  obtain ⟨r0, hr0⟩ : ∃ z, z = a % m := ⟨_, rfl⟩
  rw [← hg0, ← hr0] at k3
  rw [← hr0] at u0
  simp only [EE,EX,Nat.reduceLeDiff,Nat.reduceEqDiff,Int.reduceEq,reduceCtorEq,Nat.reduceAdd,Nat.reduceMul,if_true,if_false,decide_true,decide_false, n1, one_part, List.set_cons_zero, k1, k3, k4, k5]
  have lz : ∀ x : Nat, x < M → ∀ e : Env, get e 10 = .loc (us 64 (dl 64 9 x)) → callO T e [] f_divide_zero [10] [.t 10] = some (.b (decide (x = 0)), []) := fun x hx e h => lend10 h (us_noHp 64 1 _) (r_zero hx)
  rw [loop_use T (fun i => ⟨[(3, .vr (us 64 (dl 64 9 m)) 0), (4, .loc (us 64 (dl 64 9 0))), (9, .loc (us 64 (dl 64 9 (u i).o))), (10, .loc (us 64 (dl 64 9 (u i).w))), (11, .loc (us 64 (dl 64 9 (u i).s))), (12, .loc (us 64 (dl 64 9 (u i).t))), (13, .loc [.vr dd 0])], []⟩) n
    (.exit 0, ⟨[(3, .vr (us 64 (dl 64 9 m)) 0), (4, .loc (us 64 (dl 64 9 0))), (9, .loc (us 64 (dl 64 9 (u n).o))), (11, .loc (us 64 (dl 64 9 (u n).s)))], []⟩) ?h0 (by simp) ?hs ?hn]
  · obtain ⟨o, ho⟩ : ∃ o, (u n).o = o := ⟨_, rfl⟩
    obtain ⟨x, hx⟩ : ∃ o, (u n).s = o := ⟨_, rfl⟩
    rw [ho] at hoM
    rw [ho, hx]
    have c1 := eq9 hoM (show 1 < M by unfold M; exact Nat.one_lt_two_pow (by omega))
    have c2 := eq9 hm (show 1 < M by unfold M; exact Nat.one_lt_two_pow (by omega))
    by_cases h1 : o = 1
    · have d1 : decide (o = 1) = true := decide_eq_true h1
      rw [d1] at c1
      by_cases h2 : m = 1
      · have d2 : decide (m = 1) = true := decide_eq_true h2
        rw [d2] at c2
        rw [if_pos (.inr h2)]
        simp only [EE,EX,Nat.reduceLeDiff,Nat.reduceEqDiff,Int.reduceEq,reduceCtorEq,Nat.reduceAdd,Nat.reduceMul,if_true,if_false,decide_true,decide_false, k4, c1, c2, Bool.not_true, Bool.not_false]
      · have d2 : decide (m = 1) = false := decide_eq_false h2
        rw [d2] at c2
        rw [if_neg (by omega)]
        simp only [EE,EX,Nat.reduceLeDiff,Nat.reduceEqDiff,Int.reduceEq,reduceCtorEq,Nat.reduceAdd,Nat.reduceMul,if_true,if_false,decide_true,decide_false, k4, c1, c2, Bool.not_true, Bool.not_false]
    · have d1 : decide (o = 1) = false := decide_eq_false h1
      rw [d1] at c1
      rw [if_pos (.inl h1)]
      simp only [EE,EX,Nat.reduceLeDiff,Nat.reduceEqDiff,Int.reduceEq,reduceCtorEq,Nat.reduceAdd,Nat.reduceMul,if_true,if_false,decide_true,decide_false, k4, c1, Bool.not_true, Bool.not_false]
  · rw [u0]
  · intro i hi
    have hk := hok i hi
    have hw' := hw i hi
    obtain ⟨v, hv⟩ : ∃ v, v = u i := ⟨_, rfl⟩
    rw [us' i, ← hv]
    rw [← hv] at hk hw'
    have e1 : (euStep m v).o = v.w := rfl
    have e2 : (euStep m v).w = v.o % v.w := rfl
    have e3 : (euStep m v).s = v.t := rfl
    have e4 : (euStep m v).t = euNext m v := rfl
    rw [e1, e2, e3, e4]
    have hoM' : v.o < M := Nat.lt_of_le_of_lt hk.o hm
    have hwM : v.w < M := Nat.lt_trans hk.w hm
    have hsM : v.s < M := Nat.lt_trans hk.s hm
    have htM : v.t < M := Nat.lt_trans hk.t hm
    have l1 := lz v.w hwM
    have d1 : decide (v.w = 0) = false := decide_eq_false hw'
    rw [d1] at l1
    have l2 := r_Div hoM' hwM hw'
    have hqM : v.o / v.w < M := Nat.lt_of_le_of_lt (Nat.div_le_self _ _) hoM'
    have l3 := k6 (v.o / v.w) v.t hqM htM
    have hle : v.o / v.w * v.t % m = euLess m v := rfl
    rw [hle] at l3
    have hlm : euLess m v < m := Nat.mod_lt _ hmp
    have l4 := r_natSub (x := v.s) (y := euLess m v) hsM (Nat.lt_trans hlm hm)
    have hss := hk.s
    obtain ⟨nx, hnx⟩ : ∃ z, z = euNext m v := ⟨_, rfl⟩
    have hnx' : nx = if v.s < euLess m v then v.s + m - euLess m v else v.s - euLess m v := hnx
    rw [← hnx]
    obtain ⟨le, hle'⟩ : ∃ z, z = euLess m v := ⟨_, rfl⟩
    rw [← hle'] at l3 l4 hlm hnx'
    obtain ⟨q, hq⟩ : ∃ z, z = v.o / v.w := ⟨_, rfl⟩
    obtain ⟨rr, hrr⟩ : ∃ z, z = v.o % v.w := ⟨_, rfl⟩
    rw [← hq, ← hrr] at l2
    rw [← hq] at l3
    rw [← hrr]
    obtain ⟨vo, hvo⟩ : ∃ z, z = v.o := ⟨_, rfl⟩
    obtain ⟨vw, hvw⟩ : ∃ z, z = v.w := ⟨_, rfl⟩
    obtain ⟨vs, hvs⟩ : ∃ z, z = v.s := ⟨_, rfl⟩
    obtain ⟨vt, hvt⟩ : ∃ z, z = v.t := ⟨_, rfl⟩
    rw [← hvw] at l1 l2
    rw [← hvo] at l2
    rw [← hvt] at l3
    rw [← hvs] at l4 hsM hss hnx'
    rw [← hvo, ← hvw, ← hvs, ← hvt]
    by_cases hlt : vs < le
    · have d2 : decide (vs < le) = true := decide_eq_true hlt
      rw [if_pos hlt] at hnx'
      rw [d2, Nat.mod_eq_of_lt (show vs + M - le < M by omega)] at l4
      have l5 := r_natAdd (x := vs + M - le) (y := m) (by omega) hm
      have e5 : (vs + M - le + m) % M = nx := by
        rw [show vs + M - le + m = nx + M by omega, Nat.add_mod_right, Nat.mod_eq_of_lt (by omega)]
      rw [e5] at l5
      obtain ⟨y, hy⟩ : ∃ y, y = vs + M - le := ⟨_, rfl⟩
      rw [← hy] at l4 l5
      simp only [EE,EX,Nat.reduceLeDiff,Nat.reduceEqDiff,Int.reduceEq,reduceCtorEq,Nat.reduceAdd,Nat.reduceMul,if_true,if_false,decide_true,decide_false, n1, one_part, l1, l2, l3, l4, l5, Bool.not_false, natv_noHp]
    · have d2 : decide (vs < le) = false := decide_eq_false hlt
      rw [if_neg hlt] at hnx'
      rw [d2, show vs + M - le = nx + M by omega, Nat.add_mod_right, Nat.mod_eq_of_lt (show nx < M by omega)] at l4
      simp only [EE,EX,Nat.reduceLeDiff,Nat.reduceEqDiff,Int.reduceEq,reduceCtorEq,Nat.reduceAdd,Nat.reduceMul,if_true,if_false,decide_true,decide_false, n1, one_part, l1, l2, l3, l4, Bool.not_false, natv_noHp]
  · have l1 := lz 0 (by unfold M; exact Nat.two_pow_pos _)
    rw [show decide ((0 : Nat) = 0) = true from rfl] at l1
    rw [hn]
    simp only [EE,EX,Nat.reduceLeDiff,Nat.reduceEqDiff,Int.reduceEq,reduceCtorEq,Nat.reduceAdd,Nat.reduceMul,if_true,if_false,decide_true,decide_false, l1, Bool.not_true]

/-- A number that has an inverse: what is given back. -/
theorem r_Inverse {a m : Nat} (ha : a < M) (hm : m < M) (h0 : m ≠ 0) (h1 : m ≠ 1) (hg : Nat.gcd m a = 1) : ∃ i, i < m ∧ i * a % m = 1 ∧ Run T f_divide_Inverse [natv a, natv m] [] = some (.tup [natv i, .i 0], []) := by
  have hmp := Nat.pos_of_ne_zero h0
  have e0 : EuOk a m ⟨m, a % m, 0, 1⟩ := ⟨by simp only; omega, by simp only; omega, by simp only; omega, Nat.mod_lt _ hmp, by simp, by simp, by rw [Nat.gcd_comm]; exact (Nat.gcd_rec m a).symm⟩
  obtain ⟨n, hw, hn⟩ := eu_stop m (a % m) ⟨m, a % m, 0, 1⟩ (Nat.le_refl _)
  have hok := eu_ok e0 hw
  have he := hok n (Nat.le_refl n)
  have ho : (euAt m ⟨m, a % m, 0, 1⟩ n).o = 1 := by
    have := he.g
    rw [hn, Nat.gcd_zero_right, hg] at this
    exact this
  refine ⟨_, he.s, ?_, ?_⟩
  · rw [he.ws, ho]; exact Nat.mod_eq_of_lt (by omega)
  · rw [r_InverseRun ha hm h0 rfl hw hn (fun i hi => hok i (by omega)) (by rw [ho]; unfold M; exact Nat.one_lt_two_pow (by omega)), if_neg (by omega)]
end Mir

