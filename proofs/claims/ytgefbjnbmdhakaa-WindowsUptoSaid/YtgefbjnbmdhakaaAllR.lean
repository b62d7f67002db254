/- One module of several texts (RefD RefE RefF RefG RefH). Conditions: none. -/
import Derived.Test.YtgefbjnbmdhakaaAllN
set_option linter.unusedVariables false
set_option linter.unusedSimpArgs false
set_option exponentiation.threshold 5000
set_option maxRecDepth 20000
namespace Mir

theorem and32p (y : Nat) : (y &&& 4294967295) = y % 2 ^ 32 := by
  have := and32 y
  simpa using this

theorem r_Add {a b : Nat} (ha : Fit a) (hb : Fit b) : Run T f_curvetref1_Add [num a, num b] [] = some (num (a + b), []) := by
  rw [Run_at T _ (show T f_curvetref1_Add = some m_curvetref1_Add from rfl)]
  simp only [c_curvetref1_Add]
  have hla := ha.len
  have hlb := hb.len
  have nha := num_noHp a 6
  have nhb := num_noHp b 6
  have dga := fun i h => r_digit ha i h
  have dgb := fun i h => r_digit hb i h
  have hLa := dg_len_lt a
  have hLb := dg_len_lt b
  have hfa : (dg a).length < 1000000000 := ha
  have hfb : (dg b).length < 1000000000 := hb
  simp only [num] at *
  generalize (dg a).length = la at *
  generalize (dg b).length = lb at *
  generalize us 32 (dg a) = ra at *
  generalize us 32 (dg b) = rb at *
  obtain ⟨n, hn⟩ : ∃ n : Nat, n = if la < lb then lb else la := ⟨_, rfl⟩
  have hna : la ≤ n := by rw [hn]; split <;> omega
  have hnb : lb ≤ n := by rw [hn]; split <;> omega
  have hnl : n < 1000000000 := by rw [hn]; split <;> omega
  have h1 : (if (la : Int) < (lb : Int) then (lb : Int) else (la : Int)) = (n : Int) := by
    rw [hn]; split <;> split <;> omega
  have h2 : F (w64 ((n : Int) + 1)) (((n + 1 : Nat) : Int)) := ⟨by unfold w64; omega⟩
  have h3 := ixOf_nat (show n + 1 < 140737488355329 by omega)
  have h4 := ixOf_nat (show n + 1 < n + 1 + 1 by omega)
  have h5 : roomOk (n + 1) 4 = true := by simp only [roomOk, decide_eq_true_eq]; omega
  have hA : a < 2 ^ (32 * n) := Nat.lt_of_lt_of_le (hLa) (Nat.pow_le_pow_right (by omega) (by omega))
  have hB : b < 2 ^ (32 * n) := Nat.lt_of_lt_of_le (hLb) (Nat.pow_le_pow_right (by omega) (by omega))
  have hS : a + b < 2 ^ (32 * (n + 1)) := by rw [Nat.mul_succ, Nat.pow_add]; omega
  obtain ⟨c, hc⟩ : ∃ c : Nat → Nat, ∀ i, c i = (a % 2 ^ (32 * i) + b % 2 ^ (32 * i)) / 2 ^ (32 * i) := ⟨_, fun _ => rfl⟩
  obtain ⟨p, hp⟩ : ∃ p : Nat → Nat, ∀ i, p i = a / 2 ^ (32 * i) % 2 ^ 32 := ⟨_, fun _ => rfl⟩
  obtain ⟨q, hq⟩ : ∃ q : Nat → Nat, ∀ i, q i = b / 2 ^ (32 * i) % 2 ^ 32 := ⟨_, fun _ => rfl⟩
  obtain ⟨s, hs⟩ : ∃ s : Nat → Nat, ∀ i, s i = (a + b) / 2 ^ (32 * i) % 2 ^ 32 := ⟨_, fun _ => rfl⟩
  have hcl : ∀ i, c i ≤ 1 := fun i => by rw [hc]; exact carry_le 32 a b i
  have hpl : ∀ i, p i < 2 ^ 32 := fun i => by rw [hp]; exact Nat.mod_lt _ (by omega)
  have hql : ∀ i, q i < 2 ^ 32 := fun i => by rw [hq]; exact Nat.mod_lt _ (by omega)
  have hlo : ∀ i, (p i + q i + c i) % 2 ^ 32 = s i := fun i => by rw [hp, hq, hc, hs]; exact carry_lo 32 a b i
  have hhi : ∀ i, (p i + q i + c i) / 2 ^ 32 = c (i + 1) := fun i => by rw [hp, hq, hc, hc]; exact carry_hi 32 a b i
  have hc0 : c 0 = 0 := by rw [hc]; simp [Nat.mod_one]
  have hcn : c n = s n := by
    rw [hc, hs, Nat.mod_eq_of_lt hA, Nat.mod_eq_of_lt hB]
    refine (Nat.mod_eq_of_lt ?_).symm
    rw [Nat.div_lt_iff_lt_mul (Nat.two_pow_pos _), ← Nat.pow_add]
    have e : 32 + 32 * n = 32 * (n + 1) := by omega
    rw [e]; exact hS
  have h6 : V.u 64 0 = V.u 64 (c 0) := by rw [hc0]
  simp only [EE,EX,Nat.reduceLeDiff,Nat.reduceEqDiff,Int.reduceEq,reduceCtorEq,Nat.reduceAdd,Nat.reduceMul,if_true,if_false,decide_true,decide_false, hla, hlb, h1, h2.eq, h3, h4, h5, us_rep]
  rw [loop_use T (fun i => ⟨[(0, .vs la ra), (1, .vs lb rb), (5, .i (n : Int)), (6, .hs 1 0 0 (n + 1) (n + 1)), (7, .u 64 (c i)), (8, .i (i : Int))], [some (us 32 (tb (n + 1) fun j => if j < i then s j else 0))]⟩) n
    (.exit 0, ⟨[(5, .i (n : Int)), (6, .hs 1 0 0 (n + 1) (n + 1)), (7, .u 64 (c n))], [some (us 32 (tb (n + 1) fun j => if j < n then s j else 0))]⟩) ?h0 (by simp) ?hs ?hn]
  · have k1 := ixOf_nat (show n < n + 1 by omega)
    have k2 : c n % 2 ^ 32 = c n := Nat.mod_eq_of_lt (by have := hcl n; omega)
    have k3 : (n + 1 ≤ n + 1) = True := by simp
    have k4 : tb (n + 1) (fun j => if j = n then c n else if j < n then s j else 0) = dl 32 (n + 1) (a + b) := tb_congr fun j hj => by
      by_cases h : j = n
      · rw [if_pos h, hcn, h, hs]
      · rw [if_neg h, if_pos (by omega), hs]
    have k5 := r_trim (l := dl 32 (n + 1) (a + b)) (H := [some (us 32 (dl 32 (n + 1) (a + b)))]) (k := 0) (cap := n + 1) rfl (by simp) (by simp [lowR, us_low]) (by rw [dl_len]; omega) (by rw [dl_len]; omega)
    rw [dl_len, tl_dl hS] at k5
    have k6 : ((dg (a + b)).length ≤ n + 1) = True := by simp; exact dg_len_le _ _ hS
    have k7 : (dl 32 (n + 1) (a + b)).take (dg (a + b)).length = dg (a + b) := by rw [← tl_dl hS, take_dl hS]
    simp only [EE,EX,Nat.reduceLeDiff,Nat.reduceEqDiff,Int.reduceEq,reduceCtorEq,Nat.reduceAdd,Nat.reduceMul,if_true,if_false,decide_true,decide_false, k1, k2, k3, k4, k5, k6, k7, dl_len]
  · simp only [tb_rep, hc0]; rfl
  · intro i hi
    have g1 : decide ((i : Int) < (n : Int)) = true := by simp; omega
    have g2 : F (w64 ((i : Int) + 1)) (((i + 1 : Nat) : Int)) := ⟨by unfold w64; omega⟩
    have g3 := ixOf_nat (show i < n + 1 by omega)
    have g4 := dga i (by omega)
    have g5 := dgb i (by omega)
    rw [← hp] at g4
    rw [← hq] at g5
    have g6 : (p i + q i) % 2 ^ 64 = p i + q i := Nat.mod_eq_of_lt (by have := hpl i; have := hql i; omega)
    have g7 : (p i + q i + c i) % 2 ^ 64 = p i + q i + c i := Nat.mod_eq_of_lt (by have := hpl i; have := hql i; have := hcl i; omega)
    have g8 : (p i + q i + c i &&& 4294967295) % 2 ^ 32 = s i := by rw [and32p, hlo]; exact Nat.mod_eq_of_lt (by rw [hs]; exact Nat.mod_lt _ (by omega))
    have g9 : (p i + q i + c i) / 2 ^ 32 = c (i + 1) := hhi i
    have g10 : min 32 64 = 32 := rfl
    have g11 : (i + 1 ≤ n + 1) = True := by simp; omega
    have g12 : tb (n + 1) (fun j => if j = i then s i else if j < i then s j else 0) = tb (n + 1) (fun j => if j < i + 1 then s j else 0) := tb_congr fun j hj => by
      by_cases h : j = i
      · rw [if_pos h, if_pos (by omega), h]
      · rw [if_neg h]
        by_cases h2 : j < i
        · rw [if_pos h2, if_pos (by omega)]
        · rw [if_neg h2, if_neg (by omega)]
    simp only [EE,EX,Nat.reduceLeDiff,Nat.reduceEqDiff,Int.reduceEq,reduceCtorEq,Nat.reduceAdd,Nat.reduceMul,if_true,if_false,decide_true,decide_false, g1, g2.eq, g3, g4, g5, g6, g7, g8, g9, g10, g11, g12, nha, nhb]
  · have g1 : decide ((n : Int) < (n : Int)) = false := by simp
    simp only [EE,EX,Nat.reduceLeDiff,Nat.reduceEqDiff,Int.reduceEq,reduceCtorEq,Nat.reduceAdd,Nat.reduceMul,if_true,if_false,decide_true,decide_false, g1]

end Mir

namespace Mir

theorem r_trimD {n x : Nat} (hx : x < 2 ^ (32 * n)) (hn : n < 4611686018427387904) : Run T f_curvetref1_trim [.hs 1 0 0 n n] [some (us 32 (dl 32 n x))] = some (.hs 1 0 0 (dg x).length n, [some (us 32 (dl 32 n x))]) := by
  have k5 := r_trim (l := dl 32 n x) (H := [some (us 32 (dl 32 n x))]) (k := 0) (cap := n) rfl (by simp) (by simp [lowR, us_low]) (by rw [dl_len]; omega) (by rw [dl_len]; omega)
  rw [dl_len, tl_dl hx] at k5
  exact k5
theorem take_dgD {n x : Nat} (hx : x < 2 ^ (32 * n)) : (dl 32 n x).take (dg x).length = dg x := by rw [← tl_dl hx, take_dl hx]
theorem dg_part {x i : Nat} (h : i < (dg x).length) : part (us 32 (dg x)) i none = some (.u 32 (x / 2 ^ (32 * i) % 2 ^ 32)) := by
  have h7 : (dg x)[i] = x / 2 ^ (32 * i) % 2 ^ 32 := by rw [← dg_getD]; simp [h]
  simp [part, us, h, h7]
theorem dg_ge {x : Nat} (h : x ≠ 0) : 2 ^ (32 * ((dg x).length - 1)) ≤ x := by
  obtain ⟨_, h2, _⟩ := dg_top h
  rcases Nat.lt_or_ge x (2 ^ (32 * ((dg x).length - 1))) with hh | hh
  · exact absurd (Nat.div_eq_of_lt hh) h2
  · exact hh
theorem Fit.of_le {x y : Nat} (h : Fit y) (hxy : x ≤ y) : Fit x := by
  have h1 := dg_len_le (dg y).length x (Nat.lt_of_le_of_lt hxy (dg_len_lt y))
  unfold Fit at *; omega
theorem Fit.of_lt {x n : Nat} (h : x < 2 ^ (32 * n)) (hn : n < 1000000000) : Fit x := by
  have h1 := dg_len_le n x h
  unfold Fit; omega
theorem Fit.of_M {x : Nat} (h : x < M) : Fit x := Fit.of_lt (n := 18) (M32 ▸ h) (by omega)

theorem sub_word {p q c : Nat} (hp : p < 2 ^ 32) (hq : q < 2 ^ 32) (hc : c ≤ 1) : (((p + 4294967296) % 2 ^ 64 + 2 ^ 64 - q) % 2 ^ 64 + 2 ^ 64 - c) % 2 ^ 64 = p + 2 ^ 32 - q - c ∧ (1 + 2 ^ 64 - (p + 2 ^ 32 - q - c) / 2 ^ 32) % 2 ^ 64 = (if p < q + c then 1 else 0) := by
  constructor
  · omega
  · split <;> omega

theorem r_refSub {a b : Nat} (ha : Fit a) (hab : b ≤ a) : Run T f_curvetref1_Sub [num a, num b] [] = some (num (a - b), []) := by
  rw [Run_at T _ (show T f_curvetref1_Sub = some m_curvetref1_Sub from rfl)]
  simp only [c_curvetref1_Sub]
  have hb := ha.of_le hab
  have hLa := dg_len_lt a
  obtain ⟨n, hn⟩ : ∃ n, n = (dg a).length := ⟨_, rfl⟩
  have hn9 : n < 1000000000 := by rw [hn]; exact ha
  rw [← hn] at hLa
  have hbn : b < 2 ^ (32 * n) := by omega
  obtain ⟨p, hp⟩ : ∃ p : Nat → Nat, ∀ i, p i = a / 2 ^ (32 * i) % 2 ^ 32 := ⟨_, fun _ => rfl⟩
  obtain ⟨q, hq⟩ : ∃ q : Nat → Nat, ∀ i, q i = b / 2 ^ (32 * i) % 2 ^ 32 := ⟨_, fun _ => rfl⟩
  obtain ⟨c, hc⟩ : ∃ c : Nat → Nat, ∀ i, c i = bor 32 a b i := ⟨_, fun _ => rfl⟩
  obtain ⟨s, hs⟩ : ∃ s : Nat → Nat, ∀ i, s i = (a - b) / 2 ^ (32 * i) % 2 ^ 32 := ⟨_, fun _ => rfl⟩
  have hpl : ∀ i, p i < 2 ^ 32 := fun i => by rw [hp]; exact Nat.mod_lt _ (Nat.two_pow_pos 32)
  have hql : ∀ i, q i < 2 ^ 32 := fun i => by rw [hq]; exact Nat.mod_lt _ (Nat.two_pow_pos 32)
  have hcl : ∀ i, c i ≤ 1 := fun i => by rw [hc]; exact bor_le 32 a b i
  have hlo : ∀ i, i < n → (p i + 2 ^ 32 - q i - c i) % 2 ^ 32 = s i := fun i hi => by
    rw [hp, hq, hc, hs, bor_lo 32 n a b i hi hbn]
    have e : 2 ^ (32 * n) = 2 ^ (32 * i) * (2 ^ 32 * 2 ^ (32 * (n - i - 1))) := by
      rw [← Nat.pow_add, ← Nat.pow_add]; congr 1; omega
    rw [show a + 2 ^ (32 * n) - b = (a - b) + 2 ^ (32 * n) by omega, e, Nat.add_mul_div_left _ _ (Nat.two_pow_pos _), Nat.add_mul_mod_self_left]
  have hhi : ∀ i, (if p i < q i + c i then 1 else 0) = c (i + 1) := fun i => by rw [hp, hq, hc, hc]; exact bor_hi 32 a b i
  have hc0 : c 0 = 0 := by rw [hc]; simp [bor, Nat.mod_one]
  have dga := fun i h => r_digit ha i h
  have dgb := fun i h => r_digit hb i h
  have nha := num_noHp a 6
  have nhb := num_noHp b 6
  have k1 : decide (n < 9223372036854775808) = true := by simp; omega
  have k2 := ixOf_nat (show n < 140737488355329 by omega)
  have k3 := ixOf_nat (show n < n + 1 by omega)
  have k4 : roomOk n 4 = true := by simp [roomOk]; omega
  obtain ⟨na, hna⟩ : ∃ v, v = num a := ⟨_, rfl⟩
  obtain ⟨nb, hnb⟩ : ∃ v, v = num b := ⟨_, rfl⟩
  have hlen : lenV na = some n := by rw [hna, hn]; rfl
  have e1 : evV na = na := by rw [hna]; rfl
  have e2 : evV nb = nb := by rw [hnb]; rfl
  have e3 : san na = na := by rw [hna]; rfl
  have e4 : san nb = nb := by rw [hnb]; rfl
  rw [← hna] at dga nha ⊢
  rw [← hnb] at dgb nhb ⊢
  simp only [EE,EX,Nat.reduceLeDiff,Nat.reduceEqDiff,Int.reduceEq,reduceCtorEq,Nat.reduceAdd,Nat.reduceMul,if_true,if_false,decide_true,decide_false, e1, e2, e3, e4, hlen, k1, k2, k3, k4]
  rw [loop_use T (fun i => ⟨[(0, na), (1, nb), (5, .hs 1 0 0 n n), (6, .u 64 (c i)), (7, .i (i : Int))], [some (us 32 (tb n fun j => if j < i then s j else 0))]⟩) n
    (.exit 0, ⟨[(5, .hs 1 0 0 n n)], [some (us 32 (dl 32 n (a - b)))]⟩) ?h0 (by simp) ?hs ?hn]
  · have hab' : a - b < 2 ^ (32 * n) := by omega
    have l1 := r_trimD hab' (by omega)
    have l2 := take_dgD hab'
    have l3 : ((dg (a - b)).length ≤ n) = True := by simp; exact dg_len_le _ _ hab'
    simp only [EE,EX,Nat.reduceLeDiff,Nat.reduceEqDiff,Int.reduceEq,reduceCtorEq,Nat.reduceAdd,Nat.reduceMul,if_true,if_false,decide_true,decide_false, l1, l2, l3]
  · simp only [tb_rep, hc0]; rfl
  · intro i hi
    obtain ⟨w1, w2⟩ := sub_word (hpl i) (hql i) (hcl i)
    have w3 := hlo i hi
    have w4 := hhi i
    have l4 := dga i (by omega)
    have l5 := dgb i (by omega)
    rw [← hp] at l4
    rw [← hq] at l5
    obtain ⟨i1, hi1⟩ : ∃ i1, i1 = i + 1 := ⟨_, rfl⟩
    rw [w4] at w2
    obtain ⟨d, hd⟩ : ∃ d, d = p i + 2 ^ 32 - q i - c i := ⟨_, rfl⟩
    rw [← hd] at w1 w2 w3
    have w5 : (d &&& 4294967295) % 2 ^ 32 = s i := by rw [and32p, w3, Nat.mod_eq_of_lt (by rw [← w3]; exact Nat.mod_lt _ (Nat.two_pow_pos 32))]
    obtain ⟨d1, hd1⟩ : ∃ z, (p i + 4294967296) % 2 ^ 64 = z := ⟨_, rfl⟩
    rw [hd1] at w1
    obtain ⟨d2, hd2⟩ : ∃ z, (d1 + 2 ^ 64 - q i) % 2 ^ 64 = z := ⟨_, rfl⟩
    rw [hd2] at w1
    obtain ⟨d3, hd3⟩ : ∃ z, d / 2 ^ 32 = z := ⟨_, rfl⟩
    rw [hd3] at w2
    have l1 : decide ((i : Int) < (n : Int)) = true := by simp; omega
    have l2 : F (w64 ((i : Int) + 1)) (i1 : Int) := ⟨by unfold w64; omega⟩
    have l3 := ixOf_nat hi
    have l6 : F (min 32 64) 32 := ⟨rfl⟩
    have l7 : (i + 1 ≤ n) = True := by simp; omega
    have l8 := tb_step (n := n) (i := i) s 0
    rw [← hi1] at w2 l8 ⊢
    simp only [EE,EX,Nat.reduceLeDiff,Nat.reduceEqDiff,Int.reduceEq,reduceCtorEq,Nat.reduceAdd,Nat.reduceMul,if_true,if_false,decide_true,decide_false, e1, e2, e3, e4, hlen, k1, l1, l2.eq, l3, l4, l5, l6.eq, l7, l8, hd1, hd2, w1, w2, w5, hd3, nha, nhb]
  · have l1 : decide ((n : Int) < (n : Int)) = false := by simp
    have l2 : tb n (fun j => if j < n then s j else 0) = dl 32 n (a - b) := tb_congr fun j hj => by rw [if_pos hj, hs]
    simp only [EE,EX,Nat.reduceLeDiff,Nat.reduceEqDiff,Int.reduceEq,reduceCtorEq,Nat.reduceAdd,Nat.reduceMul,if_true,if_false,decide_true,decide_false, e1, e2, hlen, k1, l1, l2]

theorem r_refCmp {a b : Nat} (ha : Fit a) (hb : Fit b) : Run T f_curvetref1_Cmp [num a, num b] [] = some (.i (cmpI a b), []) := by
  rw [Run_at T _ (show T f_curvetref1_Cmp = some m_curvetref1_Cmp from rfl)]
  simp only [c_curvetref1_Cmp]
  have hLa := dg_len_lt a
  have hLb := dg_len_lt b
  obtain ⟨n, hn⟩ : ∃ n, n = (dg a).length := ⟨_, rfl⟩
  obtain ⟨m, hm⟩ : ∃ n, n = (dg b).length := ⟨_, rfl⟩
  have hn9 : n < 1000000000 := by rw [hn]; exact ha
  have hm9 : m < 1000000000 := by rw [hm]; exact hb
  have h1 : m < n → b < a := fun h => by
    have ha0 : a ≠ 0 := fun h0 => by rw [h0, dg_zero] at hn; simp at hn; omega
    have := dg_ge ha0
    rw [← hm] at hLb
    rw [← hn] at this
    exact Nat.lt_of_lt_of_le hLb (Nat.le_trans (Nat.pow_le_pow_right (by omega) (by omega)) this)
  have h2 : n < m → a < b := fun h => by
    have hb0 : b ≠ 0 := fun h0 => by rw [h0, dg_zero] at hm; simp at hm; omega
    have := dg_ge hb0
    rw [← hn] at hLa
    rw [← hm] at this
    exact Nat.lt_of_lt_of_le hLa (Nat.le_trans (Nat.pow_le_pow_right (by omega) (by omega)) this)
  rw [← hn] at hLa
  rw [← hm] at hLb
  obtain ⟨p, hp⟩ : ∃ p : Nat → Nat, ∀ i, p i = a / 2 ^ (32 * i) % 2 ^ 32 := ⟨_, fun _ => rfl⟩
  obtain ⟨q, hq⟩ : ∃ q : Nat → Nat, ∀ i, q i = b / 2 ^ (32 * i) % 2 ^ 32 := ⟨_, fun _ => rfl⟩
  have pa : ∀ i, i < n → part (us 32 (dg a)) i none = some (.u 32 (p i)) := fun i hi => by rw [hp]; exact dg_part (by omega)
  have pb : ∀ i, i < m → part (us 32 (dg b)) i none = some (.u 32 (q i)) := fun i hi => by rw [hq]; exact dg_part (by omega)
  have k1 : decide (n < 9223372036854775808) = true := by simp; omega
  have k2 : decide (m < 9223372036854775808) = true := by simp; omega
  simp only [num, ← hn, ← hm]
  by_cases hnm : n = m
  · subst hnm
    have k3 : decide ((n : Int) = (n : Int)) = true := by simp
    obtain ⟨e, he⟩ : ∃ e : Nat → Int, ∀ i, e i = (n : Int) - 1 - (i : Int) := ⟨_, fun _ => rfl⟩
    have k4 : F (w64 ((n : Int) - 1)) (e 0) := ⟨by rw [he]; unfold w64; omega⟩
    have round : ∀ i, i < n → p (n - 1 - i) = q (n - 1 - i) → decide ((0 : Int) ≤ e i) = true ∧ ixOf n (.i (e i)) = some (n - 1 - i) ∧ F (w64 (e i - 1)) (e (i + 1)) ∧ decide (p (n - 1 - i) = q (n - 1 - i)) = true := by
      intro i hi h
      have e1 : e i = ((n - 1 - i : Nat) : Int) := by rw [he]; omega
      refine ⟨by rw [e1]; simp, by rw [e1]; exact ixOf_nat (by omega), ⟨?_⟩, by rw [h]; simp⟩
      rw [he, he]; unfold w64; omega
    simp only [EE,EX,Nat.reduceLeDiff,Nat.reduceEqDiff,Int.reduceEq,reduceCtorEq,Nat.reduceAdd,Nat.reduceMul,if_true,if_false,decide_true,decide_false, k1, k3, k4.eq]
    by_cases hab : a = b
    · have hpq : ∀ i, p i = q i := fun i => by rw [hp, hq, hab]
      have hc : cmpI a b = 0 := by rw [cmpI, hab]; simp
      rw [loop_use T (fun i => ⟨[(0, .vs n (us 32 (dg a))), (1, .vs n (us 32 (dg b))), (5, .i (e i))], []⟩) n (.exit 0, ⟨[], []⟩) ?h0 (by simp) ?hs ?hn]
      · simp only [EE,EX,Nat.reduceLeDiff,Nat.reduceEqDiff,Int.reduceEq,reduceCtorEq,Nat.reduceAdd,Nat.reduceMul,if_true,if_false,decide_true,decide_false, hc]
      · rfl
      · intro i hi
        obtain ⟨l1, l2, l3, l4⟩ := round i hi (hpq _)
        have l5 := pa (n - 1 - i) (by omega)
        have l6 := pb (n - 1 - i) (by omega)
        obtain ⟨u, hu⟩ : ∃ u, u = n - 1 - i := ⟨_, rfl⟩
        rw [← hu] at l2 l4 l5 l6
        simp only [EE,EX,Nat.reduceLeDiff,Nat.reduceEqDiff,Int.reduceEq,reduceCtorEq,Nat.reduceAdd,Nat.reduceMul,if_true,if_false,decide_true,decide_false, l1, l2, l3.eq, l4, l5, l6]
      · have l1 : decide ((0 : Int) ≤ e n) = false := decide_eq_false (by rw [he]; omega)
        simp only [EE,EX,Nat.reduceLeDiff,Nat.reduceEqDiff,Int.reduceEq,reduceCtorEq,Nat.reduceAdd,Nat.reduceMul,if_true,if_false,decide_true,decide_false, l1]
    · obtain ⟨d, hd, e1, e2⟩ := top_diff 32 n a b hLa hLb hab
      obtain ⟨t1, t2, t3⟩ := top_digits (n := n) e1 e2
      have t1' : ∀ j, d < j → p j = q j := fun j hj => by rw [hp, hq]; exact t1 j hj
      rw [← hp, ← hq] at t2 t3
      have a8 : e (n - 1 - d) = (d : Int) := by rw [he]; omega
      have l1 : decide ((0 : Int) ≤ (d : Int)) = true := by simp
      have l2 := ixOf_nat hd
      have l3 := pa d hd
      have l4 := pb d hd
      rw [loop_use T (fun i => ⟨[(0, .vs n (us 32 (dg a))), (1, .vs n (us 32 (dg b))), (5, .i (e i))], []⟩) (n - 1 - d) (.ret, ⟨[(4, .i (cmpI a b))], []⟩) ?h0b (by simp) ?hsb ?hnb]
      · simp only [EE,EX,Nat.reduceLeDiff,Nat.reduceEqDiff,Int.reduceEq,reduceCtorEq,Nat.reduceAdd,Nat.reduceMul,if_true,if_false,decide_true,decide_false]
      · rfl
      · intro i hi
        obtain ⟨l1, l2, l3, l4⟩ := round i (by omega) (t1' _ (by omega))
        have l5 := pa (n - 1 - i) (by omega)
        have l6 := pb (n - 1 - i) (by omega)
        obtain ⟨u, hu⟩ : ∃ u, u = n - 1 - i := ⟨_, rfl⟩
        rw [← hu] at l2 l4 l5 l6
        simp only [EE,EX,Nat.reduceLeDiff,Nat.reduceEqDiff,Int.reduceEq,reduceCtorEq,Nat.reduceAdd,Nat.reduceMul,if_true,if_false,decide_true,decide_false, l1, l2, l3.eq, l4, l5, l6]
      · by_cases hlt : a < b
        · have hc : cmpI a b = -1 := by rw [cmpI, if_pos hlt]
          have hpq := t2.2 hlt
          have l5 : decide (p d = q d) = false := decide_eq_false (by omega)
          have l6 : decide (p d < q d) = true := decide_eq_true hpq
          simp only [EE,EX,Nat.reduceLeDiff,Nat.reduceEqDiff,Int.reduceEq,reduceCtorEq,Nat.reduceAdd,Nat.reduceMul,if_true,if_false,decide_true,decide_false, a8, l1, l2, l3, l4, l5, l6, hc]
        · have hgt : b < a := by omega
          have hc : cmpI a b = 1 := by rw [cmpI, if_neg hlt, if_pos hgt]
          have hpq := t3.2 hgt
          have l5 : decide (p d = q d) = false := decide_eq_false (by omega)
          have l6 : decide (p d < q d) = false := decide_eq_false (by omega)
          simp only [EE,EX,Nat.reduceLeDiff,Nat.reduceEqDiff,Int.reduceEq,reduceCtorEq,Nat.reduceAdd,Nat.reduceMul,if_true,if_false,decide_true,decide_false, a8, l1, l2, l3, l4, l5, l6, hc]
  · have k3 : decide ((n : Int) = (m : Int)) = false := by simp; omega
    by_cases hlt : n < m
    · have hc : cmpI a b = -1 := by rw [cmpI, if_pos (h2 hlt)]
      have k4 : decide ((n : Int) < (m : Int)) = true := by simp; omega
      simp only [EE,EX,Nat.reduceLeDiff,Nat.reduceEqDiff,Int.reduceEq,reduceCtorEq,Nat.reduceAdd,Nat.reduceMul,if_true,if_false,decide_true,decide_false, k1, k2, k3, k4, hc]
    · have hgt := h1 (by omega)
      have hc : cmpI a b = 1 := by rw [cmpI, if_neg (by omega), if_pos hgt]
      have k4 : decide ((n : Int) < (m : Int)) = false := by simp; omega
      simp only [EE,EX,Nat.reduceLeDiff,Nat.reduceEqDiff,Int.reduceEq,reduceCtorEq,Nat.reduceAdd,Nat.reduceMul,if_true,if_false,decide_true,decide_false, k1, k2, k3, k4, hc]

theorem r_refBit {a i : Nat} (ha : Fit a) (hi : i < 1000000000) : Run T f_curvetref1_Bit [num a, .i (i : Int)] [] = some (.i ((a / 2 ^ i % 2 : Nat) : Int), []) := by
  rw [Run_at T _ (show T f_curvetref1_Bit = some m_curvetref1_Bit from rfl)]
  simp only [c_curvetref1_Bit]
  obtain ⟨q, hq⟩ : ∃ q, q = i / 32 := ⟨_, rfl⟩
  obtain ⟨r, hr⟩ : ∃ r, r = i % 32 := ⟨_, rfl⟩
  have k1 : F (w64 (Int.tdiv (i : Int) 32)) (q : Int) := ⟨by rw [Int.tdiv_eq_ediv_of_nonneg (by omega)]; unfold w64; omega⟩
  have k2 : F (Int.tmod (i : Int) 32) (r : Int) := ⟨by rw [Int.tmod_eq_emod_of_nonneg (by omega)]; omega⟩
  have k3 := r_digit ha q (by omega)
  have k4 : F (min r 64) r := ⟨by omega⟩
  have e : a / 2 ^ (32 * q) % 2 ^ 32 / 2 ^ r &&& 1 = a / 2 ^ i % 2 := by
    have e1 : (2:Nat) ^ 32 = 2 ^ r * (2 * 2 ^ (31 - r)) := by rw [← Nat.pow_succ', ← Nat.pow_add]; congr 1; omega
    rw [Nat.and_one_is_mod, e1, Nat.mod_mul_right_div_self, Nat.mod_mul_right_mod, Nat.div_div_eq_div_mul, ← Nat.pow_add, show 32 * q + r = i by omega]
  obtain ⟨y, hy⟩ : ∃ y, y = a / 2 ^ (32 * q) % 2 ^ 32 := ⟨_, rfl⟩
  rw [← hy] at k3 e
  obtain ⟨z, hz⟩ : ∃ z, z = a / 2 ^ i % 2 := ⟨_, rfl⟩
  rw [← hz] at e ⊢
  have k5 : F (w64 ((z : Nat) : Int)) (z : Int) := ⟨by unfold w64; omega⟩
  simp only [EE,EX,Nat.reduceLeDiff,Nat.reduceEqDiff,Int.reduceEq,reduceCtorEq,Nat.reduceAdd,Nat.reduceMul,if_true,if_false,decide_true,decide_false, k1.eq, k2.eq, k3, k4.eq, e, k5.eq, num_noHp]

end Mir

namespace Mir

/-- One digit shifted in above. -/
theorem shl_word {a i q r : Nat} (hr : r < 32) (U V p uh : Nat) (hU : U = a % 2 ^ (32 * i) * 2 ^ (32 * q + r)) (hV : V = a % 2 ^ (32 * (i + 1)) * 2 ^ (32 * q + r)) (hp : p = a / 2 ^ (32 * i) % 2 ^ 32) (hu : uh = U / 2 ^ (32 * (i + q)) % 2 ^ 32) :
    (∀ j, j < i + q → V / 2 ^ (32 * j) % 2 ^ 32 = U / 2 ^ (32 * j) % 2 ^ 32) ∧ V / 2 ^ (32 * (i + q)) % 2 ^ 32 = (uh ||| p * 2 ^ r % 2 ^ 32) ∧ V / 2 ^ (32 * (i + q + 1)) % 2 ^ 32 = p * 2 ^ r / 2 ^ 32 ∧ p * 2 ^ r < 2 ^ 64 ∧
    (∀ j, i + q < j → U / 2 ^ (32 * j) % 2 ^ 32 = 0) ∧ (∀ j, i + q + 1 < j → V / 2 ^ (32 * j) % 2 ^ 32 = 0) := by
  have hpl : p < 2 ^ 32 := by rw [hp]; exact Nat.mod_lt _ (Nat.two_pow_pos 32)
  have h31 : 2 ^ r ≤ 2 ^ 31 := Nat.pow_le_pow_right (by omega) (by omega)
  have hrp : 0 < 2 ^ r := Nat.two_pow_pos r
  have hUl : U < 2 ^ (32 * (i + q) + r) := by
    rw [hU, show 32 * (i + q) + r = 32 * i + (32 * q + r) by omega, Nat.pow_add 2 (32 * i) (32 * q + r)]
    exact Nat.mul_lt_mul_of_pos_right (Nat.mod_lt _ (Nat.two_pow_pos _)) (Nat.two_pow_pos _)
  have hVl : V < 2 ^ (32 * (i + q + 1) + r) := by
    rw [hV, show 32 * (i + q + 1) + r = 32 * (i + 1) + (32 * q + r) by omega, Nat.pow_add 2 (32 * (i + 1)) (32 * q + r)]
    exact Nat.mul_lt_mul_of_pos_right (Nat.mod_lt _ (Nat.two_pow_pos _)) (Nat.two_pow_pos _)
  have hUV : V = U + 2 ^ (32 * (i + q)) * (p * 2 ^ r) := by
    rw [hV, mod_step 32 a i, Nat.add_mul, ← hU, ← hp]
    congr 1
    rw [show 32 * (i + q) = 32 * i + 32 * q by omega, Nat.pow_add, Nat.pow_add, Nat.mul_assoc, Nat.mul_assoc]
    congr 1
    rw [Nat.mul_left_comm]
  have hB : 0 < 2 ^ (32 * (i + q)) := Nat.two_pow_pos _
  have hdl : U / 2 ^ (32 * (i + q)) < 2 ^ r := by
    rw [Nat.div_lt_iff_lt_mul hB, ← Nat.pow_add, Nat.add_comm]; exact hUl
  have huh : U / 2 ^ (32 * (i + q)) = uh := by rw [hu]; exact (Nat.mod_eq_of_lt (by omega)).symm
  have hm : p * 2 ^ r ≤ (2 ^ 32 - 1) * 2 ^ 31 := Nat.mul_le_mul (by omega) h31
  have e32 : (2:Nat) ^ 32 = 2 ^ r * 2 ^ (32 - r) := by rw [← Nat.pow_add]; congr 1; omega
  have hlow : p * 2 ^ r % 2 ^ 32 = 2 ^ r * (p % 2 ^ (32 - r)) := by
    conv => lhs; rw [e32, Nat.mul_comm p, Nat.mul_mod_mul_left]
  rw [huh] at hdl
  refine ⟨fun j hj => ?_, ?_, ?_, by omega, fun j hj => ?_, fun j hj => ?_⟩
  · have e : 2 ^ (32 * (i + q)) = 2 ^ (32 * j) * (2 ^ 32 * 2 ^ (32 * (i + q - j - 1))) := by
      rw [← Nat.pow_add, ← Nat.pow_add]; congr 1; omega
    rw [hUV, e, Nat.mul_assoc, Nat.mul_assoc, Nat.add_mul_div_left _ _ (Nat.two_pow_pos _), Nat.add_mul_mod_self_left]
  · rw [hUV, Nat.add_mul_div_left _ _ hB, huh, Nat.or_comm, hlow, ← Nat.two_pow_add_eq_or_of_lt hdl, ← hlow]
    have h2 : p * 2 ^ r % 2 ^ 32 + uh < 2 ^ 32 := by
      rw [hlow]
      have h3 : p % 2 ^ (32 - r) < 2 ^ (32 - r) := Nat.mod_lt _ (Nat.two_pow_pos _)
      have h4 : 2 ^ r * (p % 2 ^ (32 - r) + 1) ≤ 2 ^ r * 2 ^ (32 - r) := Nat.mul_le_mul_left _ h3
      rw [← e32, Nat.mul_succ] at h4
      omega
    omega
  · have e : 2 ^ (32 * (i + q + 1)) = 2 ^ (32 * (i + q)) * 2 ^ 32 := by rw [← Nat.pow_add]; congr 1
    rw [hUV, e, ← Nat.div_div_eq_div_mul, Nat.add_mul_div_left _ _ hB, huh]
    have h2 : p * 2 ^ r % 2 ^ 32 + uh < 2 ^ 32 := by
      rw [hlow]
      have h3 : p % 2 ^ (32 - r) < 2 ^ (32 - r) := Nat.mod_lt _ (Nat.two_pow_pos _)
      have h4 : 2 ^ r * (p % 2 ^ (32 - r) + 1) ≤ 2 ^ r * 2 ^ (32 - r) := Nat.mul_le_mul_left _ h3
      rw [← e32, Nat.mul_succ] at h4
      omega
    omega
  · rw [Nat.div_eq_of_lt (Nat.lt_of_lt_of_le hUl (Nat.pow_le_pow_right (by omega) (by omega))), Nat.zero_mod]
  · rw [Nat.div_eq_of_lt (Nat.lt_of_lt_of_le hVl (Nat.pow_le_pow_right (by omega) (by omega))), Nat.zero_mod]

theorem r_refShl {a k : Nat} (ha : Fit a) (hk : k < 1000000000) : Run T f_curvetref1_Shl [num a, .i (k : Int)] [] = some (num (a * 2 ^ k), []) := by
  rw [Run_at T _ (show T f_curvetref1_Shl = some m_curvetref1_Shl from rfl)]
  simp only [c_curvetref1_Shl]
  have hLa := dg_len_lt a
  obtain ⟨n, hn⟩ : ∃ n, n = (dg a).length := ⟨_, rfl⟩
  have hn9 : n < 1000000000 := by rw [hn]; exact ha
  rw [← hn] at hLa
  obtain ⟨q, hq⟩ : ∃ q, q = k / 32 := ⟨_, rfl⟩
  obtain ⟨r, hr⟩ : ∃ r, r = k % 32 := ⟨_, rfl⟩
  have hk' : k = 32 * q + r := by omega
  have hr32 : r < 32 := by omega
  obtain ⟨nq, hnq⟩ : ∃ z, z = n + q := ⟨_, rfl⟩
  obtain ⟨L, hL⟩ : ∃ z, z = n + q + 1 := ⟨_, rfl⟩
  obtain ⟨p, hp⟩ : ∃ p : Nat → Nat, ∀ i, p i = a / 2 ^ (32 * i) % 2 ^ 32 := ⟨_, fun _ => rfl⟩
  obtain ⟨U, hU⟩ : ∃ U : Nat → Nat, ∀ i, U i = a % 2 ^ (32 * i) * 2 ^ (32 * q + r) := ⟨_, fun _ => rfl⟩
  obtain ⟨w, hw⟩ : ∃ w : Nat → Nat → Nat, ∀ i j, w i j = U i / 2 ^ (32 * j) % 2 ^ 32 := ⟨_, fun _ _ => rfl⟩
  have pa : ∀ i, i < n → part (us 32 (dg a)) i none = some (.u 32 (p i)) := fun i hi => by rw [hp]; exact dg_part (by omega)
  have hpl : ∀ i, p i < 2 ^ 32 := fun i => by rw [hp]; exact Nat.mod_lt _ (Nat.two_pow_pos 32)
  have k1 : decide (n < 9223372036854775808) = true := by simp; omega
  have k2 : F (w64 (Int.tdiv (k : Int) 32)) (q : Int) := ⟨by rw [Int.tdiv_eq_ediv_of_nonneg (by omega)]; unfold w64; omega⟩
  have k3 : F (Int.tmod (k : Int) 32) (r : Int) := ⟨by rw [Int.tmod_eq_emod_of_nonneg (by omega)]; omega⟩
  have k4 : F (w64 ((n : Int) + (q : Int))) (nq : Int) := ⟨by unfold w64; omega⟩
  have k5 : F (w64 ((nq : Int) + 1)) (L : Int) := ⟨by unfold w64; omega⟩
  have k6 := ixOf_nat (show L < 140737488355329 by omega)
  have k7 := ixOf_nat (show L < L + 1 by omega)
  have k8 : roomOk L 4 = true := by simp [roomOk]; omega
  have k9 : F (min r 64) r := ⟨by omega⟩
  simp only [num, ← hn]
  simp only [EE,EX,Nat.reduceLeDiff,Nat.reduceEqDiff,Int.reduceEq,reduceCtorEq,Nat.reduceAdd,Nat.reduceMul,if_true,if_false,decide_true,decide_false, k1, k2.eq, k4.eq, k5.eq, k6, k7, k8]
  rw [loop_use T (fun i => ⟨[(0, .vs n (us 32 (dg a))), (1, .i (k : Int)), (5, .hs 1 0 0 L L), (6, .i (i : Int))], [some (us 32 (tb L fun j => w i j))]⟩) n
    (.exit 0, ⟨[(5, .hs 1 0 0 L L)], [some (us 32 (dl 32 L (a * 2 ^ k)))]⟩) ?h0 (by simp) ?hs ?hn]
  · have hS : a * 2 ^ k < 2 ^ (32 * L) := by
      have h1 : a * 2 ^ k < 2 ^ (32 * n) * 2 ^ k := Nat.mul_lt_mul_of_pos_right hLa (Nat.two_pow_pos k)
      rw [← Nat.pow_add] at h1
      exact Nat.lt_of_lt_of_le h1 (Nat.pow_le_pow_right (by omega) (by omega))
    have l1 := r_trimD hS (by omega)
    have l2 := take_dgD hS
    have l3 : ((dg (a * 2 ^ k)).length ≤ L) = True := by simp; exact dg_len_le _ _ hS
    simp only [EE,EX,Nat.reduceLeDiff,Nat.reduceEqDiff,Int.reduceEq,reduceCtorEq,Nat.reduceAdd,Nat.reduceMul,if_true,if_false,decide_true,decide_false, l1, l2, l3]
  · have e1 : List.replicate L 0 = tb L (fun j => w 0 j) := by
      rw [tb_rep]; exact tb_congr fun j hj => by rw [hw, hU]; simp [Nat.mod_one]
    rw [e1]; rfl
  · intro i hi
    obtain ⟨s, hs⟩ : ∃ s, s = i + q := ⟨_, rfl⟩
    obtain ⟨s1, hs1⟩ : ∃ s1, s1 = i + q + 1 := ⟨_, rfl⟩
    obtain ⟨t1, t2, t3, t4, t5, t6⟩ := shl_word (a := a) (i := i) (q := q) hr32 (U i) (U (i + 1)) (p i) (w i s) (hU i) (hU (i + 1)) (hp i) (by rw [hw, hs])
    rw [← hs] at t1 t2 t5
    rw [← hs1] at t3 t6
    have l1 : decide ((i : Int) < (n : Int)) = true := by simp; omega
    have l2 : F (w64 ((i : Int) + 1)) ((i + 1 : Nat) : Int) := ⟨by unfold w64; omega⟩
    have l3 := ixOf_nat hi
    have l4 := pa i hi
    have l5 : p i % 2 ^ 64 = p i := Nat.mod_eq_of_lt (by have := hpl i; omega)
    obtain ⟨y, hy⟩ : ∃ y, y = p i * 2 ^ r := ⟨_, rfl⟩
    rw [← hy] at t2 t3 t4
    have l6 : y % 2 ^ 64 = y := Nat.mod_eq_of_lt t4
    have l7 : F (w64 ((i : Int) + (q : Int))) (s : Int) := ⟨by unfold w64; omega⟩
    have l8 : F (w64 ((s : Int) + 1)) (s1 : Int) := ⟨by unfold w64; omega⟩
    have l9 := ixOf_nat (show s < L by omega)
    have l10 := ixOf_nat (show s1 < L by omega)
    have l11 := part_tb (w := 32) (fun j => w i j) s (show s < L by omega)
    have l12 : (y &&& 4294967295) % 2 ^ 32 = y % 2 ^ 32 := by rw [and32p]; exact Nat.mod_eq_of_lt (Nat.mod_lt _ (Nat.two_pow_pos 32))
    have l13 : (w i s ||| y % 2 ^ 32) = w (i + 1) s := by rw [hw (i + 1), t2]
    have l14 : y / 2 ^ 32 % 2 ^ 32 = w (i + 1) s1 := by
      rw [hw, t3]; exact Nat.mod_eq_of_lt (by omega)
    have l15 : (s + 1 ≤ L) = True := by simp; omega
    have l16 : (s1 + 1 ≤ L) = True := by simp; omega
    have l17 : F (min 32 64) 32 := ⟨rfl⟩
    have l18 : tb L (fun j => if j = s1 then w (i + 1) s1 else if j = s then w (i + 1) s else w i j) = tb L (fun j => w (i + 1) j) := tb_congr fun j hj => by
      by_cases h : j = s1
      · rw [if_pos h, h]
      · rw [if_neg h]
        by_cases h2 : j = s
        · rw [if_pos h2, h2]
        · rw [if_neg h2, hw, hw]
          rcases Nat.lt_or_ge j s with h3 | h3
          · exact (t1 j h3).symm
          · rw [t5 j (by omega), t6 j (by omega)]
    simp only [EE,EX,Nat.reduceLeDiff,Nat.reduceEqDiff,Int.reduceEq,reduceCtorEq,Nat.reduceAdd,Nat.reduceMul,if_true,if_false,decide_true,decide_false, k1, k2.eq, k3.eq, k9.eq, l1, l2.eq, l3, l4, l5, ← hy, l6, l7.eq, l8.eq, l9, l10, l11, l12, l13, l14, l15, l16, l17.eq, l18]
  · have l1 : decide ((n : Int) < (n : Int)) = false := by simp
    have l2 : tb L (fun j => w n j) = dl 32 L (a * 2 ^ k) := tb_congr fun j hj => by rw [hw, hU, Nat.mod_eq_of_lt hLa, ← hk']
    simp only [EE,EX,Nat.reduceLeDiff,Nat.reduceEqDiff,Int.reduceEq,reduceCtorEq,Nat.reduceAdd,Nat.reduceMul,if_true,if_false,decide_true,decide_false, k1, l1, l2]

theorem shr32 {a k q r i j : Nat} (hk : k = 32 * q + r) (hr : r < 32) (hj : j = i + q) : (a / 2 ^ (32 * j) % 2 ^ 32 ||| a / 2 ^ (32 * (i + q + 1)) % 2 ^ 32 * 2 ^ 32 % 2 ^ 64) / 2 ^ r % 2 ^ 32 = a / 2 ^ k / 2 ^ (32 * i) % 2 ^ 32 := by
  subst hj hk
  have hsi : a / 2 ^ (32 * q + r) / 2 ^ (32 * i) % 2 ^ 32 = a / 2 ^ (32 * (i + q)) / 2 ^ r % 2 ^ 32 := by
    rw [Nat.div_div_eq_div_mul, Nat.div_div_eq_div_mul, ← Nat.pow_add, ← Nat.pow_add, show 32 * q + r + 32 * i = 32 * (i + q) + r by omega]
  rw [hsi, show 32 * (i + q + 1) = 32 * (i + q) + 32 by omega, Nat.pow_add 2 (32 * (i + q)) 32, ← Nat.div_div_eq_div_mul]
  generalize a / 2 ^ (32 * (i + q)) = y
  have h3 : y / 2 ^ 32 % 2 ^ 32 * 2 ^ 32 % 2 ^ 64 = 2 ^ 32 * (y / 2 ^ 32 % 2 ^ 32) := by omega
  have h4 : (y % 2 ^ 32 ||| 2 ^ 32 * (y / 2 ^ 32 % 2 ^ 32)) = y % 2 ^ 64 := by
    rw [Nat.or_comm, ← Nat.two_pow_add_eq_or_of_lt (Nat.mod_lt _ (by omega))]; omega
  rw [h3, h4]
  have e64 : (2:Nat) ^ 64 = 2 ^ r * (2 ^ 32 * 2 ^ (32 - r)) := by rw [← Nat.pow_add, ← Nat.pow_add]; congr 1; omega
  rw [e64, Nat.mod_mul_right_div_self, Nat.mod_mul_right_mod]

theorem num_zero : num 0 = .vs 0 [] := by simp only [num, dg_zero]; rfl

theorem r_refShr {a k : Nat} (ha : Fit a) (hk : k < 1000000000) : Run T f_curvetref1_Shr [num a, .i (k : Int)] [] = some (num (a / 2 ^ k), []) := by
  rw [Run_at T _ (show T f_curvetref1_Shr = some m_curvetref1_Shr from rfl)]
  simp only [c_curvetref1_Shr]
  have hLa := dg_len_lt a
  obtain ⟨n, hn⟩ : ∃ n, n = (dg a).length := ⟨_, rfl⟩
  have hn9 : n < 1000000000 := by rw [hn]; exact ha
  rw [← hn] at hLa
  obtain ⟨q, hq⟩ : ∃ q, q = k / 32 := ⟨_, rfl⟩
  obtain ⟨r, hr⟩ : ∃ r, r = k % 32 := ⟨_, rfl⟩
  have hk' : k = 32 * q + r := by omega
  have k1 : decide (n < 9223372036854775808) = true := by simp; omega
  have k2 : F (w64 (Int.tdiv (k : Int) 32)) (q : Int) := ⟨by rw [Int.tdiv_eq_ediv_of_nonneg (by omega)]; unfold w64; omega⟩
  have k3 : F (Int.tmod (k : Int) 32) (r : Int) := ⟨by rw [Int.tmod_eq_emod_of_nonneg (by omega)]; omega⟩
  have dga := fun i h => r_digit ha i h
  have nha := num_noHp a 6
  obtain ⟨na, hna⟩ : ∃ v, v = num a := ⟨_, rfl⟩
  have hlen : lenV na = some n := by rw [hna, hn]; rfl
  have e1 : evV na = na := by rw [hna]; rfl
  have e3 : san na = na := by rw [hna]; rfl
  rw [← hna] at dga nha ⊢
  by_cases hqn : n ≤ q
  · have k4 : decide ((n : Int) ≤ (q : Int)) = true := by simp; omega
    have hz : a / 2 ^ k = 0 := Nat.div_eq_of_lt (Nat.lt_of_lt_of_le hLa (Nat.pow_le_pow_right (by omega) (by omega)))
    have hv : ∀ (H : Heap), fzV false H 0 6 (.vs 0 []) = some (.vs 0 []) := fun H => GG false H 0 5 0 32 []
    rw [hz, num_zero]
    simp only [EE,EX,Nat.reduceLeDiff,Nat.reduceEqDiff,Int.reduceEq,reduceCtorEq,Nat.reduceAdd,Nat.reduceMul,if_true,if_false,decide_true,decide_false, e1, e3, hlen, k1, k2.eq, k4, hv]
  · have k4 : decide ((n : Int) ≤ (q : Int)) = false := by simp; omega
    obtain ⟨L, hL⟩ : ∃ z, z = n - q := ⟨_, rfl⟩
    have k5 : F (w64 ((n : Int) - (q : Int))) (L : Int) := ⟨by unfold w64; omega⟩
    have k6 := ixOf_nat (show L < 140737488355329 by omega)
    have k7 := ixOf_nat (show L < L + 1 by omega)
    have k8 : roomOk L 4 = true := by simp [roomOk]; omega
    have k9 : F (min r 64) r := ⟨by omega⟩
    have k10 : decide (L < 9223372036854775808) = true := by simp; omega
    obtain ⟨s, hs⟩ : ∃ s : Nat → Nat, ∀ i, s i = a / 2 ^ k / 2 ^ (32 * i) % 2 ^ 32 := ⟨_, fun _ => rfl⟩
    simp only [EE,EX,Nat.reduceLeDiff,Nat.reduceEqDiff,Int.reduceEq,reduceCtorEq,Nat.reduceAdd,Nat.reduceMul,if_true,if_false,decide_true,decide_false, e1, e3, hlen, k1, k2.eq, k4, k5.eq, k6, k7, k8]
    rw [loop_use T (fun i => ⟨[(0, na), (1, .i (k : Int)), (5, .hs 1 0 0 L L), (6, .i (i : Int))], [some (us 32 (tb L fun j => if j < i then s j else 0))]⟩) L
      (.exit 0, ⟨[(5, .hs 1 0 0 L L)], [some (us 32 (dl 32 L (a / 2 ^ k)))]⟩) ?h0 (by simp) ?hs ?hn]
    · have hS : a / 2 ^ k < 2 ^ (32 * L) := by
        rw [Nat.div_lt_iff_lt_mul (Nat.two_pow_pos k), ← Nat.pow_add]
        exact Nat.lt_of_lt_of_le hLa (Nat.pow_le_pow_right (by omega) (by omega))
      have l1 := r_trimD hS (by omega)
      have l2 := take_dgD hS
      have l3 : ((dg (a / 2 ^ k)).length ≤ L) = True := by simp; exact dg_len_le _ _ hS
      simp only [EE,EX,Nat.reduceLeDiff,Nat.reduceEqDiff,Int.reduceEq,reduceCtorEq,Nat.reduceAdd,Nat.reduceMul,if_true,if_false,decide_true,decide_false, l1, l2, l3]
    · simp only [tb_rep]; rfl
    · intro i hi
      obtain ⟨j, hj⟩ : ∃ s, s = i + q := ⟨_, rfl⟩
      obtain ⟨j1, hj1⟩ : ∃ s1, s1 = i + q + 1 := ⟨_, rfl⟩
      have l1 : decide ((i : Int) < (L : Int)) = true := by simp; omega
      have l2 : F (w64 ((i : Int) + 1)) ((i + 1 : Nat) : Int) := ⟨by unfold w64; omega⟩
      have l3 : F (w64 ((i : Int) + (q : Int))) (j : Int) := ⟨by unfold w64; omega⟩
      have l4 : F (w64 ((j : Int) + 1)) (j1 : Int) := ⟨by unfold w64; omega⟩
      have l5 := dga j (by omega)
      have l6 := dga j1 (by omega)
      have l7 := ixOf_nat hi
      have l8 : (i + 1 ≤ L) = True := by simp; omega
      have l9 := tb_step (n := L) (i := i) s 0
      have l10 : (a / 2 ^ (32 * j) % 2 ^ 32 ||| a / 2 ^ (32 * j1) % 2 ^ 32 * 2 ^ 32 % 2 ^ 64) / 2 ^ r % 2 ^ 32 = s i := by
        rw [hs, hj1]
        exact shr32 hk' (by omega) hj
      obtain ⟨x1, hx1⟩ : ∃ x, a / 2 ^ (32 * j) % 2 ^ 32 = x := ⟨_, rfl⟩
      obtain ⟨x2, hx2⟩ : ∃ x, a / 2 ^ (32 * j1) % 2 ^ 32 = x := ⟨_, rfl⟩
      rw [hx1] at l5 l10
      rw [hx2] at l6 l10
      obtain ⟨x3, hx3⟩ : ∃ x, (x1 ||| x2 * 2 ^ 32 % 2 ^ 64) = x := ⟨_, rfl⟩
      rw [hx3] at l10
      obtain ⟨x4, hx4⟩ : ∃ x, x3 / 2 ^ r = x := ⟨_, rfl⟩
      rw [hx4] at l10
      have l11 : (x4 &&& 4294967295) % 2 ^ 32 = s i := by rw [and32p, l10]; exact Nat.mod_eq_of_lt (by rw [← l10]; exact Nat.mod_lt _ (Nat.two_pow_pos 32))
      have l12 : F (min 32 64) 32 := ⟨rfl⟩
      simp only [EE,EX,Nat.reduceLeDiff,Nat.reduceEqDiff,Int.reduceEq,reduceCtorEq,Nat.reduceAdd,Nat.reduceMul,if_true,if_false,decide_true,decide_false, e1, e3, k1, k2.eq, k3.eq, k9.eq, k10, l1, l2.eq, l3.eq, l4.eq, l5, l6, l7, l8, l9, hx3, hx4, l11, l12.eq, nha]
    · have l1 : decide ((L : Int) < (L : Int)) = false := by simp
      have l2 : tb L (fun j => if j < L then s j else 0) = dl 32 L (a / 2 ^ k) := tb_congr fun j hj => by rw [if_pos hj, hs]
      simp only [EE,EX,Nat.reduceLeDiff,Nat.reduceEqDiff,Int.reduceEq,reduceCtorEq,Nat.reduceAdd,Nat.reduceMul,if_true,if_false,decide_true,decide_false, k10, l1, l2]

end Mir

namespace Mir

theorem mul_fit {p q u c : Nat} (hp : p < 2 ^ 32) (hq : q < 2 ^ 32) (hu : u < 2 ^ 32) (hc : c < 2 ^ 32) : p * q < 2 ^ 64 ∧ p * q + u < 2 ^ 64 ∧ p * q + u + c < 2 ^ 64 := by
  have : p * q ≤ 4294967295 * 4294967295 := Nat.mul_le_mul (by omega) (by omega)
  omega

theorem r_refMul {x y : Nat} (hx : Fit x) (hy : Fit y) : Run T f_curvetref1_Mul [num x, num y] [] = some (num (x * y), []) := by
  rw [Run_at T _ (show T f_curvetref1_Mul = some m_curvetref1_Mul from rfl)]
  simp only [c_curvetref1_Mul]
  obtain ⟨m, hm⟩ : ∃ m, m = (dg x).length := ⟨_, rfl⟩
  obtain ⟨n, hn⟩ : ∃ n, n = (dg y).length := ⟨_, rfl⟩
  have hm9 : m < 1000000000 := by rw [hm]; exact hx
  have hn9 : n < 1000000000 := by rw [hn]; exact hy
  have hyn : y < 2 ^ (32 * n) := by rw [hn]; exact dg_len_lt y
  have hxm : x < 2 ^ (32 * m) := by rw [hm]; exact dg_len_lt x
  obtain ⟨L, hL⟩ : ∃ L, L = m + n := ⟨_, rfl⟩
  obtain ⟨p, hp⟩ : ∃ p : Nat → Nat, ∀ i, p i = x / 2 ^ (32 * i) % 2 ^ 32 := ⟨_, fun _ => rfl⟩
  obtain ⟨q, hq⟩ : ∃ q : Nat → Nat, ∀ i, q i = y / 2 ^ (32 * i) % 2 ^ 32 := ⟨_, fun _ => rfl⟩
  obtain ⟨U, hU⟩ : ∃ U : Nat → Nat → Nat, ∀ i j, U i j = mU 32 x y i / 2 ^ (32 * j) % 2 ^ 32 := ⟨_, fun _ _ => rfl⟩
  obtain ⟨W, hW⟩ : ∃ W : Nat → Nat → Nat → Nat, ∀ i k j, W i k j = mT 32 x y i k / 2 ^ (32 * j) % 2 ^ 32 := ⟨_, fun _ _ _ => rfl⟩
  obtain ⟨c, hc⟩ : ∃ c : Nat → Nat → Nat, ∀ i k, c i k = mC 32 x y i k := ⟨_, fun _ _ => rfl⟩
  have pa : ∀ i, i < m → part (us 32 (dg x)) i none = some (.u 32 (p i)) := fun i hi => by rw [hp]; exact dg_part (by omega)
  have pb : ∀ i, i < n → part (us 32 (dg y)) i none = some (.u 32 (q i)) := fun i hi => by rw [hq]; exact dg_part (by omega)
  have hpl : ∀ i, p i < 2 ^ 32 := fun i => by rw [hp]; exact Nat.mod_lt _ (Nat.two_pow_pos 32)
  have hql : ∀ i, q i < 2 ^ 32 := fun i => by rw [hq]; exact Nat.mod_lt _ (Nat.two_pow_pos 32)
  have hUl : ∀ i j, U i j < 2 ^ 32 := fun i j => by rw [hU]; exact Nat.mod_lt _ (Nat.two_pow_pos 32)
  have hWl : ∀ i k j, W i k j < 2 ^ 32 := fun i k j => by rw [hW]; exact Nat.mod_lt _ (Nat.two_pow_pos 32)
  have hcl : ∀ i k, c i k < 2 ^ 32 := fun i k => by rw [hc]; exact mC_lt 32 x y i k
  have k1 : decide (m < 9223372036854775808) = true := by simp; omega
  have k2 : decide (n < 9223372036854775808) = true := by simp; omega
  have k3 : F (w64 ((m : Int) + (n : Int))) (L : Int) := ⟨by unfold w64; omega⟩
  have k6 := ixOf_nat (show L < 140737488355329 by omega)
  have k7 := ixOf_nat (show L < L + 1 by omega)
  have k8 : roomOk L 4 = true := by simp [roomOk]; omega
  have k9 : F (min 32 64) 32 := ⟨rfl⟩
  simp only [num, ← hm, ← hn]
  simp only [EE,EX,Nat.reduceLeDiff,Nat.reduceEqDiff,Int.reduceEq,reduceCtorEq,Nat.reduceAdd,Nat.reduceMul,if_true,if_false,decide_true,decide_false, k1, k2, k3.eq, k6, k7, k8]
  rw [loop_use T (fun i => ⟨[(0, .vs m (us 32 (dg x))), (1, .vs n (us 32 (dg y))), (5, .hs 1 0 0 L L), (6, .i (i : Int))], [some (us 32 (tb L fun j => U i j))]⟩) m
    (.exit 0, ⟨[(5, .hs 1 0 0 L L)], [some (us 32 (dl 32 L (x * y)))]⟩) ?h0 (by simp) ?hs ?hn]
  · have hS : x * y < 2 ^ (32 * L) := by
      rw [hL, Nat.mul_add, Nat.pow_add]
      exact Nat.mul_lt_mul'' hxm hyn
    have l1 := r_trimD hS (by omega)
    have l2 := take_dgD hS
    have l3 : ((dg (x * y)).length ≤ L) = True := by simp; exact dg_len_le _ _ hS
    simp only [EE,EX,Nat.reduceLeDiff,Nat.reduceEqDiff,Int.reduceEq,reduceCtorEq,Nat.reduceAdd,Nat.reduceMul,if_true,if_false,decide_true,decide_false, l1, l2, l3]
  · have e1 : List.replicate L 0 = tb L (fun j => U 0 j) := by
      rw [tb_rep]; exact tb_congr fun j hj => by rw [hU, mU]; simp [Nat.mod_one]
    rw [e1]; rfl
  · intro i hi
    have l1 : decide ((i : Int) < (m : Int)) = true := by simp; omega
    obtain ⟨i1, hi1⟩ : ∃ i1, i1 = i + 1 := ⟨_, rfl⟩
    have l2 : F (w64 ((i : Int) + 1)) (i1 : Int) := ⟨by unfold w64; omega⟩
    have l3 := ixOf_nat hi
    have l4 := pa i hi
    have l5 : p i % 2 ^ 64 = p i := Nat.mod_eq_of_lt (by have := hpl i; omega)
    have hin : i + n < L := by omega
    simp only [EE,EX,Nat.reduceLeDiff,Nat.reduceEqDiff,Int.reduceEq,reduceCtorEq,Nat.reduceAdd,Nat.reduceMul,if_true,if_false,decide_true,decide_false, k1, l1]
    rw [loop_use T (fun k => ⟨[(0, .vs m (us 32 (dg x))), (1, .vs n (us 32 (dg y))), (5, .hs 1 0 0 L L), (6, .i (i : Int)), (7, .u 64 (c i k)), (8, .i (k : Int))], [some (us 32 (tb L fun j => if j < i + k then W i k j else U i j))]⟩) n
      (.exit 2, ⟨[(0, .vs m (us 32 (dg x))), (1, .vs n (us 32 (dg y))), (5, .hs 1 0 0 L L), (6, .i (i : Int)), (7, .u 64 (c i n))], [some (us 32 (tb L fun j => if j < i + n then W i n j else U i j))]⟩) ?g0 (by simp) ?gs ?gn]
    · obtain ⟨s, hs⟩ : ∃ s, s = i + n := ⟨_, rfl⟩
      have r3 : F (w64 ((i : Int) + (n : Int))) (s : Int) := ⟨by rw [hs]; unfold w64; omega⟩
      have r4 := ixOf_nat (show s < L by omega)
      have r5 : (s + 1 ≤ L) = True := by simp; omega
      have r6 : tb L (fun j => if j = s then c i n else if j < s then W i n j else U i j) = tb L (fun j => U i1 j) := tb_congr fun j hj => by
        obtain ⟨e1, e2⟩ := mC_end 32 x y i n hyn
        by_cases h : j = s
        · rw [if_pos h, hc, hU, hi1, h, hs]; exact e2
        · rw [if_neg h]
          by_cases h2 : j < s
          · rw [if_pos h2, hW, hU, mU_succ 32 x y i n hyn, hi1]
          · rw [if_neg h2, hU, hU, word_zero (mU_lt 32 x y i n hyn) (by omega), word_zero (mU_lt 32 x y i1 n hyn) (by omega)]
      have r7 : c i n % 2 ^ 32 = c i n := Nat.mod_eq_of_lt (hcl i n)
      rw [← hs, ← hi1]
      simp only [EE,EX,Nat.reduceLeDiff,Nat.reduceEqDiff,Int.reduceEq,reduceCtorEq,Nat.reduceAdd,Nat.reduceMul,if_true,if_false,decide_true,decide_false, k2, l2.eq, r3.eq, r4, r5, r6, r7]
    · have e1 : tb L (fun j => U i j) = tb L (fun j => if j < i + 0 then W i 0 j else U i j) := tb_congr fun j hj => by
        by_cases h : j < i + 0
        · rw [if_pos h, hU, hW, mT, Nat.mul_zero, Nat.pow_zero, Nat.mod_one, Nat.mul_zero, Nat.zero_mul, Nat.add_zero]
        · rw [if_neg h]
      have e2 : c i 0 = 0 := by rw [hc, mC_zero]
      rw [e1]; simp only [e2]; rfl
    · intro k hk
      obtain ⟨s, hs⟩ : ∃ s, s = i + k := ⟨_, rfl⟩
      obtain ⟨s1, hs1⟩ : ∃ s1, s1 = i + (k + 1) := ⟨_, rfl⟩
      obtain ⟨k', hk'⟩ : ∃ k', k' = k + 1 := ⟨_, rfl⟩
      have hsL : s < L := by omega
      have r1 : decide ((k : Int) < (n : Int)) = true := by simp; omega
      have r3 := ixOf_nat hk
      have r4 := pb k hk
      have r5 : q k % 2 ^ 64 = q k := Nat.mod_eq_of_lt (by have := hql k; omega)
      have r7 : F (w64 ((i : Int) + (k : Int))) (s : Int) := ⟨by rw [hs]; unfold w64; omega⟩
      have r8 := ixOf_nat hsL
      have r9 := part_tb (w := 32) (fun j => if j < s then W i k j else U i j) s hsL
      rw [if_neg (Nat.lt_irrefl s)] at r9
      have r10 : F (w64 ((k : Int) + 1)) (k' : Int) := ⟨by rw [hk']; unfold w64; omega⟩
      have r11 : (s + 1 ≤ L) = True := by simp; omega
      have r6 : U i s % 2 ^ 64 = U i s := Nat.mod_eq_of_lt (by have := hUl i s; omega)
      obtain ⟨m1, m2, m3⟩ := mul_fit (hpl i) (hql k) (hUl i s) (hcl i k)
      have w3 : (c i k + U i s + p i * q k) % 2 ^ 32 = W i k' s := by rw [hc, hU, hp, hq, hW, hs, hk']; exact mT_word 32 x y i k
      have w4 : (c i k + U i s + p i * q k) / 2 ^ 32 = c i k' := by rw [hc, hU, hp, hq, hc, hs, hk']; exact mC_step 32 x y i k
      have e1 : c i k + U i s + p i * q k = p i * q k + U i s + c i k := by omega
      rw [e1] at w3 w4
      have l12 : tb L (fun j => if j = s then W i k' s else if j < s then W i k j else U i j) = tb L (fun j => if j < s1 then W i k' j else U i j) := tb_congr fun j hj => by
        by_cases h : j = s
        · rw [if_pos h, if_pos (by omega), h]
        · rw [if_neg h]
          by_cases h2 : j < s
          · rw [if_pos h2, if_pos (by omega), hW, hW, hk', mT_low 32 x y i k j (by omega)]
          · rw [if_neg h2, if_neg (by omega)]
      have m1' := Nat.mod_eq_of_lt m1
      have m2' := Nat.mod_eq_of_lt m2
      have m3' := Nat.mod_eq_of_lt m3
      obtain ⟨a1, ha1⟩ : ∃ z, z = p i * q k := ⟨_, rfl⟩
      rw [← ha1] at m1' m2' m3' w3 w4
      obtain ⟨a2, ha2⟩ : ∃ z, z = a1 + U i s := ⟨_, rfl⟩
      rw [← ha2] at m2' m3' w3 w4
      obtain ⟨a3, ha3⟩ : ∃ z, z = a2 + c i k := ⟨_, rfl⟩
      rw [← ha3] at m3' w3 w4
      have w5 : (a3 &&& 4294967295) % 2 ^ 32 = W i k' s := by rw [and32p, w3]; exact Nat.mod_eq_of_lt (hWl i k' s)
      rw [← hs, ← hs1, ← hk']
      simp only [EE,EX,Nat.reduceLeDiff,Nat.reduceEqDiff,Int.reduceEq,reduceCtorEq,Nat.reduceAdd,Nat.reduceMul,if_true,if_false,decide_true,decide_false, k2, l3, l4, l5, r1, r3, r4, r5, r6, r7.eq, r8, r9, r10.eq, r11, l12, ← ha1, m1', ← ha2, m2', ← ha3, m3', w4, w5, k9.eq]
    · have r1 : decide ((n : Int) < (n : Int)) = false := by simp
      simp only [EE,EX,Nat.reduceLeDiff,Nat.reduceEqDiff,Int.reduceEq,reduceCtorEq,Nat.reduceAdd,Nat.reduceMul,if_true,if_false,decide_true,decide_false, k2, r1]
  · have l1 : decide ((m : Int) < (m : Int)) = false := by simp
    have l2 : tb L (fun j => U m j) = dl 32 L (x * y) := tb_congr fun j hj => by rw [hU, mU, Nat.mod_eq_of_lt hxm]
    simp only [EE,EX,Nat.reduceLeDiff,Nat.reduceEqDiff,Int.reduceEq,reduceCtorEq,Nat.reduceAdd,Nat.reduceMul,if_true,if_false,decide_true,decide_false, k1, l1, l2]

theorem r_refWide {x : Nat} (hx : Fit x) : Run T f_curvetref1_Wide [num x] [] = some (widev x, []) := by
  rw [Run_at T _ (show T f_curvetref1_Wide = some m_curvetref1_Wide from rfl)]
  simp only [c_curvetref1_Wide, zero18]
  simp only [EE,EX,Nat.reduceLeDiff,Nat.reduceEqDiff,Int.reduceEq,reduceCtorEq,Nat.reduceAdd,Nat.reduceMul,if_true,if_false,decide_true,decide_false]
  obtain ⟨s, hs⟩ : ∃ s : Nat → Nat, ∀ j, s j = x / 2 ^ (64 * j) % 2 ^ 64 := ⟨_, fun _ => rfl⟩
  rw [loop_use T (fun i => ⟨[(0, num x), (2, .loc (us 64 (dl 64 18 0))), (3, .loc (us 64 (tb 18 fun j => if j < i then s j else 0))), (4, .i (i : Int))], []⟩) 18
    (.exit 0, ⟨[(2, .loc (us 64 (dl 64 18 0))), (3, .loc (us 64 (dl 64 18 x)))], []⟩) ?h0 (by simp) ?hs ?hn]
  · simp only [EE,EX,Nat.reduceLeDiff,Nat.reduceEqDiff,Int.reduceEq,reduceCtorEq,Nat.reduceAdd,Nat.reduceMul,if_true,if_false,decide_true,decide_false]
  · have : dl 64 18 0 = tb 18 (fun j => if j < 0 then s j else 0) := tb_congr fun j hj => by
      rw [if_neg (by omega), Nat.zero_div, Nat.zero_mod]
    rw [← this]; rfl
  · intro i hi
    obtain ⟨i2, hi2⟩ : ∃ a, a = 2 * i := ⟨_, rfl⟩
    obtain ⟨i3, hi3⟩ : ∃ a, a = 2 * i + 1 := ⟨_, rfl⟩
    have g1 : decide ((i : Int) < 18) = true := by simp; omega
    have g2 : F (w64 (2 * (i : Int))) (i2 : Int) := ⟨by unfold w64; omega⟩
    have g3 : F (w64 ((i2 : Int) + 1)) (i3 : Int) := ⟨by unfold w64; omega⟩
    have g4 : F (w64 ((i : Int) + 1)) ((i + 1 : Nat) : Int) := ⟨by unfold w64; omega⟩
    have g5 := ixOf_nat (show i < 18 by omega)
    have g6 := r_digit hx i2 (by omega)
    have g7 := r_digit hx i3 (by omega)
    have g8 : F (min 32 64) 32 := ⟨rfl⟩
    have g9 : (i + 1 ≤ 18) = True := by simp; omega
    have g10 := tb_step (n := 18) (i := i) s 0
    have g11 := join32 x i
    rw [← hi3, ← hi2, ← hs] at g11
    obtain ⟨a, ha⟩ : ∃ a, x / 2 ^ (32 * i2) % 2 ^ 32 = a := ⟨_, rfl⟩
    obtain ⟨b, hb⟩ : ∃ a, x / 2 ^ (32 * i3) % 2 ^ 32 = a := ⟨_, rfl⟩
    rw [ha] at g6 g11
    rw [hb] at g7 g11
    simp only [EE,EX,Nat.reduceLeDiff,Nat.reduceEqDiff,Int.reduceEq,reduceCtorEq,Nat.reduceAdd,Nat.reduceMul,if_true,if_false,decide_true,decide_false, g1, g2.eq, g3.eq, g4.eq, g5, g6, g7, g8.eq, g9, g10, g11, num_noHp]
  · have g1 : decide (((18 : Nat) : Int) < 18) = false := by simp
    have g2 : tb 18 (fun j => if j < 18 then s j else 0) = dl 64 18 x := tb_congr fun j hj => by rw [if_pos hj, hs]
    simp only [EE,EX,Nat.reduceLeDiff,Nat.reduceEqDiff,Int.reduceEq,reduceCtorEq,Nat.reduceAdd,Nat.reduceMul,if_true,if_false,decide_true,decide_false, g1, g2]

end Mir

namespace Mir

theorem byte_of32 {x q r : Nat} (hr : r + 8 ≤ 32) : x / 2 ^ (32 * q) % 2 ^ 32 / 2 ^ r % 2 ^ 8 = x / 2 ^ (32 * q + r) % 2 ^ 8 := by
  have e : (2:Nat) ^ 32 = 2 ^ r * (2 ^ 8 * 2 ^ (24 - r)) := by rw [← Nat.pow_add, ← Nat.pow_add]; congr 1; omega
  rw [e, Nat.mod_mul_right_div_self, Nat.mod_mul_right_mod, Nat.div_div_eq_div_mul, ← Nat.pow_add]
theorem div_skip {C z t K : Nat} (hC : 0 < C) (ht : t < C) : (C * z + t) / (C * K) = C * z / (C * K) := by
  rw [← Nat.div_div_eq_div_mul, ← Nat.div_div_eq_div_mul, Nat.mul_add_div hC, Nat.div_eq_of_lt ht, Nat.add_zero, Nat.mul_div_cancel_left _ hC]

theorem r_refBytes_no {x : Nat} {n : Int} (hx : Fit x) (h : n < 0 ∨ 72 < n ∨ 8 * n < ((bl x : Nat) : Int)) : Run T f_curvetref1_Bytes [num x, .i n] [] = some (.tup [.s [], .b false], []) := by
  rw [Run_at T _ (show T f_curvetref1_Bytes = some m_curvetref1_Bytes from rfl)]
  simp only [c_curvetref1_Bytes]
  have c1 := r_Bits hx
  by_cases h1 : n < 0
  · have k1 : decide (n < 0) = true := decide_eq_true h1
    simp only [EE,EX,Nat.reduceLeDiff,Nat.reduceEqDiff,Int.reduceEq,reduceCtorEq,Nat.reduceAdd,Nat.reduceMul,if_true,if_false,decide_true,decide_false, k1]
  · have k1 : decide (n < 0) = false := decide_eq_false h1
    by_cases h2 : 72 < n
    · have k2 : decide (72 < n) = true := decide_eq_true h2
      simp only [EE,EX,Nat.reduceLeDiff,Nat.reduceEqDiff,Int.reduceEq,reduceCtorEq,Nat.reduceAdd,Nat.reduceMul,if_true,if_false,decide_true,decide_false, k1, k2]
    · have k2 : decide (72 < n) = false := decide_eq_false h2
      obtain ⟨m, hm⟩ : ∃ m, m = 8 * n := ⟨_, rfl⟩
      have k3 : F (w64 (8 * n)) m := ⟨by rw [hm]; unfold w64; omega⟩
      have k4 : decide (m < ((bl x : Nat) : Int)) = true := decide_eq_true (by omega)
      simp only [EE,EX,Nat.reduceLeDiff,Nat.reduceEqDiff,Int.reduceEq,reduceCtorEq,Nat.reduceAdd,Nat.reduceMul,if_true,if_false,decide_true,decide_false, c1, k1, k2, k3.eq, k4, num_noHp]

theorem r_refBytes {x n : Nat} (hx : Fit x) (hn : n ≤ 72) (hb : bl x ≤ 8 * n) : Run T f_curvetref1_Bytes [num x, .i (n : Int)] [] = some (.tup [.s (bs n x), .b true], []) := by
  rw [Run_at T _ (show T f_curvetref1_Bytes = some m_curvetref1_Bytes from rfl)]
  simp only [c_curvetref1_Bytes]
  have c1 := r_Bits hx
  have k1 : decide ((n : Int) < 0) = false := by simp
  have k2 : decide (72 < (n : Int)) = false := by simp; omega
  obtain ⟨m, hm⟩ : ∃ m, m = 8 * n := ⟨_, rfl⟩
  have k3 : F (w64 (8 * (n : Int))) (m : Int) := ⟨by rw [hm]; unfold w64; omega⟩
  have k4 : decide ((m : Int) < ((bl x : Nat) : Int)) = false := decide_eq_false (by omega)
  have k5 := ixOf_nat (show n < 140737488355329 by omega)
  have k6 := ixOf_nat (show n < n + 1 by omega)
  have k7 : roomOk n 1 = true := by simp [roomOk]; omega
  obtain ⟨B, hB⟩ : ∃ B : Nat → Nat, ∀ j, B j = x / 2 ^ (8 * (n - 1 - j)) % 2 ^ 8 := ⟨_, fun _ => rfl⟩
  have nha := num_noHp x 6
  have dga := fun i h => r_digit hx i h
  obtain ⟨na, hna⟩ : ∃ v, v = num x := ⟨_, rfl⟩
  have e1 : evV na = na := by rw [hna]; rfl
  have e3 : san na = na := by rw [hna]; rfl
  rw [← hna] at c1 dga nha ⊢
  simp only [EE,EX,Nat.reduceLeDiff,Nat.reduceEqDiff,Int.reduceEq,reduceCtorEq,Nat.reduceAdd,Nat.reduceMul,if_true,if_false,decide_true,decide_false, e1, e3, nha, c1, k1, k2, k3.eq, k4, k5, k6, k7]
  rw [loop_use T (fun i => ⟨[(0, na), (1, .i (n : Int)), (6, .hs 1 0 0 n n), (7, .i (i : Int))], [some (us 8 (tb n fun j => if n ≤ j + i then B j else 0))]⟩) n
    (.exit 0, ⟨[(6, .hs 1 0 0 n n)], [some (us 8 (tb n fun j => if n ≤ j + n then B j else 0))]⟩) ?h0 (by simp) ?hs ?hn]
  · have e1 : tb n (fun j => if n ≤ j + n then B j else 0) = bs n x := tb_congr fun j hj => by rw [if_pos (by omega), hB]
    have e2 : b2sV false [some (us 8 (bs n x))] (.hs 1 0 0 n n) = some (.s (bs n x)) := b2s_hs rfl (bs_len n x)
    simp only [EE,EX,Nat.reduceLeDiff,Nat.reduceEqDiff,Int.reduceEq,reduceCtorEq,Nat.reduceAdd,Nat.reduceMul,if_true,if_false,decide_true,decide_false, e1, e2]
  · have e1 : List.replicate n 0 = tb n (fun j => if n ≤ j + 0 then B j else 0) := by
      rw [tb_rep]; exact tb_congr fun j hj => by rw [if_neg (by omega)]
    rw [e1]; rfl
  · intro i hi
    obtain ⟨q, hq⟩ : ∃ q, q = i / 4 := ⟨_, rfl⟩
    obtain ⟨r, hr⟩ : ∃ r, r = i % 4 := ⟨_, rfl⟩
    obtain ⟨r8, hr8⟩ : ∃ r8, r8 = 8 * r := ⟨_, rfl⟩
    obtain ⟨n1, hn1⟩ : ∃ n1, n1 = n - 1 := ⟨_, rfl⟩
    obtain ⟨j, hj⟩ : ∃ j, j = n - 1 - i := ⟨_, rfl⟩
    have l1 : decide ((i : Int) < (n : Int)) = true := by simp; omega
    have l2 : F (w64 ((n : Int) - 1)) (n1 : Int) := ⟨by unfold w64; omega⟩
    have l3 : F (w64 ((n1 : Int) - (i : Int))) (j : Int) := ⟨by unfold w64; omega⟩
    have l4 : F (w64 (Int.tdiv (i : Int) 4)) (q : Int) := ⟨by rw [Int.tdiv_eq_ediv_of_nonneg (by omega)]; unfold w64; omega⟩
    have l5 : F (Int.tmod (i : Int) 4) (r : Int) := ⟨by rw [Int.tmod_eq_emod_of_nonneg (by omega)]; omega⟩
    have l6 : F (w64 ((r : Int) * 8)) (r8 : Int) := ⟨by rw [hr8]; unfold w64; omega⟩
    have l7 : F (min r8 64) r8 := ⟨by omega⟩
    have l8 := dga q (by omega)
    have l10 : x / 2 ^ (32 * q) % 2 ^ 32 / 2 ^ r8 % 2 ^ 8 = B j := by
      rw [byte_of32 (by omega), hB, show 32 * q + r8 = 8 * (n - 1 - j) by omega]
    obtain ⟨y, hy⟩ : ∃ y, x / 2 ^ (32 * q) % 2 ^ 32 = y := ⟨_, rfl⟩
    rw [hy] at l8 l10
    obtain ⟨z, hz⟩ : ∃ z, y / 2 ^ r8 = z := ⟨_, rfl⟩
    rw [hz] at l10
    have l9 : (z &&& 255) % 2 ^ 8 = B j := by
      have : z &&& 255 = z % 2 ^ 8 := Nat.and_two_pow_sub_one_eq_mod _ 8
      rw [this, l10]; exact Nat.mod_eq_of_lt (by rw [← l10]; exact Nat.mod_lt _ (by omega))
    have l11 := ixOf_nat (show j < n by omega)
    have l12 : (j + 1 ≤ n) = True := by simp; omega
    have l13 : tb n (fun a => if a = j then B j else if n ≤ a + i then B a else 0) = tb n (fun a => if n ≤ a + (i + 1) then B a else 0) := tb_congr fun a ha => by
      by_cases h : a = j
      · rw [if_pos h, if_pos (by omega), h]
      · rw [if_neg h]
        by_cases h2 : n ≤ a + i
        · rw [if_pos h2, if_pos (by omega)]
        · rw [if_neg h2, if_neg (by omega)]
    have l14 : F (w64 ((i : Int) + 1)) ((i + 1 : Nat) : Int) := ⟨by unfold w64; omega⟩
    simp only [EE,EX,Nat.reduceLeDiff,Nat.reduceEqDiff,Int.reduceEq,reduceCtorEq,Nat.reduceAdd,Nat.reduceMul,if_true,if_false,decide_true,decide_false, e1, e3, nha, l1, l2.eq, l3.eq, l4.eq, l5.eq, l6.eq, l7.eq, l8, hz, l9, l11, l12, l13, l14.eq]
  · have l1 : decide ((n : Int) < (n : Int)) = false := by simp
    simp only [EE,EX,Nat.reduceLeDiff,Nat.reduceEqDiff,Int.reduceEq,reduceCtorEq,Nat.reduceAdd,Nat.reduceMul,if_true,if_false,decide_true,decide_false, e1, e3, l1]

theorem vb_byte {n : Nat} {f : Nat → Nat} (hf : ∀ j, j < n → f j < 256) (i : Nat) : ∀ m, m ≤ n → i < m → vb n f m / 2 ^ (8 * i) % 2 ^ 8 = f (n - 1 - i)
  | 0, _, h => absurd h (by omega)
  | m + 1, h, hi => by
    have hB : 0 < 2 ^ (8 * i) := Nat.two_pow_pos _
    by_cases h1 : i = m
    · subst h1
      have h2 := vb_lt hf i (by omega)
      have h3 := hf (n - 1 - i) (by omega)
      rw [vb, Nat.add_mul_div_right _ _ hB, Nat.div_eq_of_lt h2, Nat.zero_add, Nat.mod_eq_of_lt h3]
    · have ih := vb_byte hf i m (by omega) (by omega)
      have e : f (n - 1 - m) * 2 ^ (8 * m) = 2 ^ (8 * i) * (2 ^ 8 * (2 ^ (8 * (m - i - 1)) * f (n - 1 - m))) := by
        have : 2 ^ (8 * m) = 2 ^ (8 * i) * (2 ^ 8 * 2 ^ (8 * (m - i - 1))) := by rw [← Nat.pow_add, ← Nat.pow_add]; congr 1; omega
        rw [this, Nat.mul_comm, Nat.mul_assoc, Nat.mul_assoc]
      rw [vb, e, Nat.add_mul_div_left _ _ hB, Nat.add_mul_mod_self_left, ih]

/-- A byte put in below. -/
theorem or_below {x q r k : Nat} (hk : 8 * k = 32 * q + r) (hr : r ≤ 24) (j : Nat) :
    (x / 2 ^ (8 * k) * 2 ^ (8 * k)) / 2 ^ (32 * j) % 2 ^ 32 = if j = q then ((x / 2 ^ (8 * (k + 1)) * 2 ^ (8 * (k + 1))) / 2 ^ (32 * q) % 2 ^ 32 ||| x / 2 ^ (8 * k) % 2 ^ 8 * 2 ^ r % 2 ^ 32) else (x / 2 ^ (8 * (k + 1)) * 2 ^ (8 * (k + 1))) / 2 ^ (32 * j) % 2 ^ 32 := by
  have hB : 0 < 2 ^ (32 * q) := Nat.two_pow_pos _
  have e1 : 2 ^ (8 * k) = 2 ^ (32 * q) * 2 ^ r := by rw [hk, Nat.pow_add]
  have e2 : 2 ^ (8 * (k + 1)) = 2 ^ (32 * q) * (2 ^ r * 2 ^ 8) := by rw [Nat.mul_succ, hk, ← Nat.pow_add, ← Nat.pow_add]; congr 1
  have e3 : x / 2 ^ (8 * (k + 1)) = x / 2 ^ (8 * k) / 2 ^ 8 := by rw [Nat.mul_succ, Nat.pow_add, Nat.div_div_eq_div_mul]
  have hd : x / 2 ^ (8 * k) % 2 ^ 8 < 2 ^ 8 := Nat.mod_lt _ (by omega)
  have hx := Nat.div_add_mod (x / 2 ^ (8 * k)) (2 ^ 8)
  have h24 : 2 ^ r ≤ 2 ^ 24 := Nat.pow_le_pow_right (by omega) hr
  have hrp : 0 < 2 ^ r := Nat.two_pow_pos r
  have e32 : (2:Nat) ^ 32 = 2 ^ r * 2 ^ 8 * 2 ^ (24 - r) := by rw [← Nat.pow_add, ← Nat.pow_add]; congr 1; omega
  rw [e3]
  generalize x / 2 ^ (8 * k) % 2 ^ 8 = d at *
  generalize x / 2 ^ (8 * k) / 2 ^ 8 = z at *
  generalize x / 2 ^ (8 * k) = y at *
  have eT : y * 2 ^ (8 * k) = z * 2 ^ (8 * (k + 1)) + 2 ^ (32 * q) * (d * 2 ^ r) := by
    rw [← hx, e1, e2, Nat.add_mul]
    congr 1
    · rw [Nat.mul_comm (2 ^ 8) z, Nat.mul_assoc]
      congr 1
      rw [Nat.mul_left_comm, Nat.mul_comm (2 ^ 8)]
    · rw [Nat.mul_left_comm]
  have hdr : d * 2 ^ r < 2 ^ r * 2 ^ 8 := by rw [Nat.mul_comm]; exact Nat.mul_lt_mul_of_pos_left hd hrp
  have hdr2 : d * 2 ^ r ≤ 255 * 2 ^ 24 := Nat.mul_le_mul (by omega) h24
  have ez : z * 2 ^ (8 * (k + 1)) = 2 ^ (32 * q) * (2 ^ r * 2 ^ 8 * z) := by rw [e2, Nat.mul_comm z, Nat.mul_assoc]
  rcases Nat.lt_trichotomy j q with h | h | h
  · rw [if_neg (by omega), eT]
    have e : 2 ^ (32 * q) = 2 ^ (32 * j) * (2 ^ 32 * 2 ^ (32 * (q - j - 1))) := by
      rw [← Nat.pow_add, ← Nat.pow_add]; congr 1; omega
    have e4 : 2 ^ (32 * q) * (d * 2 ^ r) = 2 ^ (32 * j) * (2 ^ 32 * (2 ^ (32 * (q - j - 1)) * (d * 2 ^ r))) := by rw [e, Nat.mul_assoc, Nat.mul_assoc]
    rw [e4, Nat.add_mul_div_left _ _ (Nat.two_pow_pos _), Nat.add_mul_mod_self_left]
  · rw [if_pos h, h, eT, ez, ← Nat.mul_add, Nat.mul_div_cancel_left _ hB, Nat.mul_div_cancel_left _ hB]
    have h1 : 2 ^ r * 2 ^ 8 * z % 2 ^ 32 = 2 ^ (r + 8) * (z % 2 ^ (24 - r)) := by
      conv => lhs; rw [e32, Nat.mul_mod_mul_left]
      rw [Nat.pow_add]
    have h2 : (2 ^ r * 2 ^ 8 * z + d * 2 ^ r) % 2 ^ 32 = 2 ^ (r + 8) * (z % 2 ^ (24 - r)) + d * 2 ^ r := by
      rw [Nat.add_mod, h1, Nat.mod_eq_of_lt (a := d * 2 ^ r) (by omega)]
      refine Nat.mod_eq_of_lt ?_
      have h3 : z % 2 ^ (24 - r) < 2 ^ (24 - r) := Nat.mod_lt _ (Nat.two_pow_pos _)
      have h4 : 2 ^ (r + 8) * (z % 2 ^ (24 - r) + 1) ≤ 2 ^ (r + 8) * 2 ^ (24 - r) := Nat.mul_le_mul_left _ h3
      have h5 : 2 ^ (r + 8) * 2 ^ (24 - r) = 2 ^ 32 := by rw [← Nat.pow_add]; congr 1; omega
      rw [h5, Nat.mul_succ] at h4
      rw [← Nat.pow_add] at hdr
      omega
    rw [h1, h2, Nat.mod_eq_of_lt (a := d * 2 ^ r) (by omega)]
    exact Nat.two_pow_add_eq_or_of_lt (by rw [Nat.pow_add]; exact hdr) _
  · rw [if_neg (by omega), eT, ez, ← Nat.mul_add]
    have e : 2 ^ (32 * j) = 2 ^ (32 * q) * (2 ^ 32 * 2 ^ (32 * (j - q - 1))) := by
      rw [← Nat.pow_add, ← Nat.pow_add]; congr 1; omega
    have h1 : (2 ^ r * 2 ^ 8 * z + d * 2 ^ r) / 2 ^ 32 = 2 ^ r * 2 ^ 8 * z / 2 ^ 32 := by
      rw [e32]; exact div_skip (Nat.mul_pos hrp (by omega)) hdr
    rw [e, ← Nat.div_div_eq_div_mul, ← Nat.div_div_eq_div_mul, ← Nat.div_div_eq_div_mul, ← Nat.div_div_eq_div_mul, Nat.mul_div_cancel_left _ hB, Nat.mul_div_cancel_left _ hB, h1]

theorem r_refRead {n : Nat} {f : Nat → Nat} (hn : n < 1000000) (hf : ∀ j, j < n → f j < 256) : Run T f_curvetref1_Read [.s (tb n f)] [] = some (num (vb n f n), []) := by
  rw [Run_at T _ (show T f_curvetref1_Read = some m_curvetref1_Read from rfl)]
  simp only [c_curvetref1_Read]
  obtain ⟨x, hx⟩ : ∃ x, x = vb n f n := ⟨_, rfl⟩
  have hxl : x < 2 ^ (8 * n) := by rw [hx]; exact vb_lt hf n (Nat.le_refl n)
  obtain ⟨n4, hn4⟩ : ∃ z, z = n / 4 := ⟨_, rfl⟩
  obtain ⟨L, hL⟩ : ∃ z, z = n / 4 + 1 := ⟨_, rfl⟩
  obtain ⟨w, hw⟩ : ∃ w : Nat → Nat → Nat, ∀ k j, w k j = (x / 2 ^ (8 * k) * 2 ^ (8 * k)) / 2 ^ (32 * j) % 2 ^ 32 := ⟨_, fun _ _ => rfl⟩
  have k1 : decide (n < 9223372036854775808) = true := by simp; omega
  have k2 : F (w64 (Int.tdiv (n : Int) 4)) (n4 : Int) := ⟨by rw [Int.tdiv_eq_ediv_of_nonneg (by omega)]; unfold w64; omega⟩
  have k3 : F (w64 ((n4 : Int) + 1)) (L : Int) := ⟨by unfold w64; omega⟩
  have k6 := ixOf_nat (show L < 140737488355329 by omega)
  have k7 := ixOf_nat (show L < L + 1 by omega)
  have k8 : roomOk L 4 = true := by simp [roomOk]; omega
  rw [← hx]
  simp only [EE,EX,Nat.reduceLeDiff,Nat.reduceEqDiff,Int.reduceEq,reduceCtorEq,Nat.reduceAdd,Nat.reduceMul,if_true,if_false,decide_true,decide_false, k1, k2.eq, k3.eq, k6, k7, k8]
  rw [loop_use T (fun i => ⟨[(0, .s (tb n f)), (3, .hs 1 0 0 L L), (4, .i (i : Int))], [some (us 32 (tb L fun j => w (n - i) j))]⟩) n
    (.exit 0, ⟨[(3, .hs 1 0 0 L L)], [some (us 32 (dl 32 L x))]⟩) ?h0 (by simp) ?hs ?hn]
  · have hS : x < 2 ^ (32 * L) := Nat.lt_of_lt_of_le hxl (Nat.pow_le_pow_right (by omega) (by omega))
    have l1 := r_trimD hS (by omega)
    have l2 := take_dgD hS
    have l3 : ((dg x).length ≤ L) = True := by simp; exact dg_len_le _ _ hS
    simp only [EE,EX,Nat.reduceLeDiff,Nat.reduceEqDiff,Int.reduceEq,reduceCtorEq,Nat.reduceAdd,Nat.reduceMul,if_true,if_false,decide_true,decide_false, l1, l2, l3]
  · have e1 : List.replicate L 0 = tb L (fun j => w (n - 0) j) := by
      rw [tb_rep]; exact tb_congr fun j hj => by rw [hw, Nat.sub_zero, Nat.div_eq_of_lt hxl, Nat.zero_mul, Nat.zero_div, Nat.zero_mod]
    rw [e1]; rfl
  · intro i hi
    obtain ⟨k, hk⟩ : ∃ k, k = n - 1 - i := ⟨_, rfl⟩
    obtain ⟨q, hq⟩ : ∃ q, q = k / 4 := ⟨_, rfl⟩
    obtain ⟨r, hr⟩ : ∃ r, r = k % 4 := ⟨_, rfl⟩
    obtain ⟨r8, hr8⟩ : ∃ r8, r8 = 8 * r := ⟨_, rfl⟩
    obtain ⟨n1, hn1⟩ : ∃ n1, n1 = n - 1 := ⟨_, rfl⟩
    have e1 : n - i = k + 1 := by omega
    have e2 : n - (i + 1) = k := by omega
    rw [e1, e2]
    have hfi := hf i hi
    have hbyte : x / 2 ^ (8 * k) % 2 ^ 8 = f i := by
      rw [hx, vb_byte hf k n (Nat.le_refl n) (by omega), show n - 1 - k = i by omega]
    have hor := or_below (x := x) (q := q) (r := r8) (k := k) (by omega) (by omega)
    rw [hbyte] at hor
    have hor' : ∀ j, w k j = if j = q then (w (k + 1) q ||| f i * 2 ^ r8 % 2 ^ 32) else w (k + 1) j := fun j => by rw [hw, hw, hw]; exact hor j
    have l1 : decide ((i : Int) < (n : Int)) = true := by simp; omega
    have l2 : F (w64 ((n : Int) - 1)) (n1 : Int) := ⟨by unfold w64; omega⟩
    have l3 : F (w64 ((n1 : Int) - (i : Int))) (k : Int) := ⟨by unfold w64; omega⟩
    have l4 : F (w64 (Int.tdiv (k : Int) 4)) (q : Int) := ⟨by rw [Int.tdiv_eq_ediv_of_nonneg (by omega)]; unfold w64; omega⟩
    have l5 : F (Int.tmod (k : Int) 4) (r : Int) := ⟨by rw [Int.tmod_eq_emod_of_nonneg (by omega)]; omega⟩
    have l6 : F (w64 ((r : Int) * 8)) (r8 : Int) := ⟨by rw [hr8]; unfold w64; omega⟩
    have l7 : F (min r8 32) r8 := ⟨by omega⟩
    have l8 := ixOf_nat (show q < L by omega)
    have l9 := part_tb (w := 32) (fun j => w (k + 1) j) q (show q < L by omega)
    have l10 := ixOf_nat hi
    have l11 : (tb n f)[i]? = some (f i) := tb_get hi
    have l12 : f i % 2 ^ 32 = f i := Nat.mod_eq_of_lt (by omega)
    have l13 : (q + 1 ≤ L) = True := by simp; omega
    have l14 : F (w64 ((i : Int) + 1)) ((i + 1 : Nat) : Int) := ⟨by unfold w64; omega⟩
    have l15 : tb L (fun j => if j = q then (w (k + 1) q ||| f i * 2 ^ r8 % 2 ^ 32) else w (k + 1) j) = tb L (fun j => w k j) := tb_congr fun j hj => (hor' j).symm
    simp only [EE,EX,Nat.reduceLeDiff,Nat.reduceEqDiff,Int.reduceEq,reduceCtorEq,Nat.reduceAdd,Nat.reduceMul,if_true,if_false,decide_true,decide_false, k1, l1, l2.eq, l3.eq, l4.eq, l5.eq, l6.eq, l7.eq, l8, l9, l10, l11, l12, l13, l14.eq, l15]
  · have l1 : decide ((n : Int) < (n : Int)) = false := by simp
    have l2 : tb L (fun j => w (n - n) j) = dl 32 L x := tb_congr fun j hj => by rw [hw, Nat.sub_self, Nat.mul_zero, Nat.pow_zero, Nat.div_one, Nat.mul_one]
    simp only [EE,EX,Nat.reduceLeDiff,Nat.reduceEqDiff,Int.reduceEq,reduceCtorEq,Nat.reduceAdd,Nat.reduceMul,if_true,if_false,decide_true,decide_false, k1, l1, l2]

end Mir

