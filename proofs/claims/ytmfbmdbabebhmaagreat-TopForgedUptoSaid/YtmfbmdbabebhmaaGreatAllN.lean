/- One module of several texts (RefA RefB RefC NatA NatB NatL NatC NatD NatQ NatE). Conditions: none. -/
import Derived.Test.YtmfbmdbabebhmaaGreatTabZ
import Derived.Test.YtmfbmdbabebhmaaGreatEv2
set_option linter.unusedVariables false
set_option linter.unusedSimpArgs false
set_option exponentiation.threshold 5000
set_option maxRecDepth 20000
namespace Mir

abbrev natv (x : Nat) : V := .agg (us 64 (dl 64 9 x))

theorem natv_noHp (x k : Nat) : noHp (k + 2) (natv x) = true := by simp only [natv, noHp]; exact us_noHp 64 k _

/-- A number that fits: so many digits at most. -/
def Fit (x : Nat) : Prop := (dg x).length < 1000000000

theorem Fit.len {x : Nat} (h : Fit x) : ((dg x).length < 9223372036854775808) = True := by
  unfold Fit at h
  simp; omega

end Mir

namespace Mir

theorem zero9 : z9 = us 64 (dl 64 9 0) := rfl

end Mir

namespace Mir

end Mir

namespace Mir

theorem r_Num (z : Int) : Run T f_curvetlaw0_Num [.i z] [] = some (.i z, []) := by
  rw [Run_at T _ (show T f_curvetlaw0_Num = some m_curvetlaw0_Num from rfl)]
  simp only [c_curvetlaw0_Num]
  simp only [EE,EX,Nat.reduceLeDiff,Nat.reduceEqDiff,Int.reduceEq,reduceCtorEq,Nat.reduceAdd,Nat.reduceMul,if_true,if_false,decide_true,decide_false]

theorem set_dl0 {x : Nat} (hx : x < 2 ^ 64) : (us 64 (dl 64 9 0)).set 0 (.u 64 x) = us 64 (dl 64 9 x) := by
  rw [us_set]
  congr 1
  rw [show dl 64 9 0 = tb 9 (fun j => 0) from tb_congr fun j hj => by simp, tb_set]
  refine tb_congr fun j hj => ?_
  by_cases h : j = 0
  · subst h; simp; omega
  · rw [if_neg h]
    have : x < 2 ^ (64 * j) := Nat.lt_of_lt_of_le hx (Nat.pow_le_pow_right (by omega) (by omega))
    rw [Nat.div_eq_of_lt this]

theorem r_One {x : Nat} (hx : x < 2 ^ 64) : Run T f_curvetlaw0_One [.u 64 x] [] = some (natv x, []) := by
  rw [Run_at T _ (show T f_curvetlaw0_One = some m_curvetlaw0_One from rfl)]
  simp only [c_curvetlaw0_One, zero9]
  have h1 := part_us (w := 64) (dl_len 64 9 x)
  have h2 : splice (us 64 (dl 64 9 0)) 0 (us 64 (dl 64 9 x)) = us 64 (dl 64 9 x) := sp_us (by rw [us_len, dl_len, dl_len])
  have h3 : ixOf 9 (.i 0) = some 0 := by simp [ixOf]
  have h4 := set_dl0 hx
  have h5 : (0 + 1 ≤ 9) = True := by simp
  simp only [EE,EX,Nat.reduceLeDiff,Nat.reduceEqDiff,Int.reduceEq,reduceCtorEq,Nat.reduceAdd,Nat.reduceMul,if_true,if_false,decide_true,decide_false, dl_len, h1, h2, h3, h4, h5]

/-- The lengths of all bytes. -/
def L64 : List Nat := (List.range 256).map bl
theorem L64_eq : [0, 1, 2, 2, 3, 3, 3, 3, 4, 4, 4, 4, 4, 4, 4, 4, 5, 5, 5, 5, 5, 5, 5, 5, 5, 5, 5, 5, 5, 5, 5, 5, 6, 6, 6, 6, 6, 6, 6, 6, 6, 6, 6, 6, 6, 6, 6, 6, 6, 6, 6, 6, 6, 6, 6, 6, 6, 6, 6, 6, 6, 6, 6, 6, 7, 7, 7, 7, 7, 7, 7, 7, 7, 7, 7, 7, 7, 7, 7, 7, 7, 7, 7, 7, 7, 7, 7, 7, 7, 7, 7, 7, 7, 7, 7, 7, 7, 7, 7, 7, 7, 7, 7, 7, 7, 7, 7, 7, 7, 7, 7, 7, 7, 7, 7, 7, 7, 7, 7, 7, 7, 7, 7, 7, 7, 7, 7, 7, 8, 8, 8, 8, 8, 8, 8, 8, 8, 8, 8, 8, 8, 8, 8, 8, 8, 8, 8, 8, 8, 8, 8, 8, 8, 8, 8, 8, 8, 8, 8, 8, 8, 8, 8, 8, 8, 8, 8, 8, 8, 8, 8, 8, 8, 8, 8, 8, 8, 8, 8, 8, 8, 8, 8, 8, 8, 8, 8, 8, 8, 8, 8, 8, 8, 8, 8, 8, 8, 8, 8, 8, 8, 8, 8, 8, 8, 8, 8, 8, 8, 8, 8, 8, 8, 8, 8, 8, 8, 8, 8, 8, 8, 8, 8, 8, 8, 8, 8, 8, 8, 8, 8, 8, 8, 8, 8, 8, 8, 8, 8, 8, 8, 8, 8, 8, 8, 8, 8, 8, 8, 8, 8, 8, 8, 8, 8, 8] = L64 := by decide +kernel
theorem L64_len : L64.length = 256 := by simp [L64]
theorem L64_get {k : Nat} (h : k < 256) : L64[k]? = some (bl k) := by simp [L64, h]

theorem bl_lt64 {x : Nat} (h : x < 2 ^ 64) : bl x ≤ 64 := bl_le_iff.2 h

theorem len_w {bx b1 b2 b3 n1 n2 n3 c1 c2 c3 : Nat} (h1 : bx = n1 + b1) (h2 : b1 = n2 + b2) (h3 : b2 = n3 + b3) (e1 : n1 = c1) (e2 : n2 = c2) (e3 : n3 = c3) (m : Int) (hm : m = (c1 : Int) + (c2 : Int) + (c3 : Int)) (hb : b3 ≤ 8) (hc : c1 + c2 + c3 ≤ 56) :
    w64 (m + (b3 : Int)) = (bx : Int) := by
  subst e1 e2 e3 h3 h2 h1 hm
  unfold w64; omega

theorem r_Len64 {x : Nat} (hx : x < 2 ^ 64) : Run T f_bits_Len64 [.u 64 x] [] = some (.i (bl x : Int), []) := by
  rw [Run_at T _ (show T f_bits_Len64 = some m_bits_Len64 from rfl)]
  simp only [c_bits_Len64, L64_eq]
  have m1 : min 32 64 = 32 := rfl
  have m2 : min 16 64 = 16 := rfl
  have m3 : min 8 64 = 8 := rfl
  obtain ⟨y1, n1, hy1, hb1, g1⟩ : ∃ y1 n1 : Nat, y1 < 2 ^ 32 ∧ bl x = n1 + bl y1 ∧ ((4294967296 ≤ x ∧ y1 = x / 2 ^ 32 ∧ n1 = 32) ∨ (x < 4294967296 ∧ y1 = x ∧ n1 = 0)) := by
    by_cases h : 4294967296 ≤ x
    · exact ⟨x / 2 ^ 32, 32, by omega, by rw [bl_div (k := 32) (x := x) (by omega)]; omega, .inl ⟨h, rfl, rfl⟩⟩
    · exact ⟨x, 0, by omega, by omega, .inr ⟨by omega, rfl, rfl⟩⟩
  obtain ⟨y2, n2, hy2, hb2, g2⟩ : ∃ y2 n2 : Nat, y2 < 2 ^ 16 ∧ bl y1 = n2 + bl y2 ∧ ((65536 ≤ y1 ∧ y2 = y1 / 2 ^ 16 ∧ n2 = 16) ∨ (y1 < 65536 ∧ y2 = y1 ∧ n2 = 0)) := by
    by_cases h : 65536 ≤ y1
    · exact ⟨y1 / 2 ^ 16, 16, by omega, by rw [bl_div (k := 16) (x := y1) (by omega)]; omega, .inl ⟨h, rfl, rfl⟩⟩
    · exact ⟨y1, 0, by omega, by omega, .inr ⟨by omega, rfl, rfl⟩⟩
  obtain ⟨y3, n3, hy3, hb3, g3⟩ : ∃ y3 n3 : Nat, y3 < 2 ^ 8 ∧ bl y2 = n3 + bl y3 ∧ ((256 ≤ y2 ∧ y3 = y2 / 2 ^ 8 ∧ n3 = 8) ∨ (y2 < 256 ∧ y3 = y2 ∧ n3 = 0)) := by
    by_cases h : 256 ≤ y2
    · exact ⟨y2 / 2 ^ 8, 8, by omega, by rw [bl_div (k := 8) (x := y2) (by omega)]; omega, .inl ⟨h, rfl, rfl⟩⟩
    · exact ⟨y2, 0, by omega, by omega, .inr ⟨by omega, rfl, rfl⟩⟩
  have k1 : ixOf L64.length (.u 8 y3) = some y3 := ixOf_u (by rw [L64_len]; omega)
  have k2 := L64_get (k := y3) (by omega)
  have k3 : y3 % 2 ^ 8 = y3 := Nat.mod_eq_of_lt hy3
  have hb : bl y3 ≤ 8 := bl_le_iff.2 hy3
  have k4 : w64 ((bl y3 : Nat) : Int) = (bl y3 : Int) := by unfold w64; omega
  have w0 : w64 (0 + 16) = 16 := by decide
  have w1 : w64 (0 + 8) = 8 := by decide
  have w2 : w64 (16 + 8) = 24 := by decide
  have w3 : w64 (32 + 16) = 48 := by decide
  have w4 : w64 (32 + 8) = 40 := by decide
  have w5 : w64 (48 + 8) = 56 := by decide
  rcases g1 with ⟨a1, a2, a3⟩ | ⟨a1, a2, a3⟩ <;> rcases g2 with ⟨b1, b2, b3⟩ | ⟨b1, b2, b3⟩ <;> rcases g3 with ⟨c1, c2, c3⟩ | ⟨c1, c2, c3⟩
  · have A : decide (4294967296 ≤ x) = true := decide_eq_true a1
    have B : decide (65536 ≤ y1) = true := decide_eq_true b1
    have C : decide (256 ≤ y2) = true := decide_eq_true c1
    have W : w64 (56 + ((bl y3 : Nat) : Int)) = ((bl x : Nat) : Int) := len_w hb1 hb2 hb3 a3 b3 c3 56 (by decide) hb (by decide)
    have a4 := a2.symm
    have b4 := b2.symm
    have c4 := c2.symm
    simp only [EE,EX,Nat.reduceLeDiff,Nat.reduceEqDiff,Int.reduceEq,reduceCtorEq,Nat.reduceAdd,Nat.reduceMul,if_true,if_false,decide_true,decide_false, A, B, C, W, m1, m2, m3, k1, k2, k3, k4, w0, w1, w2, w3, w4, w5, a4, b4, c4]
  · have A : decide (4294967296 ≤ x) = true := decide_eq_true a1
    have B : decide (65536 ≤ y1) = true := decide_eq_true b1
    have C : decide (256 ≤ y2) = false := decide_eq_false (Nat.not_le.2 c1)
    have W : w64 (48 + ((bl y3 : Nat) : Int)) = ((bl x : Nat) : Int) := len_w hb1 hb2 hb3 a3 b3 c3 48 (by decide) hb (by decide)
    have a4 := a2.symm
    have b4 := b2.symm
    subst c2
    simp only [EE,EX,Nat.reduceLeDiff,Nat.reduceEqDiff,Int.reduceEq,reduceCtorEq,Nat.reduceAdd,Nat.reduceMul,if_true,if_false,decide_true,decide_false, A, B, C, W, m1, m2, m3, k1, k2, k3, k4, w0, w1, w2, w3, w4, w5, a4, b4]
  · have A : decide (4294967296 ≤ x) = true := decide_eq_true a1
    have B : decide (65536 ≤ y1) = false := decide_eq_false (Nat.not_le.2 b1)
    have C : decide (256 ≤ y2) = true := decide_eq_true c1
    have W : w64 (40 + ((bl y3 : Nat) : Int)) = ((bl x : Nat) : Int) := len_w hb1 hb2 hb3 a3 b3 c3 40 (by decide) hb (by decide)
    have a4 := a2.symm
    subst b2
    have c4 := c2.symm
    simp only [EE,EX,Nat.reduceLeDiff,Nat.reduceEqDiff,Int.reduceEq,reduceCtorEq,Nat.reduceAdd,Nat.reduceMul,if_true,if_false,decide_true,decide_false, A, B, C, W, m1, m2, m3, k1, k2, k3, k4, w0, w1, w2, w3, w4, w5, a4, c4]
  · have A : decide (4294967296 ≤ x) = true := decide_eq_true a1
    have B : decide (65536 ≤ y1) = false := decide_eq_false (Nat.not_le.2 b1)
    have C : decide (256 ≤ y2) = false := decide_eq_false (Nat.not_le.2 c1)
    have W : w64 (32 + ((bl y3 : Nat) : Int)) = ((bl x : Nat) : Int) := len_w hb1 hb2 hb3 a3 b3 c3 32 (by decide) hb (by decide)
    have a4 := a2.symm
    subst b2
    subst c2
    simp only [EE,EX,Nat.reduceLeDiff,Nat.reduceEqDiff,Int.reduceEq,reduceCtorEq,Nat.reduceAdd,Nat.reduceMul,if_true,if_false,decide_true,decide_false, A, B, C, W, m1, m2, m3, k1, k2, k3, k4, w0, w1, w2, w3, w4, w5, a4]
  · have A : decide (4294967296 ≤ x) = false := decide_eq_false (Nat.not_le.2 a1)
    have B : decide (65536 ≤ y1) = true := decide_eq_true b1
    have C : decide (256 ≤ y2) = true := decide_eq_true c1
    have W : w64 (24 + ((bl y3 : Nat) : Int)) = ((bl x : Nat) : Int) := len_w hb1 hb2 hb3 a3 b3 c3 24 (by decide) hb (by decide)
    subst a2
    have b4 := b2.symm
    have c4 := c2.symm
    simp only [EE,EX,Nat.reduceLeDiff,Nat.reduceEqDiff,Int.reduceEq,reduceCtorEq,Nat.reduceAdd,Nat.reduceMul,if_true,if_false,decide_true,decide_false, A, B, C, W, m1, m2, m3, k1, k2, k3, k4, w0, w1, w2, w3, w4, w5, b4, c4]
  · have A : decide (4294967296 ≤ x) = false := decide_eq_false (Nat.not_le.2 a1)
    have B : decide (65536 ≤ y1) = true := decide_eq_true b1
    have C : decide (256 ≤ y2) = false := decide_eq_false (Nat.not_le.2 c1)
    have W : w64 (16 + ((bl y3 : Nat) : Int)) = ((bl x : Nat) : Int) := len_w hb1 hb2 hb3 a3 b3 c3 16 (by decide) hb (by decide)
    subst a2
    have b4 := b2.symm
    subst c2
    simp only [EE,EX,Nat.reduceLeDiff,Nat.reduceEqDiff,Int.reduceEq,reduceCtorEq,Nat.reduceAdd,Nat.reduceMul,if_true,if_false,decide_true,decide_false, A, B, C, W, m1, m2, m3, k1, k2, k3, k4, w0, w1, w2, w3, w4, w5, b4]
  · have A : decide (4294967296 ≤ x) = false := decide_eq_false (Nat.not_le.2 a1)
    have B : decide (65536 ≤ y1) = false := decide_eq_false (Nat.not_le.2 b1)
    have C : decide (256 ≤ y2) = true := decide_eq_true c1
    have W : w64 (8 + ((bl y3 : Nat) : Int)) = ((bl x : Nat) : Int) := len_w hb1 hb2 hb3 a3 b3 c3 8 (by decide) hb (by decide)
    subst a2
    subst b2
    have c4 := c2.symm
    simp only [EE,EX,Nat.reduceLeDiff,Nat.reduceEqDiff,Int.reduceEq,reduceCtorEq,Nat.reduceAdd,Nat.reduceMul,if_true,if_false,decide_true,decide_false, A, B, C, W, m1, m2, m3, k1, k2, k3, k4, w0, w1, w2, w3, w4, w5, c4]
  · have A : decide (4294967296 ≤ x) = false := decide_eq_false (Nat.not_le.2 a1)
    have B : decide (65536 ≤ y1) = false := decide_eq_false (Nat.not_le.2 b1)
    have C : decide (256 ≤ y2) = false := decide_eq_false (Nat.not_le.2 c1)
    have W : w64 (0 + ((bl y3 : Nat) : Int)) = ((bl x : Nat) : Int) := len_w hb1 hb2 hb3 a3 b3 c3 0 (by decide) hb (by decide)
    subst a2
    subst b2
    subst c2
    simp only [EE,EX,Nat.reduceLeDiff,Nat.reduceEqDiff,Int.reduceEq,reduceCtorEq,Nat.reduceAdd,Nat.reduceMul,if_true,if_false,decide_true,decide_false, A, B, C, W, m1, m2, m3, k1, k2, k3, k4, w0, w1, w2, w3, w4, w5]

/-- How many words of 64 bits a number has. -/
def nw (x : Nat) : Nat := tl (dl 64 9 x)

theorem nw_le (x : Nat) : nw x ≤ 9 := by have := tl_le (dl 64 9 x); rw [dl_len] at this; exact this

theorem dl_getD {w n x k : Nat} (h : k < n) : (dl w n x).getD k 0 = x / 2 ^ (w * k) % 2 ^ w := by
  rw [dl, tb_getD, if_pos h]

theorem nw_top {x : Nat} (hx : x < M) : ∀ k, x / 2 ^ (64 * (nw x + k)) = 0 := by
  have step : ∀ d, d ≤ 9 - nw x → x / 2 ^ (64 * (9 - d)) = 0 := by
    intro d
    induction d with
    | zero => intro _; exact Nat.div_eq_of_lt (by rw [Nat.sub_zero, ← M64]; exact hx)
    | succ d ih =>
      intro hd
      have h1 := ih (by omega)
      have h2 := tl_zero (dl 64 9 x) (9 - (d + 1)) (by have : tl (dl 64 9 x) = nw x := rfl; omega)
      rw [dl_getD (by omega)] at h2
      have e : 64 * (9 - d) = 64 * (9 - (d + 1)) + 64 := by have := nw_le x; omega
      rw [e, Nat.pow_add, ← Nat.div_div_eq_div_mul] at h1
      omega
  intro k
  rcases Nat.lt_or_ge (nw x + k) 9 with h | h
  · have := step (9 - (nw x + k)) (by omega)
    have e : 9 - (9 - (nw x + k)) = nw x + k := by omega
    rwa [e] at this
  · exact Nat.div_eq_of_lt (Nat.lt_of_lt_of_le hx (by rw [M64]; exact Nat.pow_le_pow_right (by omega) (by omega)))

theorem nw_zero {x : Nat} (hx : x < M) (h : nw x = 0) : x = 0 := by
  have := nw_top hx 0
  rw [h] at this
  simpa using this

theorem nw_pos {x : Nat} (hx : x < M) (h : 0 < nw x) : x / 2 ^ (64 * (nw x - 1)) % 2 ^ 64 = x / 2 ^ (64 * (nw x - 1)) ∧ x / 2 ^ (64 * (nw x - 1)) ≠ 0 := by
  have h1 := tl_pos (dl 64 9 x) h
  have h3 := nw_le x
  rw [show tl (dl 64 9 x) = nw x from rfl, dl_getD (by omega)] at h1
  have h2 := nw_top hx 0
  have e : 64 * (nw x + 0) = 64 * (nw x - 1) + 64 := by omega
  rw [e, Nat.pow_add, ← Nat.div_div_eq_div_mul] at h2
  generalize x / 2 ^ (64 * (nw x - 1)) = y at *
  omega

theorem r_used (x : Nat) : Run T f_nat_used [.vr (us 64 (dl 64 9 x)) 0] [] = some (.i (nw x : Int), []) := by
  rw [Run_at T _ (show T f_nat_used = some m_nat_used from rfl)]
  simp only [c_nat_used]
  have hle := nw_le x
  simp only [EE,EX,Nat.reduceLeDiff,Nat.reduceEqDiff,Int.reduceEq,reduceCtorEq,Nat.reduceAdd,Nat.reduceMul,if_true,if_false,decide_true,decide_false]
  rw [loop_use T (fun i => ⟨[(0, .vr (us 64 (dl 64 9 x)) 0), (3, .i ((9 - i : Nat) : Int))], []⟩) (9 - nw x) (.exit 0, ⟨[(3, .i (nw x : Int))], []⟩) ?h0 (by simp) ?hs ?hn]
  · simp only [EE,EX,Nat.reduceLeDiff,Nat.reduceEqDiff,Int.reduceEq,reduceCtorEq,Nat.reduceAdd,Nat.reduceMul,if_true,if_false,decide_true,decide_false]
  · rfl
  · intro i hi
    have g1 : ((0:Int) < ((9 - i : Nat) : Int)) = True := by simp; omega
    have g2 : w64 (((9 - i : Nat) : Int) - 1) = ((9 - (i + 1) : Nat) : Int) := by unfold w64; omega
    have g3 := ixOf_nat (show 9 - (i + 1) < 9 by omega)
    have g4 : part (us 64 (dl 64 9 x)) (9 - (i + 1)) none = some (.u 64 0) := by
      have := tl_zero (dl 64 9 x) (9 - (i + 1)) (by have : tl (dl 64 9 x) = nw x := rfl; omega)
      rw [dl_getD (by omega)] at this
      rw [dl_part (by omega), this]
    simp only [EE,EX,Nat.reduceLeDiff,Nat.reduceEqDiff,Int.reduceEq,reduceCtorEq,Nat.reduceAdd,Nat.reduceMul,if_true,if_false,decide_true,decide_false, g1, g2, g3, g4]
  · have e : 9 - (9 - nw x) = nw x := by omega
    rw [e]
    rcases Nat.eq_zero_or_pos (nw x) with h0 | h0
    · have g1 : ((0:Int) < ((nw x : Nat) : Int)) = False := by simp; omega
      simp only [EE,EX,Nat.reduceLeDiff,Nat.reduceEqDiff,Int.reduceEq,reduceCtorEq,Nat.reduceAdd,Nat.reduceMul,if_true,if_false,decide_true,decide_false, g1]
    · have g1 : ((0:Int) < ((nw x : Nat) : Int)) = True := by simp; omega
      have g2 : w64 (((nw x : Nat) : Int) - 1) = ((nw x - 1 : Nat) : Int) := by unfold w64; omega
      have g3 := ixOf_nat (show nw x - 1 < 9 by omega)
      have g5 := tl_pos (dl 64 9 x) h0
      rw [show tl (dl 64 9 x) = nw x from rfl, dl_getD (by omega)] at g5
      have g4 := dl_part (x := x) (show nw x - 1 < 9 by omega)
      generalize x / 2 ^ (64 * (nw x - 1)) % 2 ^ 64 = y at *
      simp only [EE,EX,Nat.reduceLeDiff,Nat.reduceEqDiff,Int.reduceEq,reduceCtorEq,Nat.reduceAdd,Nat.reduceMul,if_true,if_false,decide_true,decide_false, g1, g2, g3, g4, g5]

theorem r_natBits {x : Nat} (hx : x < M) : Run T f_nat_Bits [natv x] [] = some (.i (bl x : Int), []) := by
  rw [Run_at T _ (show T f_nat_Bits = some m_nat_Bits from rfl)]
  simp only [c_nat_Bits]
  have g0 := r_used x
  have hle := nw_le x
  rcases Nat.eq_zero_or_pos (nw x) with h0 | h0
  · have g1 : decide (((nw x : Nat) : Int) = 0) = true := by simp; omega
    have hx0 := nw_zero hx h0
    have g2 : (0 : Int) = (bl x : Int) := by rw [hx0, bl_zero]; rfl
    simp only [EE,EX,Nat.reduceLeDiff,Nat.reduceEqDiff,Int.reduceEq,reduceCtorEq,Nat.reduceAdd,Nat.reduceMul,if_true,if_false,decide_true,decide_false, g0, g1, ← g2]
  · obtain ⟨t1, t2⟩ := nw_pos hx h0
    have g1 : decide (((nw x : Nat) : Int) = 0) = false := by simp; omega
    have g2 : w64 (((nw x : Nat) : Int) - 1) = ((nw x - 1 : Nat) : Int) := by unfold w64; omega
    have g3 := ixOf_nat (show nw x - 1 < 9 by omega)
    have g4 := dl_part (x := x) (show nw x - 1 < 9 by omega)
    have g6 := bl_div t2
    rw [t1] at g4
    have hy : x / 2 ^ (64 * (nw x - 1)) < 2 ^ 64 := by rw [← t1]; exact Nat.mod_lt _ (by omega)
    generalize x / 2 ^ (64 * (nw x - 1)) = y at *
    have g5 := r_Len64 hy
    have hb := bl_lt64 hy
    obtain ⟨k, hk⟩ : ∃ k : Int, k = ((64 * (nw x - 1) : Nat) : Int) := ⟨_, rfl⟩
    have g7 : w64 (((nw x - 1 : Nat) : Int) * 64) = k := by rw [hk]; unfold w64; omega
    have g8 : w64 (k + ((bl y : Nat) : Int)) = ((bl x : Nat) : Int) := by rw [hk, g6]; unfold w64; omega
    simp only [EE,EX,Nat.reduceLeDiff,Nat.reduceEqDiff,Int.reduceEq,reduceCtorEq,Nat.reduceAdd,Nat.reduceMul,if_true,if_false,decide_true,decide_false, g0, g1, g2, g3, g4, g5, g7, g8]

theorem bit_word (y r : Nat) (hr : r < 64) : y % 2 ^ 64 / 2 ^ r % 2 = y / 2 ^ r % 2 := by
  have e : (2:Nat) ^ 64 = 2 ^ r * (2 * 2 ^ (63 - r)) := by rw [← Nat.pow_succ', ← Nat.pow_add]; congr 1; omega
  rw [e, Nat.mod_mul_right_div_self, Nat.mod_mul_right_mod]

theorem r_natBit {x i : Nat} (hi : i < 576) : Run T f_nat_Bit [natv x, .i (i : Int)] [] = some (.i ((x / 2 ^ i % 2 : Nat) : Int), []) := by
  rw [Run_at T _ (show T f_nat_Bit = some m_nat_Bit from rfl)]
  simp only [c_nat_Bit]
  obtain ⟨q, hq⟩ : ∃ q, q = i / 64 := ⟨_, rfl⟩
  obtain ⟨r, hr⟩ : ∃ r, r = i % 64 := ⟨_, rfl⟩
  have g1 : decide ((i : Int) < 0) = false := by simp
  have g2 : decide (576 ≤ (i : Int)) = false := by simp; omega
  have g3 : w64 (Int.tdiv (i : Int) 64) = (q : Int) := by rw [Int.tdiv_eq_ediv_of_nonneg (by omega)]; unfold w64; omega
  have g4 : Int.tmod (i : Int) 64 = (r : Int) := by rw [Int.tmod_eq_emod_of_nonneg (by omega)]; omega
  have g5 : ((64 : Int) = 0) = False := by simp
  have g6 := ixOf_nat (show q < 9 by omega)
  have g7 := dl_part (x := x) (show q < 9 by omega)
  have g8 : (0 ≤ (r : Int)) = True := by simp
  have g9 : (r : Int).toNat = r := by simp
  have g10 : min r 64 = r := by omega
  have e : x / 2 ^ (64 * q) % 2 ^ 64 / 2 ^ r &&& 1 = x / 2 ^ i % 2 := by
    rw [Nat.and_one_is_mod, bit_word _ _ (by omega), Nat.div_div_eq_div_mul, ← Nat.pow_add, show 64 * q + r = i by omega]
  generalize x / 2 ^ (64 * q) % 2 ^ 64 = y at *
  obtain ⟨z, hz⟩ : ∃ z, z = x / 2 ^ i % 2 := ⟨_, rfl⟩
  rw [← hz] at e ⊢
  have g11 : w64 ((z : Nat) : Int) = (z : Int) := by unfold w64; omega
  simp only [EE,EX,Nat.reduceLeDiff,Nat.reduceEqDiff,Int.reduceEq,reduceCtorEq,Nat.reduceAdd,Nat.reduceMul,if_true,if_false,decide_true,decide_false, g1, g2, g3, g4, g5, g6, g7, g8, g9, g10, e, g11]

end Mir

namespace Mir

theorem join64 (y r : Nat) (hr : r ≤ 64) : (y % 2 ^ 64 / 2 ^ r ||| y / 2 ^ 64 % 2 ^ 64 * 2 ^ (64 - r) % 2 ^ 64) = y / 2 ^ r % 2 ^ 64 := by
  have e : (2:Nat) ^ 64 = 2 ^ r * 2 ^ (64 - r) := by rw [← Nat.pow_add]; congr 1; omega
  have e' : (2:Nat) ^ 64 = 2 ^ (64 - r) * 2 ^ r := by rw [← Nat.pow_add]; congr 1; omega
  have h1 : y % 2 ^ 64 / 2 ^ r = y / 2 ^ r % 2 ^ (64 - r) := by rw [e, Nat.mod_mul_right_div_self]
  have h2 : y / 2 ^ 64 % 2 ^ 64 * 2 ^ (64 - r) % 2 ^ 64 = 2 ^ (64 - r) * (y / 2 ^ 64 % 2 ^ r) := by
    generalize y / 2 ^ 64 = z
    conv => lhs; rw [e', Nat.mul_comm, Nat.mul_mod_mul_left]
    rw [Nat.mod_mul_left_mod]
  have h3 : y / 2 ^ r % 2 ^ 64 = 2 ^ (64 - r) * (y / 2 ^ 64 % 2 ^ r) + y / 2 ^ r % 2 ^ (64 - r) := by
    conv => lhs; rw [e', Nat.mod_mul, Nat.div_div_eq_div_mul, ← e]
    rw [Nat.add_comm]
  rw [h1, h2, h3, Nat.or_comm, Nat.two_pow_add_eq_or_of_lt (Nat.mod_lt _ (Nat.two_pow_pos _))]

theorem shr_split {x k q r : Nat} (hk : k = 64 * q + r) (i : Nat) : x / 2 ^ k / 2 ^ (64 * i) % 2 ^ 64 = x / 2 ^ (64 * (i + q)) / 2 ^ r % 2 ^ 64 := by
  subst hk
  rw [Nat.div_div_eq_div_mul, Nat.div_div_eq_div_mul, ← Nat.pow_add, ← Nat.pow_add, show 64 * q + r + 64 * i = 64 * (i + q) + r by omega]
theorem shr_word (x q r i : Nat) (hr : r ≤ 64) : (x / 2 ^ (64 * (i + q)) % 2 ^ 64 / 2 ^ r ||| x / 2 ^ (64 * (i + q + 1)) % 2 ^ 64 * 2 ^ (64 - r) % 2 ^ 64) = x / 2 ^ (64 * (i + q)) / 2 ^ r % 2 ^ 64 := by
  rw [show 64 * (i + q + 1) = 64 * (i + q) + 64 by omega, Nat.pow_add, ← Nat.div_div_eq_div_mul]
  exact join64 _ _ hr
theorem big_div {x n : Nat} (hx : x < M) (hn : 576 ≤ n) : x / 2 ^ n = 0 := Nat.div_eq_of_lt (Nat.lt_of_lt_of_le hx (by rw [M64]; exact Nat.pow_le_pow_right (by omega) (by omega)))

theorem shl_first {x k q r : Nat} (hk : k = 64 * q + r) : x * 2 ^ k / 2 ^ (64 * q) % 2 ^ 64 = x / 2 ^ (64 * 0) % 2 ^ 64 * 2 ^ r % 2 ^ 64 := by
  subst hk
  rw [Nat.pow_add, Nat.mul_comm (2 ^ (64 * q)), ← Nat.mul_assoc, Nat.mul_div_cancel _ (Nat.two_pow_pos _), Nat.mul_zero, Nat.pow_zero, Nat.div_one, Nat.mod_mul_mod]
theorem shl_next {x k q r : Nat} (hk : k = 64 * q + r) (hr : r ≤ 64) (i : Nat) : (x / 2 ^ (64 * (i + 1)) % 2 ^ 64 * 2 ^ r % 2 ^ 64 ||| x / 2 ^ (64 * i) % 2 ^ 64 / 2 ^ (64 - r)) = x * 2 ^ k / 2 ^ (64 * (i + 1 + q)) % 2 ^ 64 := by
  have h := join64 (x / 2 ^ (64 * i)) (64 - r) (by omega)
  rw [Nat.div_div_eq_div_mul, ← Nat.pow_add, show 64 * i + 64 = 64 * (i + 1) by omega, show 64 - (64 - r) = r by omega] at h
  rw [Nat.or_comm, h]
  subst hk
  have e1 : (2:Nat) ^ (64 * q + r) = 2 ^ (64 * q) * 2 ^ r := Nat.pow_add ..
  have e2 : (2:Nat) ^ (64 * (i + 1 + q)) = 2 ^ (64 * q) * (2 ^ r * (2 ^ (64 * i) * 2 ^ (64 - r))) := by
    rw [← Nat.pow_add, ← Nat.pow_add, ← Nat.pow_add]; congr 1; omega
  rw [e1, e2, Nat.mul_left_comm, Nat.mul_div_mul_left _ _ (Nat.two_pow_pos _), Nat.mul_comm x, Nat.mul_div_mul_left _ _ (Nat.two_pow_pos _), Nat.div_div_eq_div_mul]

theorem r_natShr {x k : Nat} (hx : x < M) (hk : k ≤ 576) : Run T f_nat_Shr [natv x, .i (k : Int)] [] = some (.tup [natv (x / 2 ^ k), .i 0], []) := by
  rw [Run_at T _ (show T f_nat_Shr = some m_nat_Shr from rfl)]
  simp only [c_nat_Shr, zero9]
  obtain ⟨q, hq⟩ : ∃ q, q = k / 64 := ⟨_, rfl⟩
  obtain ⟨r, hr⟩ : ∃ r, r = k % 64 := ⟨_, rfl⟩
  have g1 : decide ((k : Int) < 0) = false := by simp
  have g2 : decide (576 < (k : Int)) = false := by simp; omega
  have g3 : F (w64 (Int.tdiv (k : Int) 64)) ((q : Int)) := ⟨by rw [Int.tdiv_eq_ediv_of_nonneg (by omega)]; unfold w64; omega⟩
  have g4 : F (Int.tmod (k : Int) 64) ((r : Int)) := ⟨by rw [Int.tmod_eq_emod_of_nonneg (by omega)]; omega⟩
  have g5 : ((64 : Int) = 0) = False := by simp
  obtain ⟨n, hn⟩ : ∃ n, n = 9 - q := ⟨_, rfl⟩
  have g6 : F (w64 (9 - (q : Int))) ((n : Int)) := ⟨by unfold w64; omega⟩
  obtain ⟨w, hw⟩ : ∃ w : Nat → Nat, ∀ i, w i = x / 2 ^ (64 * i) % 2 ^ 64 := ⟨_, fun _ => rfl⟩
  obtain ⟨s, hs⟩ : ∃ s : Nat → Nat, ∀ i, s i = x / 2 ^ k / 2 ^ (64 * i) % 2 ^ 64 := ⟨_, fun _ => rfl⟩
  obtain ⟨u, hu⟩ : ∃ u, u = 64 - r := ⟨_, rfl⟩
  have hk' : k = 64 * q + r := by omega
  have hr64 : r ≤ 64 := by omega
  have e0 : ∀ i, s i = x / 2 ^ (64 * (i + q)) / 2 ^ r % 2 ^ 64 := fun i => by rw [hs]; exact shr_split hk' i
  have e1 : ∀ i, (w (i + q) / 2 ^ r ||| w (i + q + 1) * 2 ^ u % 2 ^ 64) = s i := fun i => by
    rw [e0, hw, hw, hu]; exact shr_word x q r i hr64
  have e2 : ∀ i, w (i + q) / 2 ^ r = s i ∨ i + q + 1 < 9 := fun i => by
    by_cases h : i + q + 1 < 9
    · exact .inr h
    · left
      have hz : w (i + q + 1) = 0 := by
        rw [hw, big_div hx (by omega), Nat.zero_mod]
      rw [← e1 i, hz]
      simp
  have e3 : ∀ i, n ≤ i → s i = 0 := fun i hi => by
    rw [e0, big_div hx (by omega), Nat.zero_div, Nat.zero_mod]
  have hl : dl 64 9 x = tb 9 w := tb_congr fun j hj => (hw j).symm
  have g7 : (0 ≤ (r : Int)) = True := by simp
  have g8 : (r : Int).toNat = r := by simp
  have g9 : F (min r 64) (r) := ⟨by omega⟩
  have g10 : F (w64 (64 - (r : Int))) ((u : Int)) := ⟨by unfold w64; omega⟩
  have g11 : (0 ≤ (u : Int)) = True := by simp
  have g12 : (u : Int).toNat = u := by simp
  have g13 : F (min u 64) (u) := ⟨by omega⟩
  have hp : ∀ i, i < 9 → part (us 64 (tb 9 w)) i none = some (.u 64 (w i)) := fun i hi => by simp only [part]; exact us_get (tb_get hi)
  have ho : ∀ (f : Nat → Nat) i, i < 9 → part (us 64 (tb 9 f)) i none = some (.u 64 (f i)) := fun f i hi => by simp only [part]; exact us_get (tb_get hi)
  simp only [natv, hl]
  simp only [EE,EX,Nat.reduceLeDiff,Nat.reduceEqDiff,Int.reduceEq,reduceCtorEq,Nat.reduceAdd,Nat.reduceMul,if_true,if_false,decide_true,decide_false, g1, g2, g3.eq, g4.eq, g5, g6.eq]
  rw [loop_use T (fun i => ⟨[(2, .vr (us 64 (tb 9 w)) 0), (4, .loc (us 64 (dl 64 9 0))), (6, .loc (us 64 (tb 9 fun j => if j < i then s j else 0))), (7, .i (q : Int)), (8, .i (r : Int)), (22, .i (n : Int)), (23, .i (i : Int))], []⟩) n
    (.exit 0, ⟨[(4, .loc (us 64 (dl 64 9 0))), (6, .loc (us 64 (tb 9 fun j => if j < n then s j else 0)))], []⟩) ?h0 (by simp) ?hs ?hn]
  · have k1 : tb 9 (fun j => if j < n then s j else 0) = dl 64 9 (x / 2 ^ k) := tb_congr fun j hj => by
      by_cases h : j < n
      · rw [if_pos h, hs]
      · rw [if_neg h, ← e3 j (by omega), hs]
    have k2 := part_us (w := 64) (dl_len 64 9 (x / 2 ^ k))
    have k3 : splice (us 64 (dl 64 9 0)) 0 (us 64 (dl 64 9 (x / 2 ^ k))) = us 64 (dl 64 9 (x / 2 ^ k)) := sp_us (by rw [us_len, dl_len, dl_len])
    simp only [EE,EX,Nat.reduceLeDiff,Nat.reduceEqDiff,Int.reduceEq,reduceCtorEq,Nat.reduceAdd,Nat.reduceMul,if_true,if_false,decide_true,decide_false, k1, k2, k3]
  · rfl
  · intro i hi
    obtain ⟨j, hj⟩ : ∃ j, j = i + q := ⟨_, rfl⟩
    obtain ⟨j1, hj1⟩ : ∃ j1, j1 = j + 1 := ⟨_, rfl⟩
    obtain ⟨i1, hi1⟩ : ∃ i1, i1 = i + 1 := ⟨_, rfl⟩
    have k1 : decide ((i : Int) < (n : Int)) = true := by simp; omega
    have k2 : F (w64 ((i : Int) + (q : Int))) ((j : Int)) := ⟨by unfold w64; omega⟩
    have k3 : F (w64 ((j : Int) + 1)) ((j1 : Int)) := ⟨by unfold w64; omega⟩
    have k4 : F (w64 ((i : Int) + 1)) ((i1 : Int)) := ⟨by unfold w64; omega⟩
    have k5 := ixOf_nat (show j < 9 by omega)
    have k6 := ixOf_nat (show i < 9 by omega)
    have k7 := hp j (by omega)
    have k8 : (i + 1 ≤ 9) = True := by simp; omega
    have hw1 := e1 i
    rw [← hj, ← hj1] at hw1
    have h2 := e2 i
    rw [← hj, ← hj1] at h2
    have k9 : tb 9 (fun j => if j = i then s i else if j < i then s j else 0) = tb 9 (fun j => if j < i1 then s j else 0) := tb_congr fun j hj => by
      by_cases h : j = i
      · rw [if_pos h, if_pos (by omega), h]
      · rw [if_neg h]
        by_cases h2 : j < i
        · rw [if_pos h2, if_pos (by omega)]
        · rw [if_neg h2, if_neg (by omega)]
    rw [← hi1]
    obtain ⟨wj, hwj⟩ : ∃ y, w j = y := ⟨_, rfl⟩
    obtain ⟨wj1, hwj1⟩ : ∃ y, w j1 = y := ⟨_, rfl⟩
    rw [hwj, hwj1] at hw1
    rw [hwj] at h2
    rw [hwj] at k7
    by_cases h : j1 < 9
    · have k10 : decide ((j1 : Int) < 9) = true := by simp; omega
      have k11 := hp j1 h
      rw [hwj1] at k11
      have k12 := ixOf_nat h
      have k13 := ho (fun j => if j = i then wj / 2 ^ r else if j < i then s j else 0) i (by omega)
      simp only [if_true] at k13
      have k14 : tb 9 (fun j => if j = i then s i else if j = i then wj / 2 ^ r else if j < i then s j else 0) = tb 9 (fun j => if j < i1 then s j else 0) := by
        rw [← k9]; exact tb_congr fun j hj => by by_cases h : j = i <;> simp [h]
      simp only [EE,EX,Nat.reduceLeDiff,Nat.reduceEqDiff,Int.reduceEq,reduceCtorEq,Nat.reduceAdd,Nat.reduceMul,if_true,if_false,decide_true,decide_false, k1, k2.eq, k3.eq, k4.eq, k5, k6, k7, k8, k9, k10, k11, k12, k13, k14, g7, g8, g9.eq, g10.eq, g11, g12, g13.eq, hw1]
    · have k10 : decide ((j1 : Int) < 9) = false := by simp; omega
      have k11 : wj / 2 ^ r = s i := h2.resolve_right h
      simp only [EE,EX,Nat.reduceLeDiff,Nat.reduceEqDiff,Int.reduceEq,reduceCtorEq,Nat.reduceAdd,Nat.reduceMul,if_true,if_false,decide_true,decide_false, k1, k2.eq, k3.eq, k4.eq, k5, k6, k7, k8, k9, k10, k11, g7, g8, g9.eq]
  · have k1 : decide ((n : Int) < (n : Int)) = false := by simp
    simp only [EE,EX,Nat.reduceLeDiff,Nat.reduceEqDiff,Int.reduceEq,reduceCtorEq,Nat.reduceAdd,Nat.reduceMul,if_true,if_false,decide_true,decide_false, k1]

theorem r_natAdd {x y : Nat} (hx : x < M) (hy : y < M) : Run T f_nat_Add [natv x, natv y] [] = some (.tup [natv ((x + y) % M), .b (decide (M ≤ x + y))], []) := by
  rw [Run_at T _ (show T f_nat_Add = some m_nat_Add from rfl)]
  simp only [c_nat_Add, zero9]
  obtain ⟨c, hc⟩ : ∃ c : Nat → Nat, ∀ i, c i = (x % 2 ^ (64 * i) + y % 2 ^ (64 * i)) / 2 ^ (64 * i) := ⟨_, fun _ => rfl⟩
  obtain ⟨p, hp⟩ : ∃ p : Nat → Nat, ∀ i, p i = x / 2 ^ (64 * i) % 2 ^ 64 := ⟨_, fun _ => rfl⟩
  obtain ⟨q, hq⟩ : ∃ q : Nat → Nat, ∀ i, q i = y / 2 ^ (64 * i) % 2 ^ 64 := ⟨_, fun _ => rfl⟩
  obtain ⟨s, hs⟩ : ∃ s : Nat → Nat, ∀ i, s i = (x + y) / 2 ^ (64 * i) % 2 ^ 64 := ⟨_, fun _ => rfl⟩
  have hcl : ∀ i, (c i ≤ 1) = True := fun i => by rw [hc]; exact eq_true (carry_le 64 x y i)
  have hlo : ∀ i, (p i + q i + c i) % 2 ^ 64 = s i := fun i => by rw [hp, hq, hc, hs]; exact carry_lo 64 x y i
  have hhi : ∀ i, (p i + q i + c i) / 2 ^ 64 = c (i + 1) := fun i => by rw [hp, hq, hc, hc]; exact carry_hi 64 x y i
  have hc0 : c 0 = 0 := by rw [hc]; simp [Nat.mod_one]
  have hc9 : c 9 = if M ≤ x + y then 1 else 0 := by
    rw [hc, ← M64, Nat.mod_eq_of_lt hx, Nat.mod_eq_of_lt hy]
    have hM : 0 < M := Nat.two_pow_pos _
    split
    · rename_i h
      exact Nat.div_eq_of_lt_le (by omega) (by omega)
    · exact Nat.div_eq_of_lt (by omega)
  have hl : dl 64 9 x = tb 9 p := tb_congr fun j hj => (hp j).symm
  have hl2 : dl 64 9 y = tb 9 q := tb_congr fun j hj => (hq j).symm
  have hpp : ∀ i, i < 9 → part (us 64 (tb 9 q)) i none = some (.u 64 (q i)) := fun i hi => by simp only [part]; exact us_get (tb_get hi)
  have ho : ∀ (f : Nat → Nat) i, i < 9 → part (us 64 (tb 9 f)) i none = some (.u 64 (f i)) := fun f i hi => by simp only [part]; exact us_get (tb_get hi)
  simp only [natv, hl, hl2]
  simp only [EE,EX,Nat.reduceLeDiff,Nat.reduceEqDiff,Int.reduceEq,reduceCtorEq,Nat.reduceAdd,Nat.reduceMul,if_true,if_false,decide_true,decide_false]
  rw [loop_use T (fun i => ⟨[(2, .loc (us 64 (tb 9 fun j => if j < i then s j else p j))), (3, .vr (us 64 (tb 9 q)) 0), (4, .loc (us 64 (dl 64 9 0))), (6, .u 64 (c i)), (8, .i (i : Int))], []⟩) 9
    (.exit 0, ⟨[(2, .loc (us 64 (tb 9 fun j => if j < 9 then s j else p j))), (4, .loc (us 64 (dl 64 9 0))), (6, .u 64 (c 9))], []⟩) ?h0 (by simp) ?hs ?hn]
  · have k1 : tb 9 (fun j => if j < 9 then s j else p j) = dl 64 9 ((x + y) % M) := by
      rw [M64, dl_mod]
      exact tb_congr fun j hj => by rw [if_pos hj, hs]
    have k2 := part_us (w := 64) (dl_len 64 9 ((x + y) % M))
    have k3 : splice (us 64 (dl 64 9 0)) 0 (us 64 (dl 64 9 ((x + y) % M))) = us 64 (dl 64 9 ((x + y) % M)) := sp_us (by rw [us_len, dl_len, dl_len])
    have k4 : decide (c 9 = 1) = decide (M ≤ x + y) := by
      rw [hc9]
      by_cases h : M ≤ x + y <;> simp [h]
    simp only [EE,EX,Nat.reduceLeDiff,Nat.reduceEqDiff,Int.reduceEq,reduceCtorEq,Nat.reduceAdd,Nat.reduceMul,if_true,if_false,decide_true,decide_false, k1, k2, k3, k4]
  · rw [hc0]; simp only [Nat.not_lt_zero, if_false]; rfl
  · intro i hi
    have k1 : decide ((i : Int) < 9) = true := by simp; omega
    obtain ⟨i1, hi1⟩ : ∃ i1, i1 = i + 1 := ⟨_, rfl⟩
    have k2 : F (w64 ((i : Int) + 1)) (i1 : Int) := ⟨by unfold w64; omega⟩
    have k3 := ixOf_nat (show i < 9 by omega)
    have k4 := hpp i hi
    have k5 := ho (fun j => if j < i then s j else p j) i hi
    rw [if_neg (Nat.lt_irrefl i)] at k5
    have k6 : (i + 1 ≤ 9) = True := by simp; omega
    have k7 : tb 9 (fun j => if j = i then s i else if j < i then s j else p j) = tb 9 (fun j => if j < i1 then s j else p j) := tb_congr fun a ha => by
      by_cases h : a = i
      · rw [if_pos h, if_pos (by omega), h]
      · rw [if_neg h]
        by_cases h2 : a < i
        · rw [if_pos h2, if_pos (by omega)]
        · rw [if_neg h2, if_neg (by omega)]
    have k8 := hcl i
    have k9 := hlo i
    have k10 := hhi i
    rw [← hi1] at k10 ⊢
    simp only [EE,EX,Nat.reduceLeDiff,Nat.reduceEqDiff,Int.reduceEq,reduceCtorEq,Nat.reduceAdd,Nat.reduceMul,if_true,if_false,decide_true,decide_false, k1, k2.eq, k3, k4, k5, k6, k7, k8, k9, k10]
  · have k1 : decide (((9 : Nat) : Int) < 9) = false := by simp
    simp only [EE,EX,Nat.reduceLeDiff,Nat.reduceEqDiff,Int.reduceEq,reduceCtorEq,Nat.reduceAdd,Nat.reduceMul,if_true,if_false,decide_true,decide_false, k1]

end Mir

namespace Mir

theorem mask64 (w : Nat) {k : Nat} (hk : k < 64) : (w &&& ((1 * 2 ^ k % 2 ^ 64 + 2 ^ 64 - 1) % 2 ^ 64)) = w % 2 ^ k := by
  have h1 : 2 ^ k < 2 ^ 64 := Nat.pow_lt_pow_right (by omega) hk
  have h2 : 0 < 2 ^ k := Nat.two_pow_pos k
  rw [Nat.one_mul, Nat.mod_eq_of_lt h1]
  have h3 : (2 ^ k + 2 ^ 64 - 1) % 2 ^ 64 = 2 ^ k - 1 := by omega
  rw [h3, Nat.and_two_pow_sub_one_eq_mod]

end Mir

namespace Mir

/-- What is borrowed from the i-th digit of w bits. -/
def bor (w x y i : Nat) : Nat := if x % 2 ^ (w * i) < y % 2 ^ (w * i) then 1 else 0

theorem bor_le (w x y i : Nat) : bor w x y i ≤ 1 := by unfold bor; split <;> omega

theorem mod_step (w x i : Nat) : x % 2 ^ (w * (i + 1)) = x % 2 ^ (w * i) + 2 ^ (w * i) * (x / 2 ^ (w * i) % 2 ^ w) := by
  rw [Nat.mul_succ, Nat.pow_add, Nat.mod_mul]

theorem bor_hi (w x y i : Nat) : (if x / 2 ^ (w * i) % 2 ^ w < y / 2 ^ (w * i) % 2 ^ w + bor w x y i then 1 else 0) = bor w x y (i + 1) := by
  unfold bor
  rw [mod_step w x i, mod_step w y i]
  have hB : 0 < 2 ^ (w * i) := Nat.two_pow_pos _
  have h1 := Nat.mod_lt x hB
  have h2 := Nat.mod_lt y hB
  generalize x / 2 ^ (w * i) % 2 ^ w = p
  generalize y / 2 ^ (w * i) % 2 ^ w = q
  generalize x % 2 ^ (w * i) = a at *
  generalize y % 2 ^ (w * i) = b at *
  generalize 2 ^ (w * i) = B at *
  rcases Nat.lt_trichotomy p q with h | h | h
  · have : B * (p + 1) ≤ B * q := Nat.mul_le_mul_left _ h
    rw [Nat.mul_succ] at this
    rw [if_pos (by omega), if_pos (by omega)]
  · subst h
    by_cases hab : a < b
    · simp [hab]
    · simp [hab]
  · have : B * (q + 1) ≤ B * p := Nat.mul_le_mul_left _ h
    rw [Nat.mul_succ] at this
    rw [if_neg (by split <;> omega), if_neg (by omega)]

theorem bor_lo (w n x y i : Nat) (hi : i < n) (hy : y < 2 ^ (w * n)) : (x / 2 ^ (w * i) % 2 ^ w + 2 ^ w - y / 2 ^ (w * i) % 2 ^ w - bor w x y i) % 2 ^ w = (x + 2 ^ (w * n) - y) / 2 ^ (w * i) % 2 ^ w := by
  have eM : 2 ^ (w * n) = 2 ^ (w * i) * (2 ^ w * 2 ^ (w * (n - i - 1))) := by
    rw [← Nat.pow_add, ← Nat.pow_add]
    congr 1
    have : n = i + (1 + (n - i - 1)) := by omega
    conv => lhs; rw [this, Nat.mul_add, Nat.mul_add, Nat.mul_one]
  have hB : 0 < 2 ^ (w * i) := Nat.two_pow_pos _
  have hW : 0 < 2 ^ w := Nat.two_pow_pos _
  rw [eM] at hy ⊢
  have h1 := Nat.mod_lt x hB
  have h2 := Nat.mod_lt y hB
  have ex := Nat.div_add_mod x (2 ^ (w * i))
  have ey := Nat.div_add_mod y (2 ^ (w * i))
  have ex2 := Nat.div_add_mod (x / 2 ^ (w * i)) (2 ^ w)
  have ey2 := Nat.div_add_mod (y / 2 ^ (w * i)) (2 ^ w)
  have hp := Nat.mod_lt (x / 2 ^ (w * i)) hW
  have hq := Nat.mod_lt (y / 2 ^ (w * i)) hW
  have hyd : y / 2 ^ (w * i) / 2 ^ w < 2 ^ (w * (n - i - 1)) := by
    rw [Nat.div_div_eq_div_mul, Nat.div_lt_iff_lt_mul (Nat.mul_pos hB hW), Nat.mul_comm, Nat.mul_assoc]
    exact hy
  have hb := bor_le w x y i
  have hb2 : x % 2 ^ (w * i) + 2 ^ (w * i) * bor w x y i ≥ y % 2 ^ (w * i) ∧ x % 2 ^ (w * i) + 2 ^ (w * i) * bor w x y i < y % 2 ^ (w * i) + 2 ^ (w * i) := by
    unfold bor
    split <;> omega
  generalize bor w x y i = b at *
  generalize x / 2 ^ (w * i) % 2 ^ w = p at *
  generalize y / 2 ^ (w * i) % 2 ^ w = q at *
  generalize x / 2 ^ (w * i) / 2 ^ w = xh at *
  generalize y / 2 ^ (w * i) / 2 ^ w = yh at *
  generalize x / 2 ^ (w * i) = xd at *
  generalize y / 2 ^ (w * i) = yd at *
  generalize x % 2 ^ (w * i) = a at *
  generalize y % 2 ^ (w * i) = c at *
  generalize 2 ^ (w * (n - i - 1)) = K at *
  generalize 2 ^ (w * i) = B at *
  generalize 2 ^ w = W at *
  obtain ⟨m, hm⟩ : ∃ m, m + q + b = p + W := ⟨p + W - q - b, by omega⟩
  obtain ⟨g, hg⟩ : ∃ g, g + yh + 1 = xh + K := ⟨xh + K - yh - 1, by omega⟩
  have e1 : p + W - q - b = m := by omega
  rw [e1]
  have f1 : B * m + B * q + B * b = B * p + B * W := by rw [← Nat.mul_add, ← Nat.mul_add, ← Nat.mul_add, hm]
  have f2 : B * (W * g) + B * (W * yh) + B * W = B * (W * xh) + B * (W * K) := by
    have : W * g + W * yh + W = W * xh + W * K := by
      have := congrArg (W * ·) hg
      simp only [Nat.mul_add, Nat.mul_one] at this
      exact this
    have h := congrArg (B * ·) this
    simp only [Nat.mul_add] at h
    exact h
  have f3 : B * xd = B * (W * xh) + B * p := by rw [← ex2, Nat.mul_add]
  have f4 : B * yd = B * (W * yh) + B * q := by rw [← ey2, Nat.mul_add]
  have f5 : x + B * (W * K) - y = (a + B * b - c) + B * (m + W * g) := by
    rw [Nat.mul_add]
    omega
  rw [f5, Nat.add_mul_div_left _ _ hB, Nat.div_eq_of_lt (by omega), Nat.zero_add, Nat.add_mul_mod_self_left]

theorem hp9 (w : Nat → Nat) (i : Nat) (hi : i < 9) : part (us 64 (tb 9 w)) i none = some (.u 64 (w i)) := by simp only [part]; exact us_get (tb_get hi)
theorem tb_step2 {α : Type} {n i : Nat} (s p : Nat → α) : tb n (fun j => if j = i then s i else if j < i then s j else p j) = tb n (fun j => if j < i + 1 then s j else p j) := tb_congr fun a ha => by
  by_cases h : a = i
  · rw [if_pos h, if_pos (by omega), h]
  · rw [if_neg h]
    by_cases h2 : a < i
    · rw [if_pos h2, if_pos (by omega)]
    · rw [if_neg h2, if_neg (by omega)]

theorem r_natSub {x y : Nat} (hx : x < M) (hy : y < M) : Run T f_nat_Sub [natv x, natv y] [] = some (.tup [natv ((x + M - y) % M), .b (decide (x < y))], []) := by
  rw [Run_at T _ (show T f_nat_Sub = some m_nat_Sub from rfl)]
  simp only [c_nat_Sub, zero9]
  obtain ⟨c, hc⟩ : ∃ c : Nat → Nat, ∀ i, c i = bor 64 x y i := ⟨_, fun _ => rfl⟩
  obtain ⟨p, hp⟩ : ∃ p : Nat → Nat, ∀ i, p i = x / 2 ^ (64 * i) % 2 ^ 64 := ⟨_, fun _ => rfl⟩
  obtain ⟨q, hq⟩ : ∃ q : Nat → Nat, ∀ i, q i = y / 2 ^ (64 * i) % 2 ^ 64 := ⟨_, fun _ => rfl⟩
  obtain ⟨s, hs⟩ : ∃ s : Nat → Nat, ∀ i, s i = (x + M - y) / 2 ^ (64 * i) % 2 ^ 64 := ⟨_, fun _ => rfl⟩
  have hcl : ∀ i, (c i ≤ 1) = True := fun i => by rw [hc]; exact eq_true (bor_le 64 x y i)
  have hlo : ∀ i, i < 9 → (p i + 2 ^ 64 - q i - c i) % 2 ^ 64 = s i := fun i hi => by rw [hp, hq, hc, hs, M64]; exact bor_lo 64 9 x y i hi (M64 ▸ hy)
  have hhi : ∀ i, (if p i < q i + c i then 1 else 0) = c (i + 1) := fun i => by rw [hp, hq, hc, hc]; exact bor_hi 64 x y i
  have hc0 : c 0 = 0 := by rw [hc]; simp [bor, Nat.mod_one]
  have hc9 : decide (c 9 = 1) = decide (x < y) := by
    rw [hc, bor, ← M64, Nat.mod_eq_of_lt hx, Nat.mod_eq_of_lt hy]
    by_cases h : x < y <;> simp [h]
  have hl : dl 64 9 x = tb 9 p := tb_congr fun j hj => (hp j).symm
  have hl2 : dl 64 9 y = tb 9 q := tb_congr fun j hj => (hq j).symm
  simp only [natv, hl, hl2]
  simp only [EE,EX,Nat.reduceLeDiff,Nat.reduceEqDiff,Int.reduceEq,reduceCtorEq,Nat.reduceAdd,Nat.reduceMul,if_true,if_false,decide_true,decide_false]
  rw [loop_use T (fun i => ⟨[(2, .loc (us 64 (tb 9 fun j => if j < i then s j else p j))), (3, .vr (us 64 (tb 9 q)) 0), (4, .loc (us 64 (dl 64 9 0))), (6, .u 64 (c i)), (8, .i (i : Int))], []⟩) 9
    (.exit 0, ⟨[(2, .loc (us 64 (tb 9 fun j => if j < 9 then s j else p j))), (4, .loc (us 64 (dl 64 9 0))), (6, .u 64 (c 9))], []⟩) ?h0 (by simp) ?hs ?hn]
  · have k1 : tb 9 (fun j => if j < 9 then s j else p j) = dl 64 9 ((x + M - y) % M) := by
      rw [M64, dl_mod]
      exact tb_congr fun j hj => by rw [if_pos hj, hs, M64]
    simp only [EE,EX,Nat.reduceLeDiff,Nat.reduceEqDiff,Int.reduceEq,reduceCtorEq,Nat.reduceAdd,Nat.reduceMul,if_true,if_false,decide_true,decide_false, k1, hc9]
  · rw [hc0]; simp only [Nat.not_lt_zero, if_false]; rfl
  · intro i hi
    have k1 : decide ((i : Int) < 9) = true := by simp; omega
    obtain ⟨i1, hi1⟩ : ∃ i1, i1 = i + 1 := ⟨_, rfl⟩
    have k2 : F (w64 ((i : Int) + 1)) (i1 : Int) := ⟨by unfold w64; omega⟩
    have k3 := ixOf_nat (show i < 9 by omega)
    have k4 := hp9 q i hi
    have k5 := hp9 (fun j => if j < i then s j else p j) i hi
    rw [if_neg (Nat.lt_irrefl i)] at k5
    have k6 : (i + 1 ≤ 9) = True := by simp; omega
    have k7 := tb_step2 (n := 9) (i := i) s p
    have k8 := hcl i
    have k9 := hlo i hi
    have k10 := hhi i
    rw [← hi1] at k7 k10 ⊢
    simp only [EE,EX,Nat.reduceLeDiff,Nat.reduceEqDiff,Int.reduceEq,reduceCtorEq,Nat.reduceAdd,Nat.reduceMul,if_true,if_false,decide_true,decide_false, k1, k2.eq, k3, k4, k5, k6, k7, k8, k9, k10]
  · have k1 : decide (((9 : Nat) : Int) < 9) = false := by simp
    simp only [EE,EX,Nat.reduceLeDiff,Nat.reduceEqDiff,Int.reduceEq,reduceCtorEq,Nat.reduceAdd,Nat.reduceMul,if_true,if_false,decide_true,decide_false, k1]

/-- Where two numbers part, from above. -/
theorem top_diff (w n x y : Nat) (hx : x < 2 ^ (w * n)) (hy : y < 2 ^ (w * n)) (hne : x ≠ y) : ∃ d, d < n ∧ x / 2 ^ (w * (d + 1)) = y / 2 ^ (w * (d + 1)) ∧ x / 2 ^ (w * d) ≠ y / 2 ^ (w * d) := by
  have key : ∀ k, k ≤ n → x / 2 ^ (w * k) = y / 2 ^ (w * k) → ∃ d, d < n ∧ x / 2 ^ (w * (d + 1)) = y / 2 ^ (w * (d + 1)) ∧ x / 2 ^ (w * d) ≠ y / 2 ^ (w * d) := by
    intro k
    induction k with
    | zero => intro _ h; simp at h; exact absurd h hne
    | succ k ih =>
      intro hk h
      by_cases h' : x / 2 ^ (w * k) = y / 2 ^ (w * k)
      · exact ih (by omega) h'
      · exact ⟨k, by omega, h, h'⟩
  exact key n (Nat.le_refl n) (by rw [Nat.div_eq_of_lt hx, Nat.div_eq_of_lt hy])

theorem top_digits {w n d x y : Nat} (h : x / 2 ^ (w * (d + 1)) = y / 2 ^ (w * (d + 1))) (hne : x / 2 ^ (w * d) ≠ y / 2 ^ (w * d)) :
    (∀ j, d < j → x / 2 ^ (w * j) % 2 ^ w = y / 2 ^ (w * j) % 2 ^ w) ∧ (x / 2 ^ (w * d) % 2 ^ w < y / 2 ^ (w * d) % 2 ^ w ↔ x < y) ∧ (y / 2 ^ (w * d) % 2 ^ w < x / 2 ^ (w * d) % 2 ^ w ↔ y < x) := by
  have h1 : ∀ j, d < j → x / 2 ^ (w * j) = y / 2 ^ (w * j) := fun j hj => by
    have e : w * j = w * (d + 1) + w * (j - (d + 1)) := by rw [← Nat.mul_add]; congr 1; omega
    rw [e, Nat.pow_add, ← Nat.div_div_eq_div_mul, ← Nat.div_div_eq_div_mul, h]
  have h2 : x / 2 ^ (w * d) / 2 ^ w = y / 2 ^ (w * d) / 2 ^ w := by
    rw [Nat.div_div_eq_div_mul, Nat.div_div_eq_div_mul, ← Nat.pow_add, ← Nat.mul_succ]; exact h
  have ex := Nat.div_add_mod (x / 2 ^ (w * d)) (2 ^ w)
  have ey := Nat.div_add_mod (y / 2 ^ (w * d)) (2 ^ w)
  rw [h2] at ex
  have h3 : ∀ a b : Nat, a / 2 ^ (w * d) < b / 2 ^ (w * d) → a < b := fun a b hab => by
    rcases Nat.lt_or_ge a b with hh | hh
    · exact hh
    · exact absurd (Nat.div_le_div_right (c := 2 ^ (w * d)) hh) (by omega)
  refine ⟨fun j hj => by rw [h1 j hj], ⟨fun hh => h3 x y (by omega), fun hh => ?_⟩, ⟨fun hh => h3 y x (by omega), fun hh => ?_⟩⟩
  · have := Nat.div_le_div_right (c := 2 ^ (w * d)) (Nat.le_of_lt hh)
    omega
  · have := Nat.div_le_div_right (c := 2 ^ (w * d)) (Nat.le_of_lt hh)
    omega

def cmpI (x y : Nat) : Int := if x < y then -1 else if y < x then 1 else 0

theorem r_natCmp {x y : Nat} (hx : x < M) (hy : y < M) : Run T f_nat_Cmp [natv x, natv y] [] = some (.i (cmpI x y), []) := by
  rw [Run_at T _ (show T f_nat_Cmp = some m_nat_Cmp from rfl)]
  simp only [c_nat_Cmp]
  obtain ⟨p, hp⟩ : ∃ p : Nat → Nat, ∀ i, p i = x / 2 ^ (64 * i) % 2 ^ 64 := ⟨_, fun _ => rfl⟩
  obtain ⟨q, hq⟩ : ∃ q : Nat → Nat, ∀ i, q i = y / 2 ^ (64 * i) % 2 ^ 64 := ⟨_, fun _ => rfl⟩
  have hl : dl 64 9 x = tb 9 p := tb_congr fun j hj => (hp j).symm
  have hl2 : dl 64 9 y = tb 9 q := tb_congr fun j hj => (hq j).symm
  obtain ⟨a, ha⟩ : ∃ a : Nat → Int, ∀ i, a i = 8 - (i : Int) := ⟨_, fun _ => rfl⟩
  have a0 : (8 : Int) = a 0 := by rw [ha]; rfl
  have round : ∀ i, i < 9 → p (8 - i) = q (8 - i) → decide ((0 : Int) ≤ a i) = true ∧ ixOf 9 (.i (a i)) = some (8 - i) ∧ F (w64 (a i - 1)) (a (i + 1)) ∧ decide (p (8 - i) < q (8 - i)) = false ∧ decide (q (8 - i) < p (8 - i)) = false := by
    intro i hi h
    have e : a i = ((8 - i : Nat) : Int) := by rw [ha]; omega
    refine ⟨by rw [e]; simp, by rw [e]; exact ixOf_nat (by omega), ⟨?_⟩, by rw [h]; simp, by rw [h]; simp⟩
    rw [ha, ha]; unfold w64; omega
  simp only [natv, hl, hl2]
  simp only [EE,EX,Nat.reduceLeDiff,Nat.reduceEqDiff,Int.reduceEq,reduceCtorEq,Nat.reduceAdd,Nat.reduceMul,if_true,if_false,decide_true,decide_false]
  by_cases hxy : x = y
  · have hpq : ∀ i, p i = q i := fun i => by rw [hp, hq, hxy]
    have hc : cmpI x y = 0 := by rw [cmpI, hxy]; simp
    rw [loop_use T (fun i => ⟨[(2, .vr (us 64 (tb 9 p)) 0), (3, .vr (us 64 (tb 9 q)) 0), (5, .i (a i))], []⟩) 9 (.exit 0, ⟨[], []⟩) ?h0 (by simp) ?hs ?hn]
    · simp only [EE,EX,Nat.reduceLeDiff,Nat.reduceEqDiff,Int.reduceEq,reduceCtorEq,Nat.reduceAdd,Nat.reduceMul,if_true,if_false,decide_true,decide_false, hc]
    · simp only [a0]
    · intro i hi
      obtain ⟨k1, k2, k3, k4, k5⟩ := round i hi (hpq _)
      have k6 := hp9 p (8 - i) (by omega)
      have k7 := hp9 q (8 - i) (by omega)
      obtain ⟨u, hu⟩ : ∃ u, u = 8 - i := ⟨_, rfl⟩
      rw [← hu] at k2 k4 k5 k6 k7
      simp only [EE,EX,Nat.reduceLeDiff,Nat.reduceEqDiff,Int.reduceEq,reduceCtorEq,Nat.reduceAdd,Nat.reduceMul,if_true,if_false,decide_true,decide_false, k1, k2, k3.eq, k4, k5, k6, k7]
    · have k1 : decide ((0 : Int) ≤ a 9) = false := by rw [ha]; rfl
      simp only [EE,EX,Nat.reduceLeDiff,Nat.reduceEqDiff,Int.reduceEq,reduceCtorEq,Nat.reduceAdd,Nat.reduceMul,if_true,if_false,decide_true,decide_false, k1]
  · obtain ⟨d, hd, e1, e2⟩ := top_diff 64 9 x y (M64 ▸ hx) (M64 ▸ hy) hxy
    obtain ⟨t1, t2, t3⟩ := top_digits (n := 9) e1 e2
    have t1' : ∀ j, d < j → p j = q j := fun j hj => by rw [hp, hq]; exact t1 j hj
    rw [← hp, ← hq] at t2 t3
    have a8 : a (8 - d) = (d : Int) := by rw [ha]; omega
    have k1 : decide ((0 : Int) ≤ (d : Int)) = true := by simp
    have k2 := ixOf_nat hd
    have k6 := hp9 p d hd
    have k7 := hp9 q d hd
    rw [loop_use T (fun i => ⟨[(2, .vr (us 64 (tb 9 p)) 0), (3, .vr (us 64 (tb 9 q)) 0), (5, .i (a i))], []⟩) (8 - d) (.ret, ⟨[(4, .i (cmpI x y))], []⟩) ?h0b (by simp) ?hsb ?hnb]
    · simp only [EE,EX,Nat.reduceLeDiff,Nat.reduceEqDiff,Int.reduceEq,reduceCtorEq,Nat.reduceAdd,Nat.reduceMul,if_true,if_false,decide_true,decide_false]
    · simp only [a0]
    · intro i hi
      obtain ⟨k1, k2, k3, k4, k5⟩ := round i (by omega) (t1' _ (by omega))
      have k6 := hp9 p (8 - i) (by omega)
      have k7 := hp9 q (8 - i) (by omega)
      obtain ⟨u, hu⟩ : ∃ u, u = 8 - i := ⟨_, rfl⟩
      rw [← hu] at k2 k4 k5 k6 k7
      simp only [EE,EX,Nat.reduceLeDiff,Nat.reduceEqDiff,Int.reduceEq,reduceCtorEq,Nat.reduceAdd,Nat.reduceMul,if_true,if_false,decide_true,decide_false, k1, k2, k3.eq, k4, k5, k6, k7]
    · by_cases hlt : x < y
      · have hc : cmpI x y = -1 := by rw [cmpI, if_pos hlt]
        have k4 : decide (p d < q d) = true := decide_eq_true (t2.2 hlt)
        simp only [EE,EX,Nat.reduceLeDiff,Nat.reduceEqDiff,Int.reduceEq,reduceCtorEq,Nat.reduceAdd,Nat.reduceMul,if_true,if_false,decide_true,decide_false, a8, k1, k2, k4, k6, k7, hc]
      · have hgt : y < x := by omega
        have hc : cmpI x y = 1 := by rw [cmpI, if_neg hlt, if_pos hgt]
        have k4 : decide (p d < q d) = false := decide_eq_false (fun h => hlt (t2.1 h))
        have k5 : decide (q d < p d) = true := decide_eq_true (t3.2 hgt)
        simp only [EE,EX,Nat.reduceLeDiff,Nat.reduceEqDiff,Int.reduceEq,reduceCtorEq,Nat.reduceAdd,Nat.reduceMul,if_true,if_false,decide_true,decide_false, a8, k1, k2, k4, k5, k6, k7, hc]

theorem r_natSmall (z : Int) (hz : z < 9223372036854775808) : Run T f_nat_Small [.i z] [] = some (natv z.toNat, []) := by
  rw [Run_at T _ (show T f_nat_Small = some m_nat_Small from rfl)]
  simp only [c_nat_Small, zero9]
  obtain ⟨x, hx⟩ : ∃ x, x = z.toNat := ⟨_, rfl⟩
  have k1 : F (if z < 0 then (0 : Int) else z) (x : Int) := ⟨by rw [hx]; split <;> omega⟩
  have k2 : F (((x : Int) % 2 ^ 64).toNat) x := ⟨by omega⟩
  have k3 := set_dl0 (x := x) (by omega)
  rw [← hx]
  have k4 : okc 1 [V.u 64 x] 0 9 = true := by simp [okc, cellV]
  have k5 : okc 9 (us 64 (dl 64 9 x)) 0 9 = true := by rw [Ku, dl_len]; rfl
  simp only [EE,EX,Nat.reduceLeDiff,Nat.reduceEqDiff,Int.reduceEq,reduceCtorEq,Nat.reduceAdd,Nat.reduceMul,if_true,if_false,decide_true,decide_false, k1.eq, k2.eq, k3, k4, k5]

end Mir

namespace Mir

theorem mul64_hi (a b : Nat) (ha : a < 2 ^ 64) (hb : b < 2 ^ 64) : ∀ a0 a1 b0 b1 : Nat, a0 = a % 4294967296 → a1 = a / 4294967296 → b0 = b % 4294967296 → b1 = b / 4294967296 →
    a0 * b0 < 2 ^ 64 ∧ a1 * b0 < 2 ^ 64 ∧ a0 * b1 < 2 ^ 64 ∧ a1 * b1 < 2 ^ 64 ∧ a1 * b0 + a0 * b0 / 2 ^ 32 < 2 ^ 64 ∧ (a1 * b0 + a0 * b0 / 2 ^ 32) % 4294967296 + a0 * b1 < 2 ^ 64 ∧
    a1 * b1 + (a1 * b0 + a0 * b0 / 2 ^ 32) / 2 ^ 32 < 2 ^ 64 ∧
    a1 * b1 + (a1 * b0 + a0 * b0 / 2 ^ 32) / 2 ^ 32 + ((a1 * b0 + a0 * b0 / 2 ^ 32) % 4294967296 + a0 * b1) / 2 ^ 32 = a * b / 2 ^ 64 ∧ a * b / 2 ^ 64 < 2 ^ 64 := by
  intro a0 a1 b0 b1 h1 h2 h3 h4
  have b1l : a0 ≤ 4294967295 := by omega
  have b2l : a1 ≤ 4294967295 := by omega
  have b3l : b0 ≤ 4294967295 := by omega
  have b4l : b1 ≤ 4294967295 := by omega
  have ea : a = a1 * 4294967296 + a0 := by omega
  have eb : b = b1 * 4294967296 + b0 := by omega
  have e : a * b = a1 * b1 * 18446744073709551616 + a1 * b0 * 4294967296 + a0 * b1 * 4294967296 + a0 * b0 := by
    rw [ea, eb, Nat.add_mul, Nat.mul_add, Nat.mul_add]
    have x1 : a1 * 4294967296 * (b1 * 4294967296) = a1 * b1 * 18446744073709551616 := by
      rw [Nat.mul_mul_mul_comm]
    have x2 : a1 * 4294967296 * b0 = a1 * b0 * 4294967296 := by rw [Nat.mul_right_comm]
    have x3 : a0 * (b1 * 4294967296) = a0 * b1 * 4294967296 := by rw [Nat.mul_assoc]
    rw [x1, x2, x3]
    omega
  have m1 : a0 * b0 ≤ 4294967295 * 4294967295 := Nat.mul_le_mul b1l b3l
  have m2 : a1 * b0 ≤ 4294967295 * 4294967295 := Nat.mul_le_mul b2l b3l
  have m3 : a0 * b1 ≤ 4294967295 * 4294967295 := Nat.mul_le_mul b1l b4l
  have m4 : a1 * b1 ≤ 4294967295 * 4294967295 := Nat.mul_le_mul b2l b4l
  have m5 : a * b ≤ 18446744073709551615 * 18446744073709551615 := Nat.mul_le_mul (by omega) (by omega)
  clear ea eb h1 h2 h3 h4 b1l b2l b3l b4l ha hb
  generalize a * b = ab at *
  generalize a0 * b0 = s at *
  generalize a1 * b0 = q at *
  generalize a0 * b1 = r at *
  generalize a1 * b1 = p at *
  refine ⟨by omega, by omega, by omega, by omega, by omega, by omega, by omega, by omega, by omega⟩

theorem r_Mul64 {a b : Nat} (ha : a < 2 ^ 64) (hb : b < 2 ^ 64) : Run T f_bits_Mul64 [.u 64 a, .u 64 b] [] = some (.tup [.u 64 (a * b / 2 ^ 64), .u 64 (a * b % 2 ^ 64)], []) := by
  rw [Run_at T _ (show T f_bits_Mul64 = some m_bits_Mul64 from rfl)]
  simp only [c_bits_Mul64]
  obtain ⟨a0, ha0⟩ : ∃ a0, a0 = a % 4294967296 := ⟨_, rfl⟩
  obtain ⟨a1, ha1⟩ : ∃ a1, a1 = a / 4294967296 := ⟨_, rfl⟩
  obtain ⟨b0, hb0⟩ : ∃ b0, b0 = b % 4294967296 := ⟨_, rfl⟩
  obtain ⟨b1, hb1⟩ : ∃ b1, b1 = b / 4294967296 := ⟨_, rfl⟩
  obtain ⟨t1, t2, t3, t4, t5, t6, t7, t8, t9⟩ := mul64_hi a b ha hb a0 a1 b0 b1 ha0 ha1 hb0 hb1
  have k1 : (a &&& 4294967295) = a0 := by rw [and32, ha0]
  have k2 : (b &&& 4294967295) = b0 := by rw [and32, hb0]
  have k3 : a / 2 ^ 32 = a1 := ha1.symm
  have k4 : b / 2 ^ 32 = b1 := hb1.symm
  have k5 : min 32 64 = 32 := rfl
  have k6 := Nat.mod_eq_of_lt t1
  have k7 := Nat.mod_eq_of_lt t2
  have k8 := Nat.mod_eq_of_lt t3
  have k9 := Nat.mod_eq_of_lt t4
  obtain ⟨p00, h00⟩ : ∃ p, p = a0 * b0 := ⟨_, rfl⟩
  obtain ⟨p10, h10⟩ : ∃ p, p = a1 * b0 := ⟨_, rfl⟩
  obtain ⟨p01, h01⟩ : ∃ p, p = a0 * b1 := ⟨_, rfl⟩
  obtain ⟨p11, h11⟩ : ∃ p, p = a1 * b1 := ⟨_, rfl⟩
  rw [← h00] at t1 t5 t6 t7 t8 k6
  rw [← h10] at t2 t5 t6 t7 t8 k7
  rw [← h01] at t3 t6 t8 k8
  rw [← h11] at t4 t7 t8 k9
  obtain ⟨s, hs⟩ : ∃ s, p00 / 2 ^ 32 = s := ⟨_, rfl⟩
  rw [hs] at t5 t6 t7 t8
  have k10 := Nat.mod_eq_of_lt t5
  obtain ⟨t, ht⟩ : ∃ t, t = p10 + s := ⟨_, rfl⟩
  rw [← ht] at t5 t6 t7 t8 k10
  have k11 : (t &&& 4294967295) = t % 4294967296 := and32 t
  obtain ⟨tl, htl⟩ : ∃ tl, t % 4294967296 = tl := ⟨_, rfl⟩
  obtain ⟨th, hth⟩ : ∃ th, t / 2 ^ 32 = th := ⟨_, rfl⟩
  rw [htl] at t6 t8 k11
  rw [hth] at t7 t8
  have k12 := Nat.mod_eq_of_lt t6
  have k13 := Nat.mod_eq_of_lt t7
  rw [← t8] at t9
  have k14 := Nat.mod_eq_of_lt t9
  rw [t8] at k14
  have hmul : ∀ u v : Nat, u * v = u * v := fun _ _ => rfl
  simp only [EE,EX,Nat.reduceLeDiff,Nat.reduceEqDiff,Int.reduceEq,reduceCtorEq,Nat.reduceAdd,Nat.reduceMul,if_true,if_false,decide_true,decide_false, k1, k2, k3, k4, k5, ← h00, ← h10, ← h01, ← h11, k6, k7, k8, k9, hs, ← ht, k10, k11, hth, k12, k13, t8, k14]

/- ## Products, digit by digit -/

def mU (w x y i : Nat) : Nat := x % 2 ^ (w * i) * y
def mT (w x y i k : Nat) : Nat := mU w x y i + x / 2 ^ (w * i) % 2 ^ w * (y % 2 ^ (w * k)) * 2 ^ (w * i)
def mN (w x y i k : Nat) : Nat := mU w x y i % 2 ^ (w * (i + k)) + x / 2 ^ (w * i) % 2 ^ w * (y % 2 ^ (w * k)) * 2 ^ (w * i)
def mC (w x y i k : Nat) : Nat := mN w x y i k / 2 ^ (w * (i + k))

theorem mC_zero (w x y i : Nat) : mC w x y i 0 = 0 := by
  simp only [mC, mN, Nat.add_zero, Nat.mul_zero, Nat.pow_zero, Nat.mod_one, Nat.zero_mul]
  exact Nat.div_eq_of_lt (Nat.mod_lt _ (Nat.two_pow_pos _))

theorem pow_ik (w i k : Nat) : 2 ^ (w * (i + k)) = 2 ^ (w * i) * 2 ^ (w * k) := by rw [Nat.mul_add, Nat.pow_add]

theorem mN_step (w x y i k : Nat) : mN w x y i (k + 1) = mN w x y i k + 2 ^ (w * (i + k)) * (mU w x y i / 2 ^ (w * (i + k)) % 2 ^ w + x / 2 ^ (w * i) % 2 ^ w * (y / 2 ^ (w * k) % 2 ^ w)) := by
  have h1 := mod_step w (mU w x y i) (i + k)
  have h2 := mod_step w y k
  simp only [mN]
  rw [show i + (k + 1) = i + k + 1 from rfl, h1, h2, pow_ik w i k]
  generalize x / 2 ^ (w * i) % 2 ^ w = a
  generalize y / 2 ^ (w * k) % 2 ^ w = b
  generalize y % 2 ^ (w * k) = c
  generalize mU w x y i % (2 ^ (w * i) * 2 ^ (w * k)) = d
  generalize mU w x y i / (2 ^ (w * i) * 2 ^ (w * k)) % 2 ^ w = u
  generalize 2 ^ (w * i) = B
  generalize 2 ^ (w * k) = C
  rw [Nat.mul_add a, Nat.add_mul, Nat.mul_add (B * C)]
  have : a * (C * b) * B = B * C * (a * b) := by
    rw [Nat.mul_comm (a * (C * b)) B, Nat.mul_left_comm a C b, Nat.mul_assoc]
  omega

theorem mC_step (w x y i k : Nat) : (mC w x y i k + mU w x y i / 2 ^ (w * (i + k)) % 2 ^ w + x / 2 ^ (w * i) % 2 ^ w * (y / 2 ^ (w * k) % 2 ^ w)) / 2 ^ w = mC w x y i (k + 1) := by
  rw [mC, mC, mN_step, show i + (k + 1) = i + k + 1 from rfl, Nat.mul_succ, Nat.pow_add, ← Nat.div_div_eq_div_mul, Nat.add_mul_div_left _ _ (Nat.two_pow_pos _), Nat.add_assoc]

theorem mT_N (w x y i k : Nat) : mT w x y i k = mN w x y i k + 2 ^ (w * (i + k)) * (mU w x y i / 2 ^ (w * (i + k))) := by
  simp only [mT, mN]
  have := Nat.div_add_mod (mU w x y i) (2 ^ (w * (i + k)))
  omega

theorem mT_word (w x y i k : Nat) : (mC w x y i k + mU w x y i / 2 ^ (w * (i + k)) % 2 ^ w + x / 2 ^ (w * i) % 2 ^ w * (y / 2 ^ (w * k) % 2 ^ w)) % 2 ^ w = mT w x y i (k + 1) / 2 ^ (w * (i + k)) % 2 ^ w := by
  rw [mT_N, mN_step, mC, show i + (k + 1) = i + k + 1 from rfl, Nat.mul_succ, Nat.pow_add]
  have hB : 0 < 2 ^ (w * (i + k)) := Nat.two_pow_pos _
  generalize mU w x y i / 2 ^ (w * (i + k)) % 2 ^ w = u
  generalize x / 2 ^ (w * i) % 2 ^ w * (y / 2 ^ (w * k) % 2 ^ w) = v
  generalize mN w x y i k = N
  generalize mU w x y i / (2 ^ (w * (i + k)) * 2 ^ w) = z
  generalize 2 ^ (w * (i + k)) = B at *
  generalize 2 ^ w = W
  have e : N + B * (u + v) + B * W * z = N + B * (u + v + W * z) := by
    rw [Nat.mul_add B (u + v), Nat.mul_assoc, Nat.add_assoc]
  rw [e, Nat.add_mul_div_left _ _ hB, ← Nat.add_assoc, Nat.add_mul_mod_self_left, Nat.add_assoc]

theorem mT_low (w x y i k j : Nat) (hj : j < i + k) : mT w x y i (k + 1) / 2 ^ (w * j) % 2 ^ w = mT w x y i k / 2 ^ (w * j) % 2 ^ w := by
  have h : mT w x y i (k + 1) = mT w x y i k + 2 ^ (w * j) * (2 ^ w * (2 ^ (w * (i + k - j - 1)) * (x / 2 ^ (w * i) % 2 ^ w * (y / 2 ^ (w * k) % 2 ^ w)))) := by
    have e : 2 ^ (w * i) * 2 ^ (w * k) = 2 ^ (w * j) * (2 ^ w * 2 ^ (w * (i + k - j - 1))) := by
      rw [← Nat.pow_add, ← Nat.pow_add, ← Nat.pow_add]
      congr 1
      have : i + k = j + (1 + (i + k - j - 1)) := by omega
      rw [← Nat.mul_add]
      conv => lhs; rw [this, Nat.mul_add, Nat.mul_add, Nat.mul_one]
    simp only [mT]
    rw [mod_step w y k, Nat.mul_add (x / 2 ^ (w * i) % 2 ^ w), Nat.add_mul, ← Nat.add_assoc]
    congr 1
    rw [← Nat.mul_assoc (2 ^ w), ← Nat.mul_assoc (2 ^ (w * j)), ← e]
    generalize x / 2 ^ (w * i) % 2 ^ w = a
    generalize y / 2 ^ (w * k) % 2 ^ w = b
    generalize 2 ^ (w * i) = B
    generalize 2 ^ (w * k) = C
    rw [Nat.mul_comm (a * (C * b)) B, Nat.mul_left_comm a C b, Nat.mul_assoc]
  rw [h, Nat.add_mul_div_left _ _ (Nat.two_pow_pos _), Nat.add_mul_mod_self_left]

theorem mU_succ (w x y i n : Nat) (hy : y < 2 ^ (w * n)) : mT w x y i n = mU w x y (i + 1) := by
  simp only [mT, mU]
  rw [Nat.mod_eq_of_lt hy, mod_step w x i, Nat.add_mul]
  congr 1
  rw [Nat.mul_right_comm, Nat.mul_comm (x / 2 ^ (w * i) % 2 ^ w) (2 ^ (w * i))]

theorem mU_lt (w x y i n : Nat) (hy : y < 2 ^ (w * n)) : mU w x y i < 2 ^ (w * (i + n)) := by
  rw [pow_ik]
  exact Nat.mul_lt_mul'' (Nat.mod_lt _ (Nat.two_pow_pos _)) hy

theorem word_zero {w z j m : Nat} (h : z < 2 ^ (w * m)) (hj : m ≤ j) : z / 2 ^ (w * j) % 2 ^ w = 0 := by
  rw [Nat.div_eq_of_lt (Nat.lt_of_lt_of_le h (Nat.pow_le_pow_right (by omega) (Nat.mul_le_mul_left w hj))), Nat.zero_mod]

theorem mC_end (w x y i n : Nat) (hy : y < 2 ^ (w * n)) : mC w x y i n = mU w x y (i + 1) / 2 ^ (w * (i + n)) ∧ mC w x y i n = mU w x y (i + 1) / 2 ^ (w * (i + n)) % 2 ^ w := by
  have h1 := mU_lt w x y i n hy
  have h2 := mU_lt w x y (i + 1) n hy
  have h3 : mC w x y i n = mU w x y (i + 1) / 2 ^ (w * (i + n)) := by
    rw [← mU_succ w x y i n hy, mT_N, Nat.div_eq_of_lt h1, Nat.mul_zero, Nat.add_zero, mC]
  refine ⟨h3, ?_⟩
  rw [h3]
  refine (Nat.mod_eq_of_lt ?_).symm
  rw [Nat.div_lt_iff_lt_mul (Nat.two_pow_pos _), ← Nat.pow_add]
  have e : w + w * (i + n) = w * (i + 1 + n) := by rw [show i + 1 + n = i + n + 1 by omega, Nat.mul_succ]; omega
  rw [e]; exact h2

theorem mC_lt (w x y i k : Nat) : mC w x y i k < 2 ^ w := by
  rw [mC, Nat.div_lt_iff_lt_mul (Nat.two_pow_pos _), mN]
  have h1 : mU w x y i % 2 ^ (w * (i + k)) < 2 ^ (w * (i + k)) := Nat.mod_lt _ (Nat.two_pow_pos _)
  have hx : x / 2 ^ (w * i) % 2 ^ w < 2 ^ w := Nat.mod_lt _ (Nat.two_pow_pos _)
  have hy : y % 2 ^ (w * k) < 2 ^ (w * k) := Nat.mod_lt _ (Nat.two_pow_pos _)
  have hW : 0 < 2 ^ w := Nat.two_pow_pos _
  generalize x / 2 ^ (w * i) % 2 ^ w = a at *
  generalize y % 2 ^ (w * k) = b at *
  have h2 : a * b * 2 ^ (w * i) ≤ (2 ^ w - 1) * 2 ^ (w * k) * 2 ^ (w * i) := Nat.mul_le_mul_right _ (Nat.mul_le_mul (by omega) (by omega))
  have h3 : (2 ^ w - 1) * 2 ^ (w * k) * 2 ^ (w * i) = (2 ^ w - 1) * 2 ^ (w * (i + k)) := by rw [pow_ik, Nat.mul_assoc, Nat.mul_comm (2 ^ (w * k))]
  rw [h3, Nat.sub_mul, Nat.one_mul] at h2
  have h4 : 1 * 2 ^ (w * (i + k)) ≤ 2 ^ w * 2 ^ (w * (i + k)) := Nat.mul_le_mul_right _ hW
  omega

theorem mul_word {ab u c : Nat} (hab : ab ≤ 18446744073709551615 * 18446744073709551615) (hu : u < 2 ^ 64) (hc : c < 2 ^ 64) :
    ((ab % 2 ^ 64 + u) % 2 ^ 64 + c) % 2 ^ 64 = (c + u + ab) % 2 ^ 64 ∧ ((ab / 2 ^ 64 + (ab % 2 ^ 64 + u) / 2 ^ 64) % 2 ^ 64 + ((ab % 2 ^ 64 + u) % 2 ^ 64 + c) / 2 ^ 64) % 2 ^ 64 = (c + u + ab) / 2 ^ 64 := by
  constructor <;> omega

abbrev widev (x : Nat) : V := .agg (us 64 (dl 64 18 x))
theorem widev_noHp (x k : Nat) : noHp (k + 2) (widev x) = true := by simp only [widev, noHp]; exact us_noHp 64 k _
theorem zero18 : z18 = us 64 (dl 64 18 0) := rfl
theorem part_tb {n w : Nat} (f : Nat → Nat) (i : Nat) (hi : i < n) : part (us w (tb n f)) i none = some (.u w (f i)) := by simp only [part]; exact us_get (tb_get hi)
theorem nw_lt {x : Nat} (hx : x < M) : x < 2 ^ (64 * nw x) := by
  have := nw_top hx 0
  rw [Nat.add_zero, Nat.div_eq_zero_iff_lt (Nat.two_pow_pos _)] at this
  exact this

theorem r_natMul {x y : Nat} (hx : x < M) (hy : y < M) : Run T f_nat_Mul [natv x, natv y] [] = some (widev (x * y), []) := by
  rw [Run_at T _ (show T f_nat_Mul = some m_nat_Mul from rfl)]
  simp only [c_nat_Mul, zero18]
  obtain ⟨m, hm⟩ : ∃ m, m = nw x := ⟨_, rfl⟩
  obtain ⟨n, hn⟩ : ∃ n, n = nw y := ⟨_, rfl⟩
  have c1 := r_used x
  have c2 := r_used y
  rw [← hm] at c1
  rw [← hn] at c2
  have hm9 : m ≤ 9 := by rw [hm]; exact nw_le x
  have hn9 : n ≤ 9 := by rw [hn]; exact nw_le y
  have hyn : y < 2 ^ (64 * n) := by rw [hn]; exact nw_lt hy
  have hxm : x < 2 ^ (64 * m) := by rw [hm]; exact nw_lt hx
  obtain ⟨p, hp⟩ : ∃ p : Nat → Nat, ∀ i, p i = x / 2 ^ (64 * i) % 2 ^ 64 := ⟨_, fun _ => rfl⟩
  obtain ⟨q, hq⟩ : ∃ q : Nat → Nat, ∀ i, q i = y / 2 ^ (64 * i) % 2 ^ 64 := ⟨_, fun _ => rfl⟩
  obtain ⟨U, hU⟩ : ∃ U : Nat → Nat → Nat, ∀ i j, U i j = mU 64 x y i / 2 ^ (64 * j) % 2 ^ 64 := ⟨_, fun _ _ => rfl⟩
  obtain ⟨W, hW⟩ : ∃ W : Nat → Nat → Nat → Nat, ∀ i k j, W i k j = mT 64 x y i k / 2 ^ (64 * j) % 2 ^ 64 := ⟨_, fun _ _ _ => rfl⟩
  obtain ⟨c, hc⟩ : ∃ c : Nat → Nat → Nat, ∀ i k, c i k = mC 64 x y i k := ⟨_, fun _ _ => rfl⟩
  have hl : dl 64 9 x = tb 9 p := tb_congr fun j hj => (hp j).symm
  have hl2 : dl 64 9 y = tb 9 q := tb_congr fun j hj => (hq j).symm
  simp only [natv, hl, hl2]
  rw [hl] at c1
  rw [hl2] at c2
  have hpl : ∀ i, p i < 2 ^ 64 := fun i => by rw [hp]; exact Nat.mod_lt _ (Nat.two_pow_pos 64)
  have hql : ∀ i, q i < 2 ^ 64 := fun i => by rw [hq]; exact Nat.mod_lt _ (Nat.two_pow_pos 64)
  have hnv : ∀ k (f : Nat → Nat), noHp (k + 1 + 1) (.vr (us 64 (tb 9 f)) 0) = true := fun k f => GY k 64 0 _
  simp only [EE,EX,Nat.reduceLeDiff,Nat.reduceEqDiff,Int.reduceEq,reduceCtorEq,Nat.reduceAdd,Nat.reduceMul,if_true,if_false,decide_true,decide_false, c1, c2]
  rw [loop_use T (fun i => ⟨[(2, .vr (us 64 (tb 9 p)) 0), (3, .vr (us 64 (tb 9 q)) 0), (4, .loc (us 64 (dl 64 18 0))), (5, .loc (us 64 (tb 18 fun j => U i j))), (7, .i (n : Int)), (16, .i (m : Int)), (17, .i (i : Int))], []⟩) m
    (.exit 0, ⟨[(4, .loc (us 64 (dl 64 18 0))), (5, .loc (us 64 (tb 18 fun j => U m j)))], []⟩) ?h0 (by simp) ?hs ?hn]
  · have k1 : tb 18 (fun j => U m j) = dl 64 18 (x * y) := tb_congr fun j hj => by rw [hU, mU, Nat.mod_eq_of_lt hxm]
    simp only [EE,EX,Nat.reduceLeDiff,Nat.reduceEqDiff,Int.reduceEq,reduceCtorEq,Nat.reduceAdd,Nat.reduceMul,if_true,if_false,decide_true,decide_false, k1]
  · have : dl 64 18 0 = tb 18 (fun j => U 0 j) := tb_congr fun j hj => by rw [hU, mU]; simp [Nat.mod_one]
    rw [← this]; rfl
  · intro i hi
    have k1 : decide ((i : Int) < (m : Int)) = true := by simp; omega
    obtain ⟨i1, hi1⟩ : ∃ i1, i1 = i + 1 := ⟨_, rfl⟩
    have k2 : F (w64 ((i : Int) + 1)) (i1 : Int) := ⟨by unfold w64; omega⟩
    have hi9 : i < 9 := by omega
    have hin : i + n < 18 := by omega
    simp only [EE,EX,Nat.reduceLeDiff,Nat.reduceEqDiff,Int.reduceEq,reduceCtorEq,Nat.reduceAdd,Nat.reduceMul,if_true,if_false,decide_true,decide_false, k1]
    rw [loop_use T (fun k => ⟨[(2, .vr (us 64 (tb 9 p)) 0), (3, .vr (us 64 (tb 9 q)) 0), (4, .loc (us 64 (dl 64 18 0))), (5, .loc (us 64 (tb 18 fun j => if j < i + k then W i k j else U i j))), (7, .i (n : Int)), (8, .i (i : Int)), (9, .u 64 (c i k)), (16, .i (m : Int)), (17, .i (i : Int)), (20, .i (n : Int)), (21, .i (k : Int))], []⟩) n
      (.exit 2, ⟨[(2, .vr (us 64 (tb 9 p)) 0), (3, .vr (us 64 (tb 9 q)) 0), (4, .loc (us 64 (dl 64 18 0))), (5, .loc (us 64 (tb 18 fun j => if j < i + n then W i n j else U i j))), (7, .i (n : Int)), (8, .i (i : Int)), (9, .u 64 (c i n)), (16, .i (m : Int)), (17, .i (i : Int))], []⟩) ?g0 (by simp) ?gs ?gn]
    · obtain ⟨s, hs⟩ : ∃ s, s = i + n := ⟨_, rfl⟩
      have k3 : F (w64 ((i : Int) + (n : Int))) (s : Int) := ⟨by rw [hs]; unfold w64; omega⟩
      have k4 := ixOf_nat (show s < 18 by omega)
      have k5 : (s + 1 ≤ 18) = True := by simp; omega
      have k6 : tb 18 (fun j => if j = s then c i n else if j < s then W i n j else U i j) = tb 18 (fun j => U i1 j) := tb_congr fun j hj => by
        obtain ⟨e1, e2⟩ := mC_end 64 x y i n hyn
        by_cases h : j = s
        · rw [if_pos h, hc, hU, hi1, h, hs]; exact e2
        · rw [if_neg h]
          by_cases h2 : j < s
          · rw [if_pos h2, hW, hU, mU_succ 64 x y i n hyn, hi1]
          · rw [if_neg h2, hU, hU, word_zero (mU_lt 64 x y i n hyn) (by omega), word_zero (mU_lt 64 x y i1 n hyn) (by omega)]
      rw [← hs, ← hi1]
      simp only [EE,EX,Nat.reduceLeDiff,Nat.reduceEqDiff,Int.reduceEq,reduceCtorEq,Nat.reduceAdd,Nat.reduceMul,if_true,if_false,decide_true,decide_false, k2.eq, k3.eq, k4, k5, k6]
    · have e1 : tb 18 (fun j => U i j) = tb 18 (fun j => if j < i + 0 then W i 0 j else U i j) := tb_congr fun j hj => by
        by_cases h : j < i + 0
        · rw [if_pos h, hU, hW, mT, Nat.mul_zero, Nat.pow_zero, Nat.mod_one, Nat.mul_zero, Nat.zero_mul, Nat.add_zero]
        · rw [if_neg h]
      have e2 : c i 0 = 0 := by rw [hc, mC_zero]
      rw [e1]; simp only [e2]; rfl
    · intro k hk
      obtain ⟨s, hs⟩ : ∃ s, s = i + k := ⟨_, rfl⟩
      obtain ⟨s1, hs1⟩ : ∃ s1, s1 = i + (k + 1) := ⟨_, rfl⟩
      obtain ⟨k', hk'⟩ : ∃ k', k' = k + 1 := ⟨_, rfl⟩
      have hs18 : s < 18 := by omega
      have l1 : decide ((k : Int) < (n : Int)) = true := by simp; omega
      have l2 := ixOf_nat hi9
      have l3 := ixOf_nat (show k < 9 by omega)
      have l4 := part_tb (w := 64) p i hi9
      have l5 := part_tb (w := 64) q k (show k < 9 by omega)
      have l6 := r_Mul64 (hpl i) (hql k)
      have l7 : F (w64 ((i : Int) + (k : Int))) (s : Int) := ⟨by rw [hs]; unfold w64; omega⟩
      have l8 := ixOf_nat hs18
      have l9 := part_tb (w := 64) (fun j => if j < s then W i k j else U i j) s hs18
      rw [if_neg (Nat.lt_irrefl s)] at l9
      have l10 : F (w64 ((k : Int) + 1)) (k' : Int) := ⟨by rw [hk']; unfold w64; omega⟩
      have l11 : (s + 1 ≤ 18) = True := by simp; omega
      have hab : p i * q k ≤ 18446744073709551615 * 18446744073709551615 := Nat.mul_le_mul (by have := hpl i; omega) (by have := hql k; omega)
      have hul : U i s < 2 ^ 64 := by rw [hU]; exact Nat.mod_lt _ (Nat.two_pow_pos 64)
      have hcl : c i k < 2 ^ 64 := by rw [hc]; exact mC_lt 64 x y i k
      obtain ⟨w1, w2⟩ := mul_word hab hul hcl
      have w3 : (c i k + U i s + p i * q k) % 2 ^ 64 = W i k' s := by rw [hc, hU, hp, hq, hW, hs, hk']; exact mT_word 64 x y i k
      have w4 : (c i k + U i s + p i * q k) / 2 ^ 64 = c i k' := by rw [hc, hU, hp, hq, hc, hs, hk']; exact mC_step 64 x y i k
      rw [w3] at w1
      rw [w4] at w2
      have l12 : tb 18 (fun j => if j = s then W i k' s else if j < s then W i k j else U i j) = tb 18 (fun j => if j < s1 then W i k' j else U i j) := tb_congr fun j hj => by
        by_cases h : j = s
        · rw [if_pos h, if_pos (by omega), h]
        · rw [if_neg h]
          by_cases h2 : j < s
          · rw [if_pos h2, if_pos (by omega), hW, hW, hk', mT_low 64 x y i k j (by omega)]
          · rw [if_neg h2, if_neg (by omega)]
      obtain ⟨ab, hab'⟩ : ∃ ab, ab = p i * q k := ⟨_, rfl⟩
      rw [← hab'] at l6 w1 w2
      obtain ⟨hh, hhh⟩ : ∃ z, ab / 2 ^ 64 = z := ⟨_, rfl⟩
      obtain ⟨ll, hll⟩ : ∃ z, ab % 2 ^ 64 = z := ⟨_, rfl⟩
      rw [hhh] at l6 w2
      rw [hll] at l6 w1 w2
      obtain ⟨a1, ha1⟩ : ∃ z, (ll + U i s) % 2 ^ 64 = z := ⟨_, rfl⟩
      obtain ⟨a2, ha2⟩ : ∃ z, (ll + U i s) / 2 ^ 64 = z := ⟨_, rfl⟩
      rw [ha1] at w1 w2
      rw [ha2] at w2
      obtain ⟨a3, ha3⟩ : ∃ z, (hh + a2) % 2 ^ 64 = z := ⟨_, rfl⟩
      obtain ⟨a4, ha4⟩ : ∃ z, (a1 + c i k) / 2 ^ 64 = z := ⟨_, rfl⟩
      rw [ha3, ha4] at w2
      rw [← hs, ← hs1, ← hk']
      simp only [EE,EX,Nat.reduceLeDiff,Nat.reduceEqDiff,Int.reduceEq,reduceCtorEq,Nat.reduceAdd,Nat.reduceMul,if_true,if_false,decide_true,decide_false, l1, l2, l3, l4, l5, l6, l7.eq, l8, l9, l10.eq, l11, l12, ha1, ha2, ha3, ha4, w1, w2]
    · have l1 : decide ((n : Int) < (n : Int)) = false := by simp
      simp only [EE,EX,Nat.reduceLeDiff,Nat.reduceEqDiff,Int.reduceEq,reduceCtorEq,Nat.reduceAdd,Nat.reduceMul,if_true,if_false,decide_true,decide_false, l1]
  · have k1 : decide ((m : Int) < (m : Int)) = false := by simp
    simp only [EE,EX,Nat.reduceLeDiff,Nat.reduceEqDiff,Int.reduceEq,reduceCtorEq,Nat.reduceAdd,Nat.reduceMul,if_true,if_false,decide_true,decide_false, k1]

end Mir

namespace Mir

theorem eqL_us (w : Nat) : ∀ (n : Nat) (l m : List Nat), l.length = n → m.length = n → eqL (List.replicate n (.u w)) (us w l) (us w m) = some (decide (l = m))
  | 0, [], [], _, _ => rfl
  | n + 1, a :: l, c :: m, h1, h2 => by
    have ih := eqL_us w n l m (by simpa using h1) (by simpa using h2)
    show (match eqC (.u w) (.u w a) (.u w c), eqL (List.replicate n (.u w)) (us w l) (us w m) with
      | some x, some y => some (x && y)
      | _, _ => none) = _
    rw [ih]
    simp only [eqC, and_self, if_true]
    congr 1
    by_cases h : a = c <;> by_cases h' : l = m <;> simp [h, h']

theorem eq9 {x y : Nat} (hx : x < M) (hy : y < M) : eqV (.agg [.u 64, .u 64, .u 64, .u 64, .u 64, .u 64, .u 64, .u 64, .u 64]) (.agg (us 64 (dl 64 9 x))) (.agg (us 64 (dl 64 9 y))) = some (decide (x = y)) := by
  have h := eqL_us 64 9 (dl 64 9 x) (dl 64 9 y) (dl_len ..) (dl_len ..)
  show eqL (List.replicate 9 (.u 64)) _ _ = _
  rw [h]
  congr 1
  by_cases h1 : x = y
  · subst h1; simp
  · have : dl 64 9 x ≠ dl 64 9 y := fun e => h1 (dl_inj e (M64 ▸ hx) (M64 ▸ hy))
    simp [h1, this]

theorem eq9s (x : Nat) : eqV (.agg [.u 64, .u 64, .u 64, .u 64, .u 64, .u 64, .u 64, .u 64, .u 64]) (.agg (us 64 (dl 64 9 x))) (.agg (us 64 (dl 64 9 x))) = some true := by
  have h := eqL_us 64 9 (dl 64 9 x) (dl 64 9 x) (dl_len ..) (dl_len ..)
  show eqL (List.replicate 9 (.u 64)) _ _ = _
  rw [h]; simp
end Mir

namespace Mir

/-- A number's bytes, so many, the highest first. -/
def bs (n x : Nat) : List Nat := tb n fun j => x / 2 ^ (8 * (n - 1 - j)) % 2 ^ 8
theorem mapM_us (l : List Nat) : (us 8 l).mapM byteOf = some l := by
  induction l with
  | nil => rfl
  | cons x l ih =>
    have : us 8 (x :: l) = V.u 8 x :: us 8 l := rfl
    rw [this, List.mapM_cons, ih]
    rfl
/-- The number of the lowest bytes of so many. -/
def vb (n : Nat) (f : Nat → Nat) : Nat → Nat
  | 0 => 0
  | i + 1 => vb n f i + f (n - 1 - i) * 2 ^ (8 * i)
theorem vb_lt {n : Nat} {f : Nat → Nat} (hf : ∀ j, j < n → f j < 256) : ∀ i, i ≤ n → vb n f i < 2 ^ (8 * i)
  | 0, _ => by simp [vb]
  | i + 1, h => by
    have ih := vb_lt hf i (by omega)
    have h1 := hf (n - 1 - i) (by omega)
    have h2 : f (n - 1 - i) * 2 ^ (8 * i) ≤ 255 * 2 ^ (8 * i) := Nat.mul_le_mul_right _ (by omega)
    rw [vb, Nat.mul_succ, Nat.pow_add]
    omega
/-- A byte put in above. -/
theorem or_above {v d q r : Nat} (hv : v < 2 ^ (64 * q + r)) (hd : d < 256) (hr : r ≤ 56) : tb 9 (fun j => if j = q then v / 2 ^ (64 * q) % 2 ^ 64 ||| d * 2 ^ r % 2 ^ 64 else v / 2 ^ (64 * j) % 2 ^ 64) = dl 64 9 (v + d * 2 ^ (64 * q + r)) := tb_congr fun j hj => by
  have hB : 0 < 2 ^ (64 * q) := Nat.two_pow_pos _
  rcases Nat.lt_trichotomy j q with h | h | h
  · rw [if_neg (by omega)]
    have e : d * 2 ^ (64 * q + r) = 2 ^ (64 * j) * (2 ^ 64 * (2 ^ (64 * (q - j - 1) + r) * d)) := by
      rw [← Nat.mul_assoc, ← Nat.mul_assoc, ← Nat.pow_add, ← Nat.pow_add, Nat.mul_comm]; congr 2; omega
    rw [e, Nat.add_mul_div_left _ _ (Nat.two_pow_pos _), Nat.add_mul_mod_self_left]
  · rw [if_pos h, h]
    have h1 : v / 2 ^ (64 * q) < 2 ^ r := by
      rw [Nat.div_lt_iff_lt_mul hB, ← Nat.pow_add, Nat.add_comm]; exact hv
    have h2 : 2 ^ r ≤ 2 ^ 56 := Nat.pow_le_pow_right (by omega) hr
    have h3 : d * 2 ^ r ≤ 255 * 2 ^ r := Nat.mul_le_mul_right _ (by omega)
    have e : d * 2 ^ (64 * q + r) = 2 ^ (64 * q) * (d * 2 ^ r) := by rw [Nat.pow_add, Nat.mul_left_comm]
    rw [e, Nat.add_mul_div_left _ _ hB, Nat.mod_eq_of_lt (a := v / 2 ^ (64 * q)) (by omega), Nat.mod_eq_of_lt (a := d * 2 ^ r) (by omega), Nat.mod_eq_of_lt (by omega)]
    rw [Nat.or_comm, Nat.mul_comm d, ← Nat.two_pow_add_eq_or_of_lt h1, Nat.add_comm]
  · rw [if_neg (by omega)]
    have e1 : 2 ^ (64 * j) = 2 ^ (64 * q) * (2 ^ 64 * 2 ^ (64 * (j - q - 1))) := by
      rw [← Nat.pow_add, ← Nat.pow_add]; congr 1; omega
    have h5 : v + d * 2 ^ (64 * q + r) < 2 ^ (64 * j) := by
      have h1 : d * 2 ^ (64 * q + r) ≤ 255 * 2 ^ (64 * q + r) := Nat.mul_le_mul_right _ (by omega)
      have h2 : 2 ^ 8 * 2 ^ (64 * q + r) ≤ 2 ^ (64 * j) := by rw [← Nat.pow_add]; exact Nat.pow_le_pow_right (by omega) (by omega)
      omega
    rw [Nat.div_eq_of_lt h5, Nat.div_eq_of_lt (Nat.lt_of_le_of_lt (Nat.le_add_right _ _) h5)]

theorem r_natOf {n : Nat} {f : Nat → Nat} (hn : n ≤ 72) (hf : ∀ j, j < n → f j < 256) : Run T f_nat_Of [.s (tb n f)] [] = some (.tup [natv (vb n f n), .i 0], []) := by
  rw [Run_at T _ (show T f_nat_Of = some m_nat_Of from rfl)]
  simp only [c_nat_Of, zero9]
  have k1 : decide (n < 9223372036854775808) = true := by simp; omega
  have k2 : decide ((72 : Int) < (n : Int)) = false := by simp; omega
  simp only [EE,EX,Nat.reduceLeDiff,Nat.reduceEqDiff,Int.reduceEq,reduceCtorEq,Nat.reduceAdd,Nat.reduceMul,if_true,if_false,decide_true,decide_false, k1, k2]
  rw [loop_use T (fun i => ⟨[(0, .s (tb n f)), (2, .loc (us 64 (dl 64 9 0))), (4, .loc (us 64 (dl 64 9 (vb n f i)))), (12, .i (n : Int)), (13, .i (i : Int))], []⟩) n
    (.exit 0, ⟨[(2, .loc (us 64 (dl 64 9 0))), (4, .loc (us 64 (dl 64 9 (vb n f n))))], []⟩) ?h0 (by simp) ?hs ?hn]
  · simp only [EE,EX,Nat.reduceLeDiff,Nat.reduceEqDiff,Int.reduceEq,reduceCtorEq,Nat.reduceAdd,Nat.reduceMul,if_true,if_false,decide_true,decide_false]
  · rfl
  · intro i hi
    obtain ⟨q, hq⟩ : ∃ q, q = i / 8 := ⟨_, rfl⟩
    obtain ⟨r, hr⟩ : ∃ r, r = i % 8 := ⟨_, rfl⟩
    obtain ⟨r8, hr8⟩ : ∃ r8, r8 = 8 * r := ⟨_, rfl⟩
    obtain ⟨n1, hn1⟩ : ∃ n1, n1 = n - 1 := ⟨_, rfl⟩
    obtain ⟨j, hj⟩ : ∃ j, j = n - 1 - i := ⟨_, rfl⟩
    obtain ⟨v, hv⟩ : ∃ v, v = vb n f i := ⟨_, rfl⟩
    have hvl : v < 2 ^ (64 * q + r8) := by rw [hv, show 64 * q + r8 = 8 * i by omega]; exact vb_lt hf i (by omega)
    have hfj := hf j (by omega)
    have hor := or_above hvl hfj (by omega)
    have hstep : vb n f (i + 1) = v + f j * 2 ^ (64 * q + r8) := by rw [vb, hv, hj, show 64 * q + r8 = 8 * i by omega]
    rw [hstep, ← hor, ← hv]
    have l1 : decide ((i : Int) < (n : Int)) = true := by simp; omega
    have l2 : F (w64 ((n : Int) - 1)) (n1 : Int) := ⟨by unfold w64; omega⟩
    have l3 : F (w64 ((n1 : Int) - (i : Int))) (j : Int) := ⟨by unfold w64; omega⟩
    have l4 : F (w64 (Int.tdiv (i : Int) 8)) (q : Int) := ⟨by rw [Int.tdiv_eq_ediv_of_nonneg (by omega)]; unfold w64; omega⟩
    have l5 : F (Int.tmod (i : Int) 8) (r : Int) := ⟨by rw [Int.tmod_eq_emod_of_nonneg (by omega)]; omega⟩
    have l6 : F (w64 (8 * (r : Int))) (r8 : Int) := ⟨by rw [hr8]; unfold w64; omega⟩
    have l7 : F (min r8 64) r8 := ⟨by omega⟩
    have l8 := ixOf_nat (show q < 9 by omega)
    have l9 := dl_part (x := v) (show q < 9 by omega)
    have l10 := ixOf_nat (show j < n by omega)
    have l11 : (tb n f)[j]? = some (f j) := tb_get (by omega)
    have l12 : f j % 2 ^ 64 = f j := Nat.mod_eq_of_lt (by omega)
    have l13 : (q + 1 ≤ 9) = True := by simp; omega
    have l14 : F (w64 ((i : Int) + 1)) ((i + 1 : Nat) : Int) := ⟨by unfold w64; omega⟩
    have l15 : ∀ z, (us 64 (dl 64 9 v)).set q (.u 64 z) = us 64 (tb 9 fun a => if a = q then z else v / 2 ^ (64 * a) % 2 ^ 64) := fun z => by
      rw [us_set, dl, tb_set]
    simp only [EE,EX,Nat.reduceLeDiff,Nat.reduceEqDiff,Int.reduceEq,reduceCtorEq,Nat.reduceAdd,Nat.reduceMul,if_true,if_false,decide_true,decide_false, k1, l1, l2.eq, l3.eq, l4.eq, l5.eq, l6.eq, l7.eq, l8, l9, l10, l11, l12, l13, l14.eq, l15]
  · have l1 : decide ((n : Int) < (n : Int)) = false := by simp
    simp only [EE,EX,Nat.reduceLeDiff,Nat.reduceEqDiff,Int.reduceEq,reduceCtorEq,Nat.reduceAdd,Nat.reduceMul,if_true,if_false,decide_true,decide_false, l1, k1]

end Mir

