/- Chapter 17: a scalar's digits. Conditions: none. -/
import Derived.Test.YtmfbmdbabebhmaaGreatWinA
set_option linter.unusedVariables false
set_option linter.unusedSimpArgs false
set_option exponentiation.threshold 5000
set_option maxRecDepth 20000
namespace Mir

theorem is_snoc (L : List Int) (z : Int) : is L ++ [V.i z] = is (L ++ [z]) := by simp [is]

/-- So many digits of w bits, the highest first. -/
def dgt (x w n j : Nat) : Nat := x / 2 ^ ((n - 1 - j) * w) % 2 ^ w
def ints (n : Nat) (f : Nat → Nat) : List V := is (tb n fun j => ((f j : Nat) : Int))

theorem tb_take_self {α : Type} (n : Nat) (f : Nat → α) : (tb n f).take n = tb n f := tb_take (Nat.le_refl n) f

/-- Memory after so many appends. -/
def apH (f : Nat → Nat) : Nat → Heap
  | 0 => []
  | i + 1 => List.replicate i none ++ [some (ints (i + 1) f)]
def apV : Nat → V
  | 0 => .nils
  | i + 1 => .hs 1 i 0 (i + 1) (i + 1)

theorem apH_len (f : Nat → Nat) (i : Nat) : (apH f i).length = i := by
  cases i with
  | zero => rfl
  | succ i => simp [apH]
theorem apH_row (f : Nat → Nat) (i : Nat) : row (apH f (i + 1)) i = some (ints (i + 1) f) := by
  simp [row, apH]
theorem apH_next (f : Nat → Nat) (i : Nat) : (apH f (i + 1)).set i none ++ [some (ints (i + 2) f)] = apH f (i + 2) := by
  have : ((List.replicate i (none : Option (List V)) ++ [some (ints (i + 1) f)]).set i none) = List.replicate (i + 1) none := by
    apply List.ext_getElem
    · simp
    · intro k h1 h2
      simp only [List.length_set, List.length_append, List.length_replicate, List.length_singleton] at h1
      by_cases h : k = i
      · subst h; simp
      · rw [List.getElem_set_ne (Ne.symm h)]
        rw [List.getElem_append_left (by simp; omega)]
        simp
  simp only [apH, this]

/-- One append more. -/
theorem apd_step (f : Nat → Nat) (i z : Nat) (hz : z = f i) (hi : i < 1000000) : appO (apH f i) 1 8 (some [V.i (z : Int)]) (some 1) (apV i) = some (apV (i + 1), apH f (i + 1)) := by
  subst hz
  have okc1 : okA 1 8 (i + 1) 1 [V.i ((f i : Nat) : Int)] = true := by
    simp [okA, roomOk, cellV]
    omega
  cases i with
  | zero =>
    have okc0 : okA 1 8 1 1 [V.i ((f 0 : Nat) : Int)] = true := okc1
    have h1 : decide (1 = 0) = false := rfl
    simp only [apV, Gs, okc0, h1, Gu, apH]
    rfl
  | succ i =>
    have h1 : decide (0 + (i + 1) * 1 ≤ (ints (i + 1) f).length) = true := by simp [ints, is_len, tb_len]
    have h2 : ((ints (i + 1) f).drop 0).take ((i + 1) * 1) ++ [V.i ((f (i + 1) : Nat) : Int)] = ints (i + 2) f := by
      simp only [ints, List.drop_zero, Nat.mul_one, is_take, tb_take_self, is_snoc]
      rw [tb_snoc (i + 1)]
    simp only [apV, Gv, apH_row, Gw, h1, okc1, Gx, h2, apH_next, apH_len]

theorem r_Digits {x b w : Nat} (hx : x < M) (hb1 : 1 ≤ b) (hb : b ≤ 576) (hw1 : 1 ≤ w) (hw : w ≤ 6) (hbl : bl x ≤ b) :
    Run T f_window_Digits [natv x, .i (b : Int), .i (w : Int)] [] = some (.tup [.vs ((b + w - 1) / w) (ints ((b + w - 1) / w) (dgt x w ((b + w - 1) / w))), .i 0], []) := by
  rw [Run_at T _ (show T f_window_Digits = some m_window_Digits from rfl)]
  simp only [c_window_Digits]
  obtain ⟨n, hn⟩ : ∃ n, n = (b + w - 1) / w := ⟨_, rfl⟩
  rw [← hn]
  have hmul : (b + w - 1) / w * w ≤ b + w - 1 := Nat.div_mul_le_self _ _
  rw [← hn] at hmul
  have hn1 : 1 ≤ n := by rw [hn, Nat.le_div_iff_mul_le (by omega)]; omega
  have hn2 : n ≤ 581 := by
    have : n ≤ b + w - 1 := by rw [hn]; exact Nat.div_le_self _ _
    omega
  have c1 := r_wide (w : Int)
  have c2 : decide (1 ≤ (w : Int) ∧ (w : Int) ≤ 6) = true := by simp; omega
  rw [c2] at c1
  have c3 := r_natBits hx
  have g1 : decide ((b : Int) < 1) = false := by simp; omega
  have g2 : decide ((576 : Int) < (b : Int)) = false := by simp; omega
  have g3 : decide ((b : Int) < ((bl x : Nat) : Int)) = false := by simp; omega
  obtain ⟨bw, hbw⟩ : ∃ bw : Nat, bw = b + w := ⟨_, rfl⟩
  obtain ⟨bw1, hbw1⟩ : ∃ bw1 : Nat, bw1 = b + w - 1 := ⟨_, rfl⟩
  obtain ⟨a, ha⟩ : ∃ a : Nat → Int, ∀ i, a i = (n : Int) - 1 - (i : Int) := ⟨_, fun _ => rfl⟩
  have a0 := ha 0
  have hn' : n = bw1 / w := by rw [hn, hbw1]
  have g4 : F (w64 ((b : Int) + (w : Int))) (bw : Int) := ⟨by unfold w64; omega⟩
  have g5 : F (w64 ((bw : Int) - 1)) (bw1 : Int) := ⟨by unfold w64; omega⟩
  have g6 : F (w64 (Int.tdiv (bw1 : Int) (w : Int))) (n : Int) := ⟨by
    rw [Int.tdiv_eq_ediv_of_nonneg (by omega), ← Int.natCast_ediv, ← hn']
    exact w64_of (by omega) (by omega)⟩
  have g7 : decide ((w : Int) = 0) = false := by simp; omega
  have g8 : F (w64 ((n : Int) - 1)) (a 0) := ⟨by unfold w64; omega⟩
  obtain ⟨f, hf⟩ : ∃ f : Nat → Nat, ∀ j, f j = dgt x w n j := ⟨_, fun _ => rfl⟩
  have hff : ints n (dgt x w n) = ints n f := by
    simp only [ints]; congr 1; exact tb_congr fun j hj => by rw [hf]
  rw [hff]
  simp only [EE,EX,Nat.reduceLeDiff,Nat.reduceEqDiff,Int.reduceEq,reduceCtorEq,Nat.reduceAdd,Nat.reduceMul,if_true,if_false,decide_true,decide_false, c1, c3, g1, g2, g3, g4.eq, g5.eq, g6.eq, g7, g8.eq, natv_noHp]
  rw [loop_use T (fun i => ⟨[(2, .i (w : Int)), (3, .vr (us 64 (dl 64 9 x)) 0), (8, apV i), (9, .i (a i))], apH f i⟩) n
    (.exit 0, ⟨[(8, apV n)], apH f n⟩) ?h0 (by simp) ?hs ?hn]
  · obtain ⟨m, rfl⟩ : ∃ m, n = m + 1 := ⟨n - 1, by omega⟩
    have k1 := apH_row f m
    have k2 : (ints (m + 1) f).length = m + 1 := by simp [ints, is_len, tb_len]
    simp only [apV, ints] at k1 k2 ⊢
    simp only [EE,EX,Nat.reduceLeDiff,Nat.reduceEqDiff,Int.reduceEq,reduceCtorEq,Nat.reduceAdd,Nat.reduceMul,if_true,if_false,decide_true,decide_false, k1, Nat.not_lt_zero, tb_take_self]
  · rfl
  · intro i hi
    obtain ⟨m, hm⟩ : ∃ m, m = n - 1 - i := ⟨_, rfl⟩
    have hai : a i = (m : Int) := by rw [ha]; omega
    have hai1 : a (i + 1) = (m : Int) - 1 := by rw [ha]; omega
    obtain ⟨t, ht⟩ : ∃ t, t = m * w := ⟨_, rfl⟩
    have htb : t ≤ 575 := by
      have h1 : t + w ≤ n * w := by
        rw [ht, ← Nat.succ_mul]
        exact Nat.mul_le_mul_right _ (by omega)
      omega
    have k1 : decide ((0 : Int) ≤ a i) = true := by rw [hai]; simp
    have k2 : F (w64 (a i * (w : Int))) (t : Int) := ⟨by rw [hai, ← Int.natCast_mul, ← ht]; exact w64_of (by omega) (by omega)⟩
    have k3 : (if (576 : Int) < (t : Int) then (576 : Int) else (t : Int)) = (t : Int) := if_neg (by omega)
    have k4 := r_natShr hx (k := t) (by omega)
    obtain ⟨y, hy⟩ : ∃ y, y = x / 2 ^ t := ⟨_, rfl⟩
    rw [← hy] at k4
    have k5 := ixOf_nat (n := 9) (k := 0) (by omega)
    rw [Int.natCast_zero] at k5
    have k6 := dl_part (x := y) (i := 0) (by omega)
    rw [Nat.mul_zero, Nat.pow_zero, Nat.div_one] at k6
    have k7 : F (min w 64) w := ⟨by omega⟩
    have k8 := mask64 (y % 2 ^ 64) (k := w) (by omega)
    have k9 : y % 2 ^ 64 % 2 ^ w = f i := by
      rw [Nat.mod_mod_of_dvd _ (Nat.pow_dvd_pow 2 (by omega : w ≤ 64)), hf, dgt, ← hm, ← ht, hy]
    rw [k9] at k8
    have hfl : f i < 2 ^ 6 := by rw [← k9]; exact Nat.lt_of_lt_of_le (Nat.mod_lt _ (Nat.two_pow_pos w)) (Nat.pow_le_pow_right (by omega) hw)
    have k10 : F (w64 ((f i : Nat) : Int)) ((f i : Nat) : Int) := ⟨w64_of (by omega) (by omega)⟩
    have k11 := apd_step f i (f i) rfl (by omega)
    have k12 : F (w64 (a i - 1)) (a (i + 1)) := ⟨by rw [hai, hai1]; exact w64_of (by omega) (by omega)⟩
    have k13 : splice (us 64 (dl 64 9 0)) 0 (us 64 (dl 64 9 y)) = us 64 (dl 64 9 y) := sp_us (by rw [us_len, dl_len, dl_len])
    have k14 : splice [V.i 0] 0 [V.i ((f i : Nat) : Int)] = [V.i ((f i : Nat) : Int)] := rfl
    have k15 : okc 1 [V.i ((f i : Nat) : Int)] 0 [V.i 0].length = true := by simp [okc, cellV]
    have k16 : evV (apV i) = apV i := by cases i <;> rfl
    have k17 : san (apV i) = apV i := by cases i <;> rfl
    have k18 : evV (apV (i + 1)) = apV (i + 1) := rfl
    have k19 : san (apV (i + 1)) = apV (i + 1) := rfl
    simp only [Nat.one_mul] at k8
    simp only [EE,EX,Nat.reduceLeDiff,Nat.reduceEqDiff,Int.reduceEq,reduceCtorEq,Nat.reduceAdd,Nat.reduceMul,if_true,if_false,decide_true,decide_false, zero9, k1, k2.eq, k3, k4, k5, k6, k7.eq, k8, k10.eq, k11, k12.eq, k13, k14, k15, k16, k17, k18, k19, natv_noHp]
  · have k1 : decide ((0 : Int) ≤ a n) = false := decide_eq_false (by rw [ha]; omega)
    have k17 : san (apV n) = apV n := by cases n <;> rfl
    simp only [EE,EX,Nat.reduceLeDiff,Nat.reduceEqDiff,Int.reduceEq,reduceCtorEq,Nat.reduceAdd,Nat.reduceMul,if_true,if_false,decide_true,decide_false, k1, k17]

end Mir
