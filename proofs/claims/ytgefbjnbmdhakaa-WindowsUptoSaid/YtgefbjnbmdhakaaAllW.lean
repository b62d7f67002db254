/- One module of several texts (Win5 WinB0 Win6 WinC0 Win7 Win8 Win9 Win10 Win11). Conditions: none. -/
import Derived.Test.YtgefbjnbmdhakaaWinA
import Derived.Test.YtgefbjnbmdhakaaAllN
import Derived.Test.YtgefbjnbmdhakaaAllR
import Derived.Test.YtgefbjnbmdhakaaAwakeW
set_option linter.unusedVariables false
set_option linter.unusedSectionVars false
set_option linter.unusedSimpArgs false
set_option exponentiation.threshold 5000
set_option maxRecDepth 20000
set_option maxHeartbeats 1000000
namespace Mir

theorem rt_1 {h : Heap} {base sz k o len cap : Nat} {l : List V} (hk : decide (k < base) = false) (hr : row h k = some l) (hle : o + cap * sz ≤ l.length) (hf : ((l.drop o).take (cap * sz)).all flat = true) :
    rtB 1 base h (.hs sz k o len cap) true = some (.hs sz base 0 len cap, h.take base ++ [some ((l.drop o).take (cap * sz))]) := by
  have hk' : ¬ k < base := of_decide_eq_false hk
  simp only [rtB, handV, ownV, if_neg hk', hr]
  rw [if_pos ⟨hle, hf⟩]
theorem rt_1t {h : Heap} {base sz k o len cap : Nat} {l : List V} {z : Int} (hk : decide (k < base) = false) (hr : row h k = some l) (hle : o + cap * sz ≤ l.length) (hf : ((l.drop o).take (cap * sz)).all flat = true) :
    rtB 1 base h (.tup [.hs sz k o len cap, .i z]) true = some (.tup [.hs sz base 0 len cap, .i z], h.take base ++ [some ((l.drop o).take (cap * sz))]) := by
  have hk' : ¬ k < base := of_decide_eq_false hk
  simp only [rtB, handV, ownV, if_neg hk', hr]
  rw [if_pos ⟨hle, hf⟩]
  rfl
theorem rt_1n (h : Heap) (base : Nat) (z : Int) : rtB 1 base h (.tup [.nils, .i z]) true = some (.tup [.nils, .i z], h.take base) := rfl
theorem rowA (H : Heap) (x : Option (List V)) : row (H ++ [x]) H.length = x := by
  simp only [row, List.getElem?_append_right (Nat.le_refl _), Nat.sub_self, List.getElem?_cons_zero]
  cases x <;> rfl
theorem setA (H : Heap) (x y : Option (List V)) : (H ++ [x]).set H.length y = H ++ [y] := by
  rw [List.set_append_right _ _ (Nat.le_refl _), Nat.sub_self]; rfl
theorem lenA (H : Heap) (x : Option (List V)) : (H ++ [x]).length = H.length + 1 := by simp
theorem takeA (H G : Heap) : (H ++ G).take H.length = H := by simp
theorem rowB (H : Heap) (x y : Option (List V)) : row (H ++ [x] ++ [y]) (H.length + 1) = y := by
  have := rowA (H ++ [x]) y
  rw [lenA] at this; exact this
theorem takeB (H : Heap) (x y : Option (List V)) : (H ++ [x] ++ [y]).take H.length = H := by rw [List.append_assoc]; exact takeA H _
theorem is_takeL (L : List Int) : (is L).take L.length = is L := by rw [List.take_of_length_le (by rw [is_len]; exact Nat.le_refl _)]

variable {H : Heap} (hlow : H.all (lowR H.length) = true)
include hlow

theorem r_CopyInts {L : List Int} (hn : L.length < 1000000000000) : Run T f_curvetlaw0_CopyInts [.vs L.length (is L)] H = some (.hs 1 H.length 0 L.length L.length, H ++ [some (is L)]) := by
  rw [Run_at T _ (show T f_curvetlaw0_CopyInts = some m_curvetlaw0_CopyInts from rfl)]
  simp only [c_curvetlaw0_CopyInts]
  have k1 : okA 1 8 (0 + L.length) L.length (is L) = true := by
    simp [okA, roomOk, is_len, is_cellV]; omega
  obtain ⟨n, hn'⟩ : ∃ n, n = L.length := ⟨_, rfl⟩
  have k3 : (is L).length = n := by rw [is_len, hn']
  have k4 : (is L).take n = is L := by rw [hn']; exact is_takeL L
  rw [← hn'] at k1 hn ⊢
  have k5 : decide (0 + 0 * 1 ≤ ([] : List V).length) = true := rfl
  have d1 : decide (H.length + 1 < H.length) = false := decide_eq_false (by omega)
  have r1 := rt_1 (h := H ++ [none] ++ [some (is L)]) (base := H.length) (sz := 1) (k := H.length + 1) (o := 0) (len := n) (cap := n) (l := is L) d1 (rowB H _ _) (by omega) (by rw [List.drop_zero, Nat.mul_one, k4]; exact is_flat L)
  rw [takeB, List.drop_zero, Nat.mul_one, k4] at r1
  have t1 := takeB H none (some (is L))
  have ra := rowA H (some [])
  have sa := setA H (some []) none
  have la := lenA H (some [])
  have hk : decide ((is L).length = n * 1) = true := by simp [k3]
  have rm : roomOk n 8 = true := by simp [roomOk]; omega
  have eL : decide (L.length = n) = true := by simp [hn']
  simp only [EE,EX,Nat.reduceLeDiff,Nat.reduceEqDiff,Int.reduceEq,reduceCtorEq,Nat.reduceAdd,Nat.reduceMul,if_true,if_false,decide_true,decide_false, rm, ra, Ge, k5, k1, Gf, sa, la, t1, hlow, r1, k3, k4, hk, eL]

theorem r_LendInts {L : List Int} (hn : L.length < 100000000000) : Run T f_curvetlaw0_LendInts [.vs L.length (is L)] H = some (.hs 1 H.length 0 L.length (L.length + 2), H ++ [some (is (L ++ [-7777, -8888]))]) := by
  rw [Run_at T _ (show T f_curvetlaw0_LendInts = some m_curvetlaw0_LendInts from rfl)]
  simp only [c_curvetlaw0_LendInts]
  have c1 := r_CopyInts hlow (L := L) (by omega)
  obtain ⟨n, hn'⟩ : ∃ n, n = L.length := ⟨_, rfl⟩
  have eL : decide (L.length = n) = true := by simp [hn']
  have k3 : (is L).length = n := by rw [is_len, hn']
  have k4 : (is L).take n = is L := by rw [hn']; exact is_takeL L
  rw [← hn'] at c1 hn ⊢
  have e2 : [V.i (-7777), V.i (-8888)] = is [-7777, -8888] := rfl
  obtain ⟨Q, hQ⟩ : ∃ Q, Q = L ++ [-7777, -8888] := ⟨_, rfl⟩
  have e3 : is L ++ is [-7777, -8888] = is (L ++ [-7777, -8888]) := by simp [is]
  rw [← hQ] at e3 ⊢
  have lQ : Q.length = n + 2 := by rw [hQ, hn']; simp
  have k6 : (is Q).take (n + 2) = is Q := by rw [← lQ]; exact is_takeL Q
  have d1 : decide (H.length + 1 < H.length) = false := decide_eq_false (by omega)
  have r1 := rt_1 (h := H ++ [none] ++ [some (is Q)]) (base := H.length) (sz := 1) (k := H.length + 1) (o := 0) (len := n) (cap := n + 2) (l := is Q) d1 (rowB H _ _) (by rw [is_len, lQ]; omega) (by rw [List.drop_zero, Nat.mul_one, k6]; exact is_flat Q)
  rw [takeB, List.drop_zero, Nat.mul_one, k6] at r1
  have t1 := takeB H none (some (is Q))
  have ra := rowA H (some (is L))
  have sa := setA H (some (is L)) none
  have la := lenA H (some (is L))
  have k5 : decide (0 + n * 1 ≤ n) = true := by simp
  have rm : roomOk (n + 2) 8 = true := by simp [roomOk]; omega
  have kn : decide (n < 9223372036854775808) = true := by simp; omega
  have ix := ixOf_nat (show n < n + 2 + 1 by omega)
  simp only [EE,EX,Nat.reduceLeDiff,Nat.reduceEqDiff,Int.reduceEq,reduceCtorEq,Nat.reduceAdd,Nat.reduceMul,if_true,if_false,decide_true,decide_false, ix, c1, rm, ra, k5, sa, la, t1, hlow, r1, k3, k4, eL, e2, e3, kn, List.set_cons_zero, List.set_cons_succ]
end Mir

namespace Mir

theorem is_snoc (L : List Int) (z : Int) : is L ++ [V.i z] = is (L ++ [z]) := by simp [is]

/-- So many digits of w bits, the highest first. -/
def dgt (x w n j : Nat) : Nat := x / 2 ^ ((n - 1 - j) * w) % 2 ^ w
def ints (n : Nat) (f : Nat → Nat) : List V := is (tb n fun j => ((f j : Nat) : Int))

theorem tb_take_self {α : Type} (n : Nat) (f : Nat → α) : (tb n f).take n = tb n f := tb_take (Nat.le_refl n) f

/-- Memory after so many appends. -/
def apH (f : Nat → Nat) : Nat → Heap
  | 0 => []
  | i + 1 => List.replicate i none ++ [some (ints (i + 1) f)]
def apV : Nat → V
  | 0 => .nils
  | i + 1 => .hs 1 i 0 (i + 1) (i + 1)

theorem apH_len (f : Nat → Nat) (i : Nat) : (apH f i).length = i := by
  cases i with
  | zero => rfl
  | succ i => simp [apH]
theorem apH_row (f : Nat → Nat) (i : Nat) : row (apH f (i + 1)) i = some (ints (i + 1) f) := by
  simp [row, apH]
theorem apH_next (f : Nat → Nat) (i : Nat) : (apH f (i + 1)).set i none ++ [some (ints (i + 2) f)] = apH f (i + 2) := by
  have : ((List.replicate i (none : Option (List V)) ++ [some (ints (i + 1) f)]).set i none) = List.replicate (i + 1) none := by
    apply List.ext_getElem
    · simp
    · intro k h1 h2
      simp only [List.length_set, List.length_append, List.length_replicate, List.length_singleton] at h1
      by_cases h : k = i
      · subst h; simp
      · rw [List.getElem_set_ne (Ne.symm h)]
        rw [List.getElem_append_left (by simp; omega)]
        simp
  simp only [apH, this]

/-- One append more. -/
theorem apd_step (f : Nat → Nat) (i z : Nat) (hz : z = f i) (hi : i < 1000000) : appO (apH f i) 1 8 (some [V.i (z : Int)]) (some 1) (apV i) = some (apV (i + 1), apH f (i + 1)) := by
  subst hz
  have okc1 : okA 1 8 (i + 1) 1 [V.i ((f i : Nat) : Int)] = true := by
    simp [okA, roomOk, cellV]
    omega
  cases i with
  | zero =>
    have okc0 : okA 1 8 1 1 [V.i ((f 0 : Nat) : Int)] = true := okc1
    have h1 : decide (1 = 0) = false := rfl
    simp only [apV, Ga, okc0, h1, Gc, apH]
    rfl
  | succ i =>
    have h1 : decide (0 + (i + 1) * 1 ≤ (ints (i + 1) f).length) = true := by simp [ints, is_len, tb_len]
    have h2 : ((ints (i + 1) f).drop 0).take ((i + 1) * 1) ++ [V.i ((f (i + 1) : Nat) : Int)] = ints (i + 2) f := by
      simp only [ints, List.drop_zero, Nat.mul_one, is_take, tb_take_self, is_snoc]
      rw [tb_snoc (i + 1)]
    simp only [apV, Gd, apH_row, Ge, h1, okc1, Gf, h2, apH_next, apH_len]

end Mir

namespace Mir

theorem rowP (H G : Heap) (i : Nat) : row (H ++ G) (H.length + i) = row G i := by
  simp only [row]
  rw [List.getElem?_append_right (by omega), Nat.add_sub_cancel_left]
theorem setP (H G : Heap) (i : Nat) (y : Option (List V)) : (H ++ G).set (H.length + i) y = H ++ G.set i y := by
  rw [List.set_append_right _ _ (by omega), Nat.add_sub_cancel_left]
def apW (H : Heap) : Nat → V
  | 0 => .nils
  | i + 1 => .hs 1 (H.length + i) 0 (i + 1) (i + 1)
theorem apw_step (H : Heap) (f : Nat → Nat) (i z : Nat) (hz : z = f i) (hi : i < 1000000) : appO (H ++ apH f i) 1 8 (some [V.i (z : Int)]) (some 1) (apW H i) = some (apW H (i + 1), H ++ apH f (i + 1)) := by
  subst hz
  have okc1 : okA 1 8 (i + 1) 1 [V.i ((f i : Nat) : Int)] = true := by
    simp [okA, roomOk, cellV]
    omega
  cases i with
  | zero =>
    have okc0 : okA 1 8 1 1 [V.i ((f 0 : Nat) : Int)] = true := okc1
    have h1 : decide (1 = 0) = false := rfl
    have h2 : H ++ apH f 0 = H := by simp [apH]
    have h3 : [V.i ((f 0 : Nat) : Int)] = ints 1 f := rfl
    rw [h2]
    simp only [apW, Ga, okc0, h1, Gc, h3, apH]
    rfl
  | succ i =>
    have h1 : decide (0 + (i + 1) * 1 ≤ (ints (i + 1) f).length) = true := by simp [ints, is_len, tb_len]
    have h2 : ((ints (i + 1) f).drop 0).take ((i + 1) * 1) ++ [V.i ((f (i + 1) : Nat) : Int)] = ints (i + 2) f := by
      simp only [ints, List.drop_zero, Nat.mul_one, is_take, tb_take_self, is_snoc]
      rw [tb_snoc (i + 1)]
    have h4 : (H ++ apH f (i + 1)).length = H.length + (i + 1) := by rw [List.length_append, apH_len]
    simp only [apW, Gd, rowP, apH_row, Ge, h1, okc1, Gf, h2, setP, h4, List.append_assoc, apH_next]

theorem r_DigitsOwn {H : Heap} (hlow : H.all (lowR H.length) = true) {x b w : Nat} (hx : x < M) (hb1 : 1 ≤ b) (hb : b ≤ 576) (hw1 : 1 ≤ w) (hw : w ≤ 6) (hbl : bl x ≤ b) :
    Run T f_window_Digits [natv x, .i (b : Int), .i (w : Int)] H = some (.tup [.hs 1 H.length 0 ((b + w - 1) / w) ((b + w - 1) / w), .i 0], H ++ [some (ints ((b + w - 1) / w) (dgt x w ((b + w - 1) / w)))]) := by
  rw [Run_at T _ (show T f_window_Digits = some m_window_Digits from rfl)]
  simp only [c_window_Digits]
  obtain ⟨n, hn⟩ : ∃ n, n = (b + w - 1) / w := ⟨_, rfl⟩
  rw [← hn]
  have hmul : (b + w - 1) / w * w ≤ b + w - 1 := Nat.div_mul_le_self _ _
  rw [← hn] at hmul
  have hn1 : 1 ≤ n := by rw [hn, Nat.le_div_iff_mul_le (by omega)]; omega
  have hn2 : n ≤ 581 := by
    have : n ≤ b + w - 1 := by rw [hn]; exact Nat.div_le_self _ _
    omega
  have c1 := r_wide (w : Int)
  have c2 : decide (1 ≤ (w : Int) ∧ (w : Int) ≤ 6) = true := by simp; omega
  rw [c2] at c1
  have c3 := r_natBits hx
  have g1 : decide ((b : Int) < 1) = false := by simp; omega
  have g2 : decide ((576 : Int) < (b : Int)) = false := by simp; omega
  have g3 : decide ((b : Int) < ((bl x : Nat) : Int)) = false := by simp; omega
  obtain ⟨bw, hbw⟩ : ∃ bw : Nat, bw = b + w := ⟨_, rfl⟩
  obtain ⟨bw1, hbw1⟩ : ∃ bw1 : Nat, bw1 = b + w - 1 := ⟨_, rfl⟩
  obtain ⟨a, ha⟩ : ∃ a : Nat → Int, ∀ i, a i = (n : Int) - 1 - (i : Int) := ⟨_, fun _ => rfl⟩
  have a0 := ha 0
  have hn' : n = bw1 / w := by rw [hn, hbw1]
  have g4 : F (w64 ((b : Int) + (w : Int))) (bw : Int) := ⟨by unfold w64; omega⟩
  have g5 : F (w64 ((bw : Int) - 1)) (bw1 : Int) := ⟨by unfold w64; omega⟩
  have g6 : F (w64 (Int.tdiv (bw1 : Int) (w : Int))) (n : Int) := ⟨by
    rw [Int.tdiv_eq_ediv_of_nonneg (by omega), ← Int.natCast_ediv, ← hn']
    exact w64_of (by omega) (by omega)⟩
  have g7 : decide ((w : Int) = 0) = false := by simp; omega
  have g8 : F (w64 ((n : Int) - 1)) (a 0) := ⟨by unfold w64; omega⟩
  obtain ⟨f, hf⟩ : ∃ f : Nat → Nat, ∀ j, f j = dgt x w n j := ⟨_, fun _ => rfl⟩
  have hff : ints n (dgt x w n) = ints n f := by
    simp only [ints]; congr 1; exact tb_congr fun j hj => by rw [hf]
  rw [hff]
  simp only [EE,EX,Nat.reduceLeDiff,Nat.reduceEqDiff,Int.reduceEq,reduceCtorEq,Nat.reduceAdd,Nat.reduceMul,if_true,if_false,decide_true,decide_false, c1, c3, g1, g2, g3, g4.eq, g5.eq, g6.eq, g7, g8.eq, natv_noHp]
  rw [loop_use T (fun i => ⟨[(2, .i (w : Int)), (3, .vr (us 64 (dl 64 9 x)) 0), (8, apW H i), (9, .i (a i))], H ++ apH f i⟩) n
    (.exit 0, ⟨[(8, apW H n)], H ++ apH f n⟩) ?h0 (by simp) ?hs ?hn]
  · obtain ⟨m, rfl⟩ : ∃ m, n = m + 1 := ⟨n - 1, by omega⟩
    have k1 : row (H ++ apH f (m + 1)) (H.length + m) = some (ints (m + 1) f) := by rw [rowP, apH_row]
    have k2 : (ints (m + 1) f).length = m + 1 := by simp [ints, is_len, tb_len]
    have k3 : (ints (m + 1) f).take (m + 1) = ints (m + 1) f := List.take_of_length_le (by omega)
    have d1 : decide (H.length + m < H.length) = false := decide_eq_false (by omega)
    have r1 := rt_1t (z := 0) (base := H.length) (sz := 1) (o := 0) (len := m + 1) (cap := m + 1) d1 k1 (by omega) (by rw [List.drop_zero, Nat.mul_one, k3]; exact is_flat _)
    rw [takeA, List.drop_zero, Nat.mul_one, k3] at r1
    have t1 := takeA H (apH f (m + 1))
    generalize apH f (m + 1) = G at *
    generalize ints (m + 1) f = R at *
    simp only [apW]
    simp only [EE,EX,Nat.reduceLeDiff,Nat.reduceEqDiff,Int.reduceEq,reduceCtorEq,Nat.reduceAdd,Nat.reduceMul,if_true,if_false,decide_true,decide_false, t1, hlow, r1]
  · simp [apW, apH]
  · intro i hi
    obtain ⟨m, hm⟩ : ∃ m, m = n - 1 - i := ⟨_, rfl⟩
    have hai : a i = (m : Int) := by rw [ha]; omega
    have hai1 : a (i + 1) = (m : Int) - 1 := by rw [ha]; omega
    obtain ⟨t, ht⟩ : ∃ t, t = m * w := ⟨_, rfl⟩
    have htb : t ≤ 575 := by
      have h1 : t + w ≤ n * w := by
        rw [ht, ← Nat.succ_mul]
        exact Nat.mul_le_mul_right _ (by omega)
      omega
    have k1 : decide ((0 : Int) ≤ a i) = true := by rw [hai]; simp
    have k2 : F (w64 (a i * (w : Int))) (t : Int) := ⟨by rw [hai, ← Int.natCast_mul, ← ht]; exact w64_of (by omega) (by omega)⟩
    have k3 : (if (576 : Int) < (t : Int) then (576 : Int) else (t : Int)) = (t : Int) := if_neg (by omega)
    have k4 := r_natShr hx (k := t) (by omega)
    obtain ⟨y, hy⟩ : ∃ y, y = x / 2 ^ t := ⟨_, rfl⟩
    rw [← hy] at k4
    have k5 := ixOf_nat (n := 9) (k := 0) (by omega)
    rw [Int.natCast_zero] at k5
    have k6 := dl_part (x := y) (i := 0) (by omega)
    rw [Nat.mul_zero, Nat.pow_zero, Nat.div_one] at k6
    have k7 : F (min w 64) w := ⟨by omega⟩
    have k8 := mask64 (y % 2 ^ 64) (k := w) (by omega)
    have k9 : y % 2 ^ 64 % 2 ^ w = f i := by
      rw [Nat.mod_mod_of_dvd _ (Nat.pow_dvd_pow 2 (by omega : w ≤ 64)), hf, dgt, ← hm, ← ht, hy]
    rw [k9] at k8
    have hfl : f i < 2 ^ 6 := by rw [← k9]; exact Nat.lt_of_lt_of_le (Nat.mod_lt _ (Nat.two_pow_pos w)) (Nat.pow_le_pow_right (by omega) hw)
    have k10 : F (w64 ((f i : Nat) : Int)) ((f i : Nat) : Int) := ⟨w64_of (by omega) (by omega)⟩
    have k11 := apw_step H f i (f i) rfl (by omega)
    have k12 : F (w64 (a i - 1)) (a (i + 1)) := ⟨by rw [hai, hai1]; exact w64_of (by omega) (by omega)⟩
    have k13 : splice (us 64 (dl 64 9 0)) 0 (us 64 (dl 64 9 y)) = us 64 (dl 64 9 y) := sp_us (by rw [us_len, dl_len, dl_len])
    have k14 : splice [V.i 0] 0 [V.i ((f i : Nat) : Int)] = [V.i ((f i : Nat) : Int)] := rfl
    have k15 : okc 1 [V.i ((f i : Nat) : Int)] 0 [V.i 0].length = true := by simp [okc, cellV]
    have k16 : evV (apW H i) = apW H i := by cases i <;> rfl
    have k17 : san (apW H i) = apW H i := by cases i <;> rfl
    have k18 : evV (apW H (i + 1)) = apW H (i + 1) := rfl
    have k19 : san (apW H (i + 1)) = apW H (i + 1) := rfl
    simp only [Nat.one_mul] at k8
    simp only [EE,EX,Nat.reduceLeDiff,Nat.reduceEqDiff,Int.reduceEq,reduceCtorEq,Nat.reduceAdd,Nat.reduceMul,if_true,if_false,decide_true,decide_false, zero9, k1, k2.eq, k3, k4, k5, k6, k7.eq, k8, k10.eq, k11, k12.eq, k13, k14, k15, k16, k17, k18, k19, natv_noHp]
  · have k1 : decide ((0 : Int) ≤ a n) = false := decide_eq_false (by rw [ha]; omega)
    have k17 : san (apW H n) = apW H n := by cases n <;> rfl
    simp only [EE,EX,Nat.reduceLeDiff,Nat.reduceEqDiff,Int.reduceEq,reduceCtorEq,Nat.reduceAdd,Nat.reduceMul,if_true,if_false,decide_true,decide_false, k1, k17]


end Mir

namespace Mir

/-- So many digits of w bits as a number, the highest first. -/
def vv (w : Nat) (f : Nat → Nat) : Nat → Nat
  | 0 => 0
  | i + 1 => vv w f i * 2 ^ w + f i

theorem vv_mono (w : Nat) (f : Nat → Nat) (i k : Nat) : vv w f i ≤ vv w f (i + k) := by
  induction k with
  | zero => exact Nat.le_refl _
  | succ k ih =>
    refine Nat.le_trans ih ?_
    show _ ≤ vv w f (i + k) * 2 ^ w + f (i + k)
    have := Nat.le_mul_of_pos_right (vv w f (i + k)) (Nat.two_pow_pos w)
    omega
theorem vv_le (w : Nat) (f : Nat → Nat) {i n : Nat} (h : i ≤ n) : vv w f i ≤ vv w f n := by
  obtain ⟨k, rfl⟩ : ∃ k, n = i + k := ⟨n - i, by omega⟩
  exact vv_mono w f i k

theorem or_low {y d w : Nat} (hd : d < 2 ^ w) (hw : w ≤ 6) : us 64 (dl 64 9 (y * 2 ^ w % M)) = us 64 (dl 64 9 (y * 2 ^ w % M)) := rfl

/-- A digit put in below. -/
theorem or_dl {y d w : Nat} (hd : d < 2 ^ w) (hw : w ≤ 64) : tb 9 (fun j => if j = 0 then (y * 2 ^ w) % 2 ^ 64 ||| d else (y * 2 ^ w) / 2 ^ (64 * j) % 2 ^ 64) = dl 64 9 (y * 2 ^ w + d) := tb_congr fun j hj => by
  have h1 : (y * 2 ^ w + d) / 2 ^ w = y := by rw [Nat.mul_comm, Nat.mul_add_div (Nat.two_pow_pos w), Nat.div_eq_of_lt hd, Nat.add_zero]
  have h2 : y * 2 ^ w / 2 ^ w = y := Nat.mul_div_cancel _ (Nat.two_pow_pos w)
  have e64 : (2:Nat) ^ 64 = 2 ^ w * 2 ^ (64 - w) := by rw [← Nat.pow_add]; congr 1; omega
  by_cases h : j = 0
  · rw [if_pos h, h, Nat.mul_zero, Nat.pow_zero, Nat.div_one]
    have h3 : y * 2 ^ w % 2 ^ 64 = 2 ^ w * (y % 2 ^ (64 - w)) := by rw [e64, Nat.mul_comm y, Nat.mul_mod_mul_left]
    rw [h3, ← Nat.two_pow_add_eq_or_of_lt hd, Nat.mul_comm y]
    rw [e64, Nat.mod_mul, Nat.mul_add_mod, Nat.mod_eq_of_lt hd, Nat.mul_add_div (Nat.two_pow_pos w), Nat.div_eq_of_lt hd, Nat.add_zero, Nat.add_comm]
  · rw [if_neg h]
    have e : 2 ^ (64 * j) = 2 ^ w * 2 ^ (64 * j - w) := by rw [← Nat.pow_add]; congr 1; omega
    rw [e, ← Nat.div_div_eq_div_mul, ← Nat.div_div_eq_div_mul, h1, h2]

end Mir

namespace Mir

/-- A slice of so many ints. -/
structure Slc (H : Heap) (v : V) (n : Nat) (g : Nat → Int) (p : Nat → V) : Prop where
  len : lenV v = some n
  ix : ∀ i, i < n → idxsV 1 v (.i (i : Int)) = some (p i)
  ld : ∀ i, i < n → ldV false H none (p i) = some (.i (g i))
  ev : evV v = v
  sn : san v = v
  pe : ∀ i, i < n → evV (p i) = p i
  ea : ∀ q, eaV q v = v
  pa : ∀ i, i < n → ∀ q, eaV q (p i) = p i

theorem sl_nils (H : Heap) (g : Nat → Int) (p : Nat → V) : Slc H .nils 0 g p := ⟨rfl, fun i h => absurd h (by omega), fun i h => absurd h (by omega), rfl, rfl, fun i h => absurd h (by omega), fun _ => rfl, fun i h => absurd h (by omega)⟩
theorem tbI_get {n i : Nat} {g : Nat → Int} (h : i < n) : part (is (tb n g)) i none = some (.i (g i)) := by
  simp only [part]; exact is_get (tb_get h)
theorem sl_vs (H : Heap) (n : Nat) (g : Nat → Int) : Slc H (.vs n (is (tb n g))) n g (fun i => .vr (is (tb n g)) (i * 1)) :=
  ⟨rfl, fun i hi => by rw [J9, ixOf_nat hi]; rfl, fun i hi => by rw [Kc, Nat.mul_one]; exact tbI_get hi, rfl, rfl, fun _ _ => rfl, fun _ => rfl, fun _ _ _ => rfl⟩
theorem sl_hs {H : Heap} {k n m cap : Nat} {g : Nat → Int} (hr : row H k = some (is (tb m g))) (hm : n ≤ m) : Slc H (.hs 1 k 0 n cap) n g (fun i => .hp k (0 + i * 1)) :=
  ⟨rfl, fun i hi => by rw [Ka, ixOf_nat hi]; rfl, fun i hi => by rw [Kd, hr, Ke, Nat.zero_add, Nat.mul_one]; exact tbI_get (by omega), rfl, rfl, fun _ _ => rfl, fun _ => rfl, fun _ _ _ => rfl⟩

theorem r_SameInts {H : Heap} {a b : V} {n : Nat} {g : Nat → Int} {p q : Nat → V} (ha : Slc H a n g p) (hb : Slc H b n g q) (hn : n < 1000000000000) (hlow : H.all (lowR H.length) = true) :
    Run T f_curvetlaw0_SameInts [a, b] H = some (.b true, H) := by
  rw [Run_at T _ (show T f_curvetlaw0_SameInts = some m_curvetlaw0_SameInts from rfl)]
  simp only [c_curvetlaw0_SameInts]
  have a1 := ha.len
  have a2 := ha.ev
  have a3 := ha.sn
  have a4 := ha.ea
  have b1 := hb.len
  have b2 := hb.ev
  have b3 := hb.sn
  have b4 := hb.ea
  have kn : decide (n < 9223372036854775808) = true := by simp; omega
  have ke : ∀ x : Int, decide (x = x) = true := fun x => by simp
  simp only [EE,EX,Nat.reduceLeDiff,Nat.reduceEqDiff,Int.reduceEq,reduceCtorEq,Nat.reduceAdd,Nat.reduceMul,if_true,if_false,decide_true,decide_false, a1, a2, a3, a4, b1, b2, b3, b4, kn, ke]
  rw [loop_use T (fun i => ⟨[(0, a), (1, b), (5, .i (i : Int))], H⟩) n (.exit 0, ⟨[], H⟩) ?h0 (by simp) ?hs ?hn]
  · have ht : H.take H.length = H := List.take_length ..
    simp only [EE,EX,Nat.reduceLeDiff,Nat.reduceEqDiff,Int.reduceEq,reduceCtorEq,Nat.reduceAdd,Nat.reduceMul,if_true,if_false,decide_true,decide_false, ht, hlow]
  · rfl
  · intro i hi
    have c1 := ha.ix i hi
    have c2 := ha.ld i hi
    have c3 := ha.pe i hi
    have c4 := ha.pa i hi
    have d1 := hb.ix i hi
    have d2 := hb.ld i hi
    have d3 := hb.pe i hi
    have d4 := hb.pa i hi
    have l1 : decide ((i : Int) < (n : Int)) = true := by simp; omega
    have l2 : F (w64 ((i : Int) + 1)) ((i + 1 : Nat) : Int) := ⟨by unfold w64; omega⟩
    simp only [EE,EX,Nat.reduceLeDiff,Nat.reduceEqDiff,Int.reduceEq,reduceCtorEq,Nat.reduceAdd,Nat.reduceMul,if_true,if_false,decide_true,decide_false, a1, a2, a3, a4, b1, b2, b3, b4, c1, c2, c3, c4, d1, d2, d3, d4, kn, ke, l1, l2.eq, Bool.not_true, Bool.not_false]
  · have l1 : decide ((n : Int) < (n : Int)) = false := by simp
    simp only [EE,EX,Nat.reduceLeDiff,Nat.reduceEqDiff,Int.reduceEq,reduceCtorEq,Nat.reduceAdd,Nat.reduceMul,if_true,if_false,decide_true,decide_false, a1, a2, a3, a4, kn, l1]

theorem r_KeptInts {H : Heap} {k n : Nat} {L : List Int} {b : V} {g : Nat → Int} {q : Nat → V} (hr : row H k = some (is (L ++ [-7777, -8888]))) (hL : L = tb n g) (hb : Slc H b n g q) (hn : n < 1000000000000) (hlow : H.all (lowR H.length) = true) :
    Run T f_curvetlaw0_KeptInts [.hs 1 k 0 n (n + 2), b] H = some (.b true, H) := by
  rw [Run_at T _ (show T f_curvetlaw0_KeptInts = some m_curvetlaw0_KeptInts from rfl)]
  simp only [c_curvetlaw0_KeptInts]
  obtain ⟨G, hG⟩ : ∃ G : Nat → Int, G = fun i => if i < n then g i else if i = n then -7777 else -8888 := ⟨_, rfl⟩
  have e1 : L ++ [-7777, -8888] = tb (n + 2) G := by
    have h1 : tb n G = tb n g := tb_congr fun j hj => by rw [hG]; simp [hj]
    have h2 : G n = -7777 := by rw [hG]; simp
    have h3 : G (n + 1) = -8888 := by rw [hG]; simp; omega
    have h4 : tb n G ++ [G n] = tb (n + 1) G := (tb_snoc n G).symm
    have h5 : tb (n + 1) G ++ [G (n + 1)] = tb (n + 2) G := (tb_snoc (n + 1) G).symm
    rw [hL, ← h5, ← h4, h1, h2, h3, List.append_assoc]; rfl
  rw [e1] at hr
  have s1 := sl_hs (n := n) (cap := n + 2) hr (by omega)
  have hb' : Slc H b n G q := ⟨hb.len, hb.ix, fun i hi => by rw [hb.ld i hi, hG]; simp [hi], hb.ev, hb.sn, hb.pe, hb.ea, hb.pa⟩
  have c1 := r_SameInts s1 hb' hn hlow
  have s2 := sl_hs (n := n + 2) (cap := n + 2) hr (by omega)
  have p1 := tbI_get (n := n + 2) (i := n) (g := G) (by omega)
  have p2 := tbI_get (n := n + 2) (i := n + 1) (g := G) (by omega)
  have G1 : G n = -7777 := by rw [hG]; simp
  have G2 : G (n + 1) = -8888 := by rw [hG]; simp; omega
  rw [G1] at p1
  rw [G2] at p2
  have b1 := hb.len
  have b2 := hb.ev
  have b3 := hb.sn
  have b4 := hb.ea
  have kn : decide (n < 9223372036854775808) = true := by simp; omega
  have f1 : F (w64 ((n : Int) + 2)) ((n + 2 : Nat) : Int) := ⟨by unfold w64; omega⟩
  have f2 : F (w64 ((n : Int) + 1)) ((n + 1 : Nat) : Int) := ⟨by unfold w64; omega⟩
  have i1 := ixOf_nat (show n + 2 < n + 2 + 1 by omega)
  have i2 := ixOf_nat (show n < n + 2 by omega)
  have i3 := ixOf_nat (show n + 1 < n + 2 by omega)
  have ht : H.take H.length = H := List.take_length ..
  have z1 : decide ((-7777 : Int) = -7777) = true := rfl
  have z2 : decide ((-8888 : Int) = -8888) = true := rfl
  simp only [EE,EX,Nat.reduceLeDiff,Nat.reduceEqDiff,Int.reduceEq,reduceCtorEq,Nat.reduceAdd,Nat.reduceMul,if_true,if_false,decide_true,decide_false, c1, b1, b2, b3, b4, kn, f1.eq, f2.eq, i1, i2, i3, hr, p1, p2, ht, hlow, z1, z2]

/-- Ints spoilt: the first i of them. -/
def spo (g : Nat → Int) (i j : Nat) : Int := if j < i then w64 (-9 - g j) else g j
theorem r_SpoilInts {n : Nat} {g : Nat → Int} {rb rc : List V} (hn : n < 1000000000000) (hlow : ∀ g : Nat → Int, [some (is (tb n g)), some rb, some rc].all (lowR 3) = true) :
    Run T f_curvetlaw0_SpoilInts [.hs 1 0 0 n n] [some (is (tb n g)), some rb, some rc] = some (.tup [], [some (is (tb n (spo g n))), some rb, some rc]) := by
  rw [Run_at T _ (show T f_curvetlaw0_SpoilInts = some m_curvetlaw0_SpoilInts from rfl)]
  simp only [c_curvetlaw0_SpoilInts]
  have kn : decide (n < 9223372036854775808) = true := by simp; omega
  simp only [EE,EX,Nat.reduceLeDiff,Nat.reduceEqDiff,Int.reduceEq,reduceCtorEq,Nat.reduceAdd,Nat.reduceMul,if_true,if_false,decide_true,decide_false]
  rw [loop_use T (fun i => ⟨[(0, .hs 1 0 0 n n), (2, .i (i : Int))], [some (is (tb n (spo g i))), some rb, some rc]⟩) n (.exit 0, ⟨[], [some (is (tb n (spo g n))), some rb, some rc]⟩) ?h0 (by simp) ?hs ?hn]
  · have hl := hlow (spo g n)
    simp only [EE,EX,Nat.reduceLeDiff,Nat.reduceEqDiff,Int.reduceEq,reduceCtorEq,Nat.reduceAdd,Nat.reduceMul,if_true,if_false,decide_true,decide_false, hl, List.take_succ_cons, List.take_nil]
  · have : spo g 0 = g := by funext j; simp [spo]
    rw [this]; rfl
  · intro i hi
    have l1 : decide ((i : Int) < (n : Int)) = true := by simp; omega
    have l2 : F (w64 ((i : Int) + 1)) ((i + 1 : Nat) : Int) := ⟨by unfold w64; omega⟩
    have i1 := ixOf_nat hi
    have p1 := tbI_get (g := spo g i) hi
    have e1 : spo g i i = g i := by simp [spo]
    rw [e1] at p1
    have st : tb n (fun j => if j = i then w64 (-9 - g i) else spo g i j) = tb n (spo g (i + 1)) := by
      refine tb_congr fun j hj => ?_
      unfold spo
      by_cases h : j = i
      · rw [if_pos h, if_pos (by omega), h]
      · rw [if_neg h]
        by_cases h2 : j < i
        · rw [if_pos h2, if_pos (by omega)]
        · rw [if_neg h2, if_neg (by omega)]
    have k8 : decide (i + 1 ≤ n) = true := by simp; omega
    have k9 : ((i + 1 ≤ n) = True) := by simp; omega
    simp only [EE,EX,Nat.reduceLeDiff,Nat.reduceEqDiff,Int.reduceEq,reduceCtorEq,Nat.reduceAdd,Nat.reduceMul,if_true,if_false,decide_true,decide_false, kn, l1, l2.eq, i1, p1, st, k8, k9]
  · have l1 : decide ((n : Int) < (n : Int)) = false := by simp
    simp only [EE,EX,Nat.reduceLeDiff,Nat.reduceEqDiff,Int.reduceEq,reduceCtorEq,Nat.reduceAdd,Nat.reduceMul,if_true,if_false,decide_true,decide_false, kn, l1]
end Mir

namespace Mir

/-- A digit is one. -/
def okd (w : Nat) (z : Int) : Prop := 0 ≤ z ∧ z < ((2 ^ w : Nat) : Int)
instance (w : Nat) (z : Int) : Decidable (okd w z) := by unfold okd; infer_instance
theorem M_split {w : Nat} (hw : w ≤ 6) : M = 2 ^ (576 - w) * 2 ^ w := by unfold M; rw [← Nat.pow_add]; congr 1; omega
theorem mod_shift {x w : Nat} (hw : w ≤ 6) : x % M * 2 ^ w % M = x % 2 ^ (576 - w) * 2 ^ w := by
  rw [M_split hw, Nat.mul_mod_mul_right]
  congr 1
  exact Nat.mod_mul_right_mod ..
theorem vv_next {x d w : Nat} (hw : w ≤ 6) (hd : d < 2 ^ w) : x % 2 ^ (576 - w) * 2 ^ w + d = (x * 2 ^ w + d) % M := by
  have e : x * 2 ^ w + d = x % 2 ^ (576 - w) * 2 ^ w + d + M * (x / 2 ^ (576 - w)) := by
    have h := Nat.div_add_mod x (2 ^ (576 - w))
    rw [M_split hw]
    generalize x / 2 ^ (576 - w) = a at *
    generalize x % 2 ^ (576 - w) = b at *
    rw [← h]
    grind
  have h1 : x % 2 ^ (576 - w) < 2 ^ (576 - w) := Nat.mod_lt _ (Nat.two_pow_pos _)
  have h2 := Nat.mul_le_mul_right (2 ^ w) h1
  have hlt : x % 2 ^ (576 - w) * 2 ^ w + d < M := by
    rw [M_split hw]
    rw [Nat.succ_mul] at h2
    clear e
    generalize 2 ^ (576 - w) * 2 ^ w = A at *
    generalize x % 2 ^ (576 - w) * 2 ^ w = B at *
    omega
  rw [e, Nat.add_mul_mod_self_left, Nat.mod_eq_of_lt hlt]
theorem vv_fine {x d w : Nat} (hw : w ≤ 6) (hd : d < 2 ^ w) : (x * 2 ^ w + d < M) ↔ x < 2 ^ (576 - w) := by
  rw [M_split hw]
  constructor
  · intro h
    exact Nat.lt_of_mul_lt_mul_right (Nat.lt_of_le_of_lt (Nat.le_add_right _ _) h)
  · intro h
    have h2 := Nat.mul_le_mul_right (2 ^ w) h
    rw [Nat.succ_mul] at h2
    generalize 2 ^ (576 - w) * 2 ^ w = A at *
    generalize x * 2 ^ w = B at *
    omega

section
variable {w n j : Nat} {g : Nat → Int} {f : Nat → Nat} {v : V} {H : Heap} {p : Nat → V} (hw1 : 1 ≤ w) (hw : w ≤ 6) (hs : Slc H v n g p) (hn : n < 1000000000000) (hlow : H.all (lowR H.length) = true)
  (hj : j ≤ n) (hf : ∀ i, i < j → g i = ((f i : Nat) : Int) ∧ f i < 2 ^ w)
include hw1 hw hs hn hlow hj hf

theorem r_ValueG (hend : j = n ∨ (j < n ∧ ¬ okd w (g j))) :
    Run T f_window_Value [v, .i (w : Int)] H = some (if j = n ∧ vv w f n < M then .tup [natv (vv w f n), .i 0] else .tup [natv 0, .i 1700], H) := by
  rw [Run_at T _ (show T f_window_Value = some m_window_Value from rfl)]
  simp only [c_window_Value, zero9]
  have c1 := r_wide (w : Int)
  have c2 : decide (1 ≤ (w : Int) ∧ (w : Int) ≤ 6) = true := by simp; omega
  rw [c2] at c1
  have h1 := hs.len
  have h4 := hs.ev
  have h5 := hs.sn
  have h5a := hs.ea
  have kn : decide (n < 9223372036854775808) = true := by simp; omega
  obtain ⟨w2, hw2⟩ : ∃ a : Nat, a = 576 - w := ⟨_, rfl⟩
  have g2 : F (w64 (576 - (w : Int))) (w2 : Int) := ⟨by unfold w64; omega⟩
  have g3 : F (min w 64) w := ⟨by omega⟩
  obtain ⟨pw, hpw⟩ : ∃ a : Nat, a = 2 ^ w := ⟨_, rfl⟩
  have hpw64 : pw ≤ 64 := by rw [hpw]; exact Nat.pow_le_pow_right (n := 2) (by omega) hw
  have g4 : F (w64 (1 * 2 ^ w)) (pw : Int) := ⟨by
    rw [Int.one_mul, show ((2 : Int) ^ w) = ((2 ^ w : Nat) : Int) by simp, ← hpw]; exact w64_of (by omega) (by omega)⟩
  have ht : H.take H.length = H := List.take_length ..
  obtain ⟨O, hO⟩ : ∃ O : Nat → Nat, ∀ i, O i = vv w f i % M := ⟨_, fun _ => rfl⟩
  obtain ⟨B, hB⟩ : ∃ B : Nat → Bool, ∀ i, B i = decide (vv w f i < M) := ⟨_, fun _ => rfl⟩
  have hMp : 0 < M := by unfold M; exact Nat.two_pow_pos _
  have O0 : O 0 = 0 := by rw [hO, vv, Nat.zero_mod]
  have B0 : B 0 = true := by rw [hB, vv]; exact decide_eq_true hMp
  have stp : ∀ i, i < j → ∀ a, Exec T a ⟨[(1, .i (w : Int)), (4, .loc (us 64 (dl 64 9 0))), (6, .loc (us 64 (dl 64 9 (O i)))), (7, .b (B i)), (14, v), (15, .i (n : Int)), (16, .i (i : Int))], H⟩ = Exec T a ⟨[(1, .i (w : Int)), (4, .loc (us 64 (dl 64 9 0))), (6, .loc (us 64 (dl 64 9 (O i)))), (7, .b (B i)), (14, v), (15, .i (n : Int)), (16, .i (i : Int))], H⟩ := fun _ _ _ => rfl
  clear stp
  have facts : ∀ i, i < j → ∃ z x, z = (O i * 2 ^ w) % M ∧ O i < M ∧ z < M ∧ f i < 2 ^ w ∧ g i = ((f i : Nat) : Int) ∧ (us 64 (dl 64 9 z)).set 0 (.u 64 (z % 2 ^ 64 ||| f i)) = us 64 (dl 64 9 (O (i + 1))) ∧ x = bl (O i) ∧ B (i + 1) = (B i && decide (((x : Nat) : Int) ≤ (w2 : Int))) := by
    intro i hi
    obtain ⟨hg, hfi⟩ := hf i hi
    refine ⟨_, _, rfl, by rw [hO]; exact Nat.mod_lt _ hMp, Nat.mod_lt _ hMp, hfi, hg, ?_, rfl, ?_⟩
    · have hor := or_dl (y := vv w f i % 2 ^ (576 - w)) hfi (by omega : w ≤ 64)
      have hnx := vv_next (x := vv w f i) hw hfi
      have e1 : vv w f (i + 1) = vv w f i * 2 ^ w + f i := rfl
      rw [hO, hO, mod_shift hw, e1, ← hnx, ← hor, us_set, dl, tb_set]
    · have e1 : vv w f (i + 1) = vv w f i * 2 ^ w + f i := rfl
      have hfn := vv_fine (x := vv w f i) hw hfi
      rw [hB, hB, hO, e1]
      by_cases h : vv w f i < M
      · rw [decide_eq_true h, Bool.true_and, Nat.mod_eq_of_lt h]
        have hb := bl_le_iff (x := vv w f i) (k := 576 - w)
        by_cases h2 : vv w f i < 2 ^ (576 - w)
        · rw [decide_eq_true (hfn.2 h2), decide_eq_true]
          have := hb.2 h2
          omega
        · rw [decide_eq_false (fun h3 => h2 (hfn.1 h3)), decide_eq_false]
          intro h3
          exact h2 (hb.1 (by omega))
      · rw [decide_eq_false h, Bool.false_and, decide_eq_false]
        intro h3
        have h4 := Nat.le_mul_of_pos_right (vv w f i) (Nat.two_pow_pos w)
        omega
  have sa : ∀ k : Nat, decide ((k : Int) < (k : Int)) = false := fun k => by simp
  have hfin : B n = decide (vv w f n < M) := hB n
  have body : ∀ i, i < j → i < n := fun i hi => by omega
  simp only [EE,EX,Nat.reduceLeDiff,Nat.reduceEqDiff,Int.reduceEq,reduceCtorEq,Nat.reduceAdd,Nat.reduceMul,if_true,if_false,decide_true,decide_false, c1, kn, h1, h4, h5, h5a]
  rcases hend with hjn | ⟨hjn, hbad⟩
  · subst hjn
    rw [loop_use T (fun i => ⟨[(1, .i (w : Int)), (4, .loc (us 64 (dl 64 9 0))), (6, .loc (us 64 (dl 64 9 (O i)))), (7, .b (B i)), (14, v), (15, .i (j : Int)), (16, .i (i : Int))], H⟩) j
      (.exit 0, ⟨[(4, .loc (us 64 (dl 64 9 0))), (6, .loc (us 64 (dl 64 9 (O j)))), (7, .b (B j))], H⟩) ?h10 (by simp) ?h1s ?h1n]
    · by_cases hv : vv w f j < M
      · rw [if_pos ⟨rfl, hv⟩]
        have e1 : B j = true := by rw [hB]; exact decide_eq_true hv
        have e2 : O j = vv w f j := by rw [hO]; exact Nat.mod_eq_of_lt hv
        rw [e1, e2]
        simp only [EE,EX,Nat.reduceLeDiff,Nat.reduceEqDiff,Int.reduceEq,reduceCtorEq,Nat.reduceAdd,Nat.reduceMul,if_true,if_false,decide_true,decide_false, ht, hlow, Bool.not_true, Bool.not_false]
      · rw [if_neg (fun h => hv h.2)]
        have e1 : B j = false := by rw [hB]; exact decide_eq_false hv
        rw [e1]
        simp only [EE,EX,Nat.reduceLeDiff,Nat.reduceEqDiff,Int.reduceEq,reduceCtorEq,Nat.reduceAdd,Nat.reduceMul,if_true,if_false,decide_true,decide_false, ht, hlow, Bool.not_true, Bool.not_false]
    · rw [O0, B0]; rfl
    · intro i hi
      obtain ⟨z, x, q1, q2, q3, q4, q5, q6, q7, q8⟩ := facts i hi
      have k1 : decide ((i : Int) < (j : Int)) = true := by simp; omega
      have k2 := hs.ix i hi
      have k3 := hs.ld i hi
      have k3e := hs.pe i hi
      have k3a := hs.pa i hi
      rw [q5] at k3
      have k4 : decide (((f i : Nat) : Int) < 0) = false := by simp
      have k5 : decide ((pw : Int) ≤ ((f i : Nat) : Int)) = false := by simp; omega
      have k6 := r_natBits q2
      rw [← q7] at k6
      have k8 := r_natShl q2 (k := w) (by omega)
      rw [← q1] at k8
      have k9 : F (w64 ((i : Int) + 1)) ((i + 1 : Nat) : Int) := ⟨by unfold w64; omega⟩
      have k10 := ixOf_nat (n := 9) (k := 0) (by omega)
      rw [Int.natCast_zero] at k10
      have k11 := dl_part (x := z) (i := 0) (by omega)
      rw [Nat.mul_zero, Nat.pow_zero, Nat.div_one] at k11
      have k12 : F ((((f i : Nat) : Int) % 2 ^ 64).toNat) (f i) := ⟨by
        have : f i < 64 := by omega
        omega⟩
      rw [q8]
      generalize f i = d at *
      generalize O i = oi at *
      generalize O (i + 1) = on at *
      cases B i
      · simp only [EE,EX,Nat.reduceLeDiff,Nat.reduceEqDiff,Int.reduceEq,reduceCtorEq,Nat.reduceAdd,Nat.reduceMul,if_true,if_false,decide_true,decide_false, k1, k2, k3, k3e, k3a, k4, k5, k6, k8, k9.eq, k10, k11, k12.eq, q6, g2.eq, g3.eq, g4.eq, natv_noHp, h4, h5, h5a]
      · simp only [EE,EX,Nat.reduceLeDiff,Nat.reduceEqDiff,Int.reduceEq,reduceCtorEq,Nat.reduceAdd,Nat.reduceMul,if_true,if_false,decide_true,decide_false, k1, k2, k3, k3e, k3a, k4, k5, k6, k8, k9.eq, k10, k11, k12.eq, q6, g2.eq, g3.eq, g4.eq, natv_noHp, h4, h5, h5a]
    · simp only [EE,EX,Nat.reduceLeDiff,Nat.reduceEqDiff,Int.reduceEq,reduceCtorEq,Nat.reduceAdd,Nat.reduceMul,if_true,if_false,decide_true,decide_false, sa]
  · rw [if_neg (fun h => by omega)]
    rw [loop_use T (fun i => ⟨[(1, .i (w : Int)), (4, .loc (us 64 (dl 64 9 0))), (6, .loc (us 64 (dl 64 9 (O i)))), (7, .b (B i)), (14, v), (15, .i (n : Int)), (16, .i (i : Int))], H⟩) j
      (.ret, ⟨[(4, .loc (us 64 (dl 64 9 0))), (5, .i 1700)], H⟩) ?h20 (by simp) ?h2s ?h2n]
    · simp only [EE,EX,Nat.reduceLeDiff,Nat.reduceEqDiff,Int.reduceEq,reduceCtorEq,Nat.reduceAdd,Nat.reduceMul,if_true,if_false,decide_true,decide_false, ht, hlow]
    · rw [O0, B0]; rfl
    · intro i hi
      obtain ⟨z, x, q1, q2, q3, q4, q5, q6, q7, q8⟩ := facts i hi
      have k1 : decide ((i : Int) < (n : Int)) = true := by simp; omega
      have k2 := hs.ix i (by omega)
      have k3 := hs.ld i (by omega)
      have k3e := hs.pe i (by omega)
      have k3a := hs.pa i (by omega)
      rw [q5] at k3
      have k4 : decide (((f i : Nat) : Int) < 0) = false := by simp
      have k5 : decide ((pw : Int) ≤ ((f i : Nat) : Int)) = false := by simp; omega
      have k6 := r_natBits q2
      rw [← q7] at k6
      have k8 := r_natShl q2 (k := w) (by omega)
      rw [← q1] at k8
      have k9 : F (w64 ((i : Int) + 1)) ((i + 1 : Nat) : Int) := ⟨by unfold w64; omega⟩
      have k10 := ixOf_nat (n := 9) (k := 0) (by omega)
      rw [Int.natCast_zero] at k10
      have k11 := dl_part (x := z) (i := 0) (by omega)
      rw [Nat.mul_zero, Nat.pow_zero, Nat.div_one] at k11
      have k12 : F ((((f i : Nat) : Int) % 2 ^ 64).toNat) (f i) := ⟨by
        have : f i < 64 := by omega
        omega⟩
      rw [q8]
      generalize f i = d at *
      generalize O i = oi at *
      generalize O (i + 1) = on at *
      cases B i
      · simp only [EE,EX,Nat.reduceLeDiff,Nat.reduceEqDiff,Int.reduceEq,reduceCtorEq,Nat.reduceAdd,Nat.reduceMul,if_true,if_false,decide_true,decide_false, k1, k2, k3, k3e, k3a, k4, k5, k6, k8, k9.eq, k10, k11, k12.eq, q6, g2.eq, g3.eq, g4.eq, natv_noHp, h4, h5, h5a]
      · simp only [EE,EX,Nat.reduceLeDiff,Nat.reduceEqDiff,Int.reduceEq,reduceCtorEq,Nat.reduceAdd,Nat.reduceMul,if_true,if_false,decide_true,decide_false, k1, k2, k3, k3e, k3a, k4, k5, k6, k8, k9.eq, k10, k11, k12.eq, q6, g2.eq, g3.eq, g4.eq, natv_noHp, h4, h5, h5a]
    · have k1 : decide ((j : Int) < (n : Int)) = true := by simp; omega
      have k2 := hs.ix j hjn
      have k3 := hs.ld j hjn
      have k3e := hs.pe j hjn
      have k3a := hs.pa j hjn
      have hb2 : g j < 0 ∨ (0 ≤ g j ∧ (pw : Int) ≤ g j) := by
        unfold okd at hbad
        rw [← hpw] at hbad
        omega
      rcases hb2 with hb | ⟨hb0, hb⟩
      · have k4 : decide (g j < 0) = true := decide_eq_true hb
        simp only [EE,EX,Nat.reduceLeDiff,Nat.reduceEqDiff,Int.reduceEq,reduceCtorEq,Nat.reduceAdd,Nat.reduceMul,if_true,if_false,decide_true,decide_false, k1, k2, k3, k3e, k3a, k4, g3.eq, g4.eq, natv_noHp, h4, h5, h5a]
      · have k4 : decide (g j < 0) = false := decide_eq_false (by omega)
        have k5 : decide ((pw : Int) ≤ g j) = true := decide_eq_true hb
        simp only [EE,EX,Nat.reduceLeDiff,Nat.reduceEqDiff,Int.reduceEq,reduceCtorEq,Nat.reduceAdd,Nat.reduceMul,if_true,if_false,decide_true,decide_false, k1, k2, k3, k3e, k3a, k4, k5, g3.eq, g4.eq, natv_noHp, h4, h5, h5a]
end

theorem r_Value_nw {w : Int} {v : V} {H : Heap} (h : ¬ (1 ≤ w ∧ w ≤ 6)) (ht : H.all (lowR H.length) = true) (h4 : evV v = v) (h5 : san v = v) (h5a : ∀ q, eaV q v = v) : Run T f_window_Value [v, .i w] H = some (.tup [natv 0, .i 1700], H) := by
  rw [Run_at T _ (show T f_window_Value = some m_window_Value from rfl)]
  simp only [c_window_Value, zero9]
  have c1 := r_wide w
  rw [decide_eq_false h] at c1
  have h6 : H.take H.length = H := List.take_length ..
  simp only [EE,EX,Nat.reduceLeDiff,Nat.reduceEqDiff,Int.reduceEq,reduceCtorEq,Nat.reduceAdd,Nat.reduceMul,if_true,if_false,decide_true,decide_false, c1, h4, h5, h5a, h6, ht, Bool.not_true, Bool.not_false]
end Mir

namespace Mir

/-- What the document's loop holds. -/
def ro (w : Nat) (f : Nat → Nat) : Nat → Nat
  | 0 => 0
  | i + 1 => if bl (ro w f i) ≤ 576 then ro w f i * 2 ^ w + f i else ro w f i
theorem bl576 {x : Nat} : bl x ≤ 576 ↔ x < M := by rw [bl_le_iff]; rfl
theorem ro_vv (w : Nat) (f : Nat → Nat) : ∀ i, (vv w f i < M → ro w f i = vv w f i) ∧ (M ≤ vv w f i → M ≤ ro w f i)
  | 0 => ⟨fun _ => rfl, fun h => h⟩
  | i + 1 => by
    obtain ⟨h1, h2⟩ := ro_vv w f i
    have hle : vv w f i ≤ vv w f (i + 1) := vv_le w f (by omega)
    have e1 : vv w f (i + 1) = vv w f i * 2 ^ w + f i := rfl
    by_cases h : vv w f i < M
    · have h3 := h1 h
      have e2 : ro w f (i + 1) = vv w f (i + 1) := by rw [ro, h3, if_pos (bl576.2 h), e1]
      rw [e2]; exact ⟨fun _ => rfl, fun h => h⟩
    · have h3 := h2 (by omega)
      have e2 : ro w f (i + 1) = ro w f i := by rw [ro, if_neg (fun h4 => by have := bl576.1 h4; omega)]
      rw [e2]; exact ⟨fun h4 => by omega, fun _ => h3⟩
theorem ro_lt {w : Nat} {f : Nat → Nat} (hw : w ≤ 6) {j : Nat} (hf : ∀ i, i < j → f i < 2 ^ w) : ∀ i, i ≤ j → ro w f i < M * 64
  | 0, _ => by rw [ro]; unfold M; exact Nat.mul_pos (Nat.two_pow_pos _) (by omega)
  | i + 1, h => by
    have ih := ro_lt hw hf i (by omega)
    have h1 := hf i (by omega)
    have h2 : 2 ^ w ≤ 2 ^ 6 := Nat.pow_le_pow_right (by omega) hw
    rw [show 2 ^ 6 = 64 from rfl] at h2
    rw [ro]
    split
    · next hb =>
      have h3 := bl576.1 hb
      have h4 : (ro w f i + 1) * 2 ^ w ≤ M * 64 := Nat.mul_le_mul h3 h2
      rw [Nat.add_mul, Nat.one_mul] at h4
      omega
    · exact ih
theorem fit64 {x : Nat} (h : x < M * 64 * 64) : Fit x := Fit.of_lt (n := 19) (Nat.lt_of_lt_of_le h (by unfold M; rw [show (64 : Nat) = 2 ^ 6 from rfl, ← Nat.pow_add, ← Nat.pow_add]; exact Nat.pow_le_pow_right (by omega) (by omega))) (by omega)

theorem r_rValueG {w n j : Nat} {g : Nat → Int} {f : Nat → Nat} (hw1 : 1 ≤ w) (hw : w ≤ 6) (hn : n < 1000000000000) (hj : j ≤ n) (hf : ∀ i, i < j → g i = ((f i : Nat) : Int) ∧ f i < 2 ^ w) (hend : j = n ∨ (j < n ∧ ¬ okd w (g j))) :
    Run T f_curvetref13_Value [.vs n (is (tb n g)), .i (w : Int)] [] = some (if j = n ∧ vv w f n < M then .tup [num (vv w f n), .i 0] else .tup [num 0, .i 1700], []) := by
  rw [Run_at T _ (show T f_curvetref13_Value = some m_curvetref13_Value from rfl)]
  simp only [c_curvetref13_Value]
  have hs := sl_vs [] n g
  have kn : decide (n < 9223372036854775808) = true := by simp; omega
  have w1 : decide ((w : Int) < 1) = false := by simp; omega
  have w2 : decide ((6 : Int) < (w : Int)) = false := by simp; omega
  have g3 : F (min w 64) w := ⟨by omega⟩
  obtain ⟨pw, hpw⟩ : ∃ a : Nat, a = 2 ^ w := ⟨_, rfl⟩
  have hpw64 : pw ≤ 64 := by rw [hpw]; exact Nat.pow_le_pow_right (n := 2) (by omega) hw
  have g4 : F (w64 (1 * 2 ^ w)) (pw : Int) := ⟨by
    rw [Int.one_mul, show ((2 : Int) ^ w) = ((2 ^ w : Nat) : Int) by simp, ← hpw]; exact w64_of (by omega) (by omega)⟩
  have n0 := fun x => num_noHp x 6
  have hrl := ro_lt (w := w) (f := f) hw (j := j) (fun i hi => (hf i hi).2)
  have facts : ∀ i, i < j → ∃ x, x = bl (ro w f i) ∧ Run T f_curvetref1_Bits [num (ro w f i)] [] = some (.i (x : Int), []) ∧ Run T f_curvetref1_Shl [num (ro w f i), .i (w : Int)] [] = some (num (ro w f i * 2 ^ w), []) ∧
      Run T f_curvetref1_Small [.i ((f i : Nat) : Int)] [] = some (num (f i), []) ∧ Run T f_curvetref1_Add [num (ro w f i * 2 ^ w), num (f i)] [] = some (num (ro w f i * 2 ^ w + f i), []) ∧ g i = ((f i : Nat) : Int) ∧ f i < pw := by
    intro i hi
    obtain ⟨h1, h2⟩ := hf i hi
    have h3 := hrl i (by omega)
    have h4 : ro w f i * 2 ^ w < M * 64 * 64 := by
      rw [← hpw]
      have h5 : ro w f i * pw ≤ ro w f i * 64 := Nat.mul_le_mul_left _ hpw64
      have h6 : ro w f i * 64 < M * 64 * 64 := Nat.mul_lt_mul_of_pos_right h3 (by omega)
      omega
    have hMp : 0 < M := by unfold M; exact Nat.two_pow_pos _
    have f1 : Fit (ro w f i) := fit64 (by omega)
    exact ⟨_, rfl, r_Bits f1, r_refShl f1 (by omega), r_Small (by omega), r_Add (fit64 h4) (fit64 (by omega)), h1, by omega⟩
  have z6 : V.vs 0 [] = num 0 := num_zero.symm
  have fz0 : fzV false [] 0 5 (num 0) = some (num 0) := GG false [] 0 4 _ 32 _
  have nh : noHp 8 (.vs n (is (tb n g))) = true := GB 6 n _
  simp only [z6]
  rcases hend with hjn | ⟨hjn, hbad⟩
  · subst hjn
    simp only [EE,EX,Nat.reduceLeDiff,Nat.reduceEqDiff,Int.reduceEq,reduceCtorEq,Nat.reduceAdd,Nat.reduceMul,if_true,if_false,decide_true,decide_false, w1, w2]
    rw [loop_use T (fun i => ⟨[(0, .vs j (is (tb j g))), (1, .i (w : Int)), (6, num (ro w f i)), (7, .i (i : Int))], []⟩) j
      (.exit 0, ⟨[(6, num (ro w f j))], []⟩) ?h10 (by simp) ?h1s ?h1n]
    · obtain ⟨q1, q2⟩ := ro_vv w f j
      have h3 := hrl j (Nat.le_refl j)
      have hMp : 0 < M := by unfold M; exact Nat.two_pow_pos _
      have b1 := r_Bits (x := ro w f j) (fit64 (by omega))
      by_cases hv : vv w f j < M
      · rw [if_pos ⟨trivial, hv⟩]
        have e1 := q1 hv
        rw [e1] at b1 ⊢
        have d1 : decide ((576 : Int) < ((bl (vv w f j) : Nat) : Int)) = false := by have := bl576.2 hv; simp; omega
        generalize bl (vv w f j) = x at *
        generalize vv w f j = y at *
        simp only [EE,EX,Nat.reduceLeDiff,Nat.reduceEqDiff,Int.reduceEq,reduceCtorEq,Nat.reduceAdd,Nat.reduceMul,if_true,if_false,decide_true,decide_false, b1, d1, n0]
      · rw [if_neg (fun h => hv h.2)]
        have e1 := q2 (by omega)
        have d1 : decide ((576 : Int) < ((bl (ro w f j) : Nat) : Int)) = true := by
          have : ¬ bl (ro w f j) ≤ 576 := fun h => by have := bl576.1 h; omega
          simp; omega
        generalize bl (ro w f j) = x at *
        generalize ro w f j = y at *
        simp only [EE,EX,Nat.reduceLeDiff,Nat.reduceEqDiff,Int.reduceEq,reduceCtorEq,Nat.reduceAdd,Nat.reduceMul,if_true,if_false,decide_true,decide_false, b1, d1, n0, fz0]
    · rfl
    · intro i hi
      obtain ⟨x, q1, q2, q3, q4, q5, q6, q7⟩ := facts i hi
      have k1 : decide ((i : Int) < (j : Int)) = true := by simp; omega
      have k2 := ixOf_nat hi
      have k3 := tbI_get (g := g) hi
      rw [q6] at k3
      have k4 : decide (((f i : Nat) : Int) < 0) = false := by simp
      have k5 : decide ((pw : Int) ≤ ((f i : Nat) : Int)) = false := by simp; omega
      have k9 : F (w64 ((i : Int) + 1)) ((i + 1 : Nat) : Int) := ⟨by unfold w64; omega⟩
      have e1 : ro w f (i + 1) = if x ≤ 576 then ro w f i * 2 ^ w + f i else ro w f i := by rw [q1]; rfl
      rw [e1]
      clear e1 q1
      generalize ro w f i * 2 ^ w + f i = y3 at *
      generalize ro w f i * 2 ^ w = y2 at *
      generalize f i = d at *
      generalize ro w f i = y1 at *
      by_cases hx : x ≤ 576
      · have d1 : decide ((x : Int) ≤ 576) = true := by simp; omega
        rw [if_pos hx]
        simp only [EE,EX,Nat.reduceLeDiff,Nat.reduceEqDiff,Int.reduceEq,reduceCtorEq,Nat.reduceAdd,Nat.reduceMul,if_true,if_false,decide_true,decide_false, kn, k1, k2, k3, k4, k5, k9.eq, q2, q3, q4, q5, d1, g3.eq, g4.eq, n0, nh]
      · have d1 : decide ((x : Int) ≤ 576) = false := by simp; omega
        rw [if_neg hx]
        simp only [EE,EX,Nat.reduceLeDiff,Nat.reduceEqDiff,Int.reduceEq,reduceCtorEq,Nat.reduceAdd,Nat.reduceMul,if_true,if_false,decide_true,decide_false, kn, k1, k2, k3, k4, k5, k9.eq, q2, d1, g3.eq, g4.eq, n0, nh]
    · have k1 : decide ((j : Int) < (j : Int)) = false := by simp
      simp only [EE,EX,Nat.reduceLeDiff,Nat.reduceEqDiff,Int.reduceEq,reduceCtorEq,Nat.reduceAdd,Nat.reduceMul,if_true,if_false,decide_true,decide_false, kn, k1]
  · rw [if_neg (fun h => by omega)]
    simp only [EE,EX,Nat.reduceLeDiff,Nat.reduceEqDiff,Int.reduceEq,reduceCtorEq,Nat.reduceAdd,Nat.reduceMul,if_true,if_false,decide_true,decide_false, w1, w2]
    rw [loop_use T (fun i => ⟨[(0, .vs n (is (tb n g))), (1, .i (w : Int)), (6, num (ro w f i)), (7, .i (i : Int))], []⟩) j
      (.ret, ⟨[(4, num 0), (5, .i 1700)], []⟩) ?h20 (by simp) ?h2s ?h2n]
    · simp only [EE,EX,Nat.reduceLeDiff,Nat.reduceEqDiff,Int.reduceEq,reduceCtorEq,Nat.reduceAdd,Nat.reduceMul,if_true,if_false,decide_true,decide_false, fz0]
    · rfl
    · intro i hi
      obtain ⟨x, q1, q2, q3, q4, q5, q6, q7⟩ := facts i hi
      have k1 : decide ((i : Int) < (n : Int)) = true := by simp; omega
      have k2 := ixOf_nat (show i < n by omega)
      have k3 := tbI_get (g := g) (show i < n by omega)
      rw [q6] at k3
      have k4 : decide (((f i : Nat) : Int) < 0) = false := by simp
      have k5 : decide ((pw : Int) ≤ ((f i : Nat) : Int)) = false := by simp; omega
      have k9 : F (w64 ((i : Int) + 1)) ((i + 1 : Nat) : Int) := ⟨by unfold w64; omega⟩
      have e1 : ro w f (i + 1) = if x ≤ 576 then ro w f i * 2 ^ w + f i else ro w f i := by rw [q1]; rfl
      rw [e1]
      clear e1 q1
      generalize ro w f i * 2 ^ w + f i = y3 at *
      generalize ro w f i * 2 ^ w = y2 at *
      generalize f i = d at *
      generalize ro w f i = y1 at *
      by_cases hx : x ≤ 576
      · have d1 : decide ((x : Int) ≤ 576) = true := by simp; omega
        rw [if_pos hx]
        simp only [EE,EX,Nat.reduceLeDiff,Nat.reduceEqDiff,Int.reduceEq,reduceCtorEq,Nat.reduceAdd,Nat.reduceMul,if_true,if_false,decide_true,decide_false, kn, k1, k2, k3, k4, k5, k9.eq, q2, q3, q4, q5, d1, g3.eq, g4.eq, n0, nh]
      · have d1 : decide ((x : Int) ≤ 576) = false := by simp; omega
        rw [if_neg hx]
        simp only [EE,EX,Nat.reduceLeDiff,Nat.reduceEqDiff,Int.reduceEq,reduceCtorEq,Nat.reduceAdd,Nat.reduceMul,if_true,if_false,decide_true,decide_false, kn, k1, k2, k3, k4, k5, k9.eq, q2, d1, g3.eq, g4.eq, n0, nh]
    · have k1 : decide ((j : Int) < (n : Int)) = true := by simp; omega
      have k2 := ixOf_nat hjn
      have k3 := tbI_get (g := g) hjn
      have hb2 : g j < 0 ∨ (0 ≤ g j ∧ (pw : Int) ≤ g j) := by
        unfold okd at hbad
        rw [← hpw] at hbad
        omega
      rcases hb2 with hb | ⟨hb0, hb⟩
      · have k4 : decide (g j < 0) = true := decide_eq_true hb
        simp only [EE,EX,Nat.reduceLeDiff,Nat.reduceEqDiff,Int.reduceEq,reduceCtorEq,Nat.reduceAdd,Nat.reduceMul,if_true,if_false,decide_true,decide_false, kn, k1, k2, k3, k4, g3.eq, g4.eq, n0, nh]
      · have k4 : decide (g j < 0) = false := decide_eq_false (by omega)
        have k5 : decide ((pw : Int) ≤ g j) = true := decide_eq_true hb
        simp only [EE,EX,Nat.reduceLeDiff,Nat.reduceEqDiff,Int.reduceEq,reduceCtorEq,Nat.reduceAdd,Nat.reduceMul,if_true,if_false,decide_true,decide_false, kn, k1, k2, k3, k4, k5, g3.eq, g4.eq, n0, nh]

theorem r_rValue_nw {w : Int} {v : V} (h : ¬ (1 ≤ w ∧ w ≤ 6)) (h4 : evV v = v) : Run T f_curvetref13_Value [v, .i w] [] = some (.tup [num 0, .i 1700], []) := by
  rw [Run_at T _ (show T f_curvetref13_Value = some m_curvetref13_Value from rfl)]
  simp only [c_curvetref13_Value]
  have z6 : V.vs 0 [] = num 0 := num_zero.symm
  have fz0 : fzV false [] 0 5 (num 0) = some (num 0) := GG false [] 0 4 _ 32 _
  simp only [z6]
  by_cases h1 : w < 1
  · have w1 : decide (w < 1) = true := decide_eq_true h1
    simp only [EE,EX,Nat.reduceLeDiff,Nat.reduceEqDiff,Int.reduceEq,reduceCtorEq,Nat.reduceAdd,Nat.reduceMul,if_true,if_false,decide_true,decide_false, w1, fz0, h4]
  · have w1 : decide (w < 1) = false := decide_eq_false h1
    have w2 : decide (6 < w) = true := decide_eq_true (by omega)
    simp only [EE,EX,Nat.reduceLeDiff,Nat.reduceEqDiff,Int.reduceEq,reduceCtorEq,Nat.reduceAdd,Nat.reduceMul,if_true,if_false,decide_true,decide_false, w1, w2, fz0, h4]
end Mir

namespace Mir

theorem r_rDigits_no {x : Nat} {b w : Int} (hx : x < M) (h : ¬ (1 ≤ w ∧ w ≤ 6) ∨ b < 1 ∨ 576 < b ∨ b < ((bl x : Nat) : Int)) :
    Run T f_curvetref13_Digits [num x, .i b, .i w] [] = some (.tup [.vs 0 [], .i 1700], []) := by
  rw [Run_at T _ (show T f_curvetref13_Digits = some m_curvetref13_Digits from rfl)]
  simp only [c_curvetref13_Digits]
  have n0 := fun x => num_noHp x 6
  have hz : fzV false [] 0 5 (.vs 0 []) = some (.vs 0 []) := GG false [] 0 4 0 32 []
  have c1 := r_Bits (x := x) (fit64 (by have : M ≤ M * 64 * 64 := by rw [Nat.mul_assoc]; exact Nat.le_mul_of_pos_right _ (by omega)
                                        omega))
  by_cases h1 : w < 1
  · have d1 : decide (w < 1) = true := decide_eq_true h1
    simp only [EE,EX,Nat.reduceLeDiff,Nat.reduceEqDiff,Int.reduceEq,reduceCtorEq,Nat.reduceAdd,Nat.reduceMul,if_true,if_false,decide_true,decide_false, d1, hz, n0]
  · have d1 : decide (w < 1) = false := decide_eq_false h1
    by_cases h2 : 6 < w
    · have d2 : decide (6 < w) = true := decide_eq_true h2
      simp only [EE,EX,Nat.reduceLeDiff,Nat.reduceEqDiff,Int.reduceEq,reduceCtorEq,Nat.reduceAdd,Nat.reduceMul,if_true,if_false,decide_true,decide_false, d1, d2, hz, n0]
    · have d2 : decide (6 < w) = false := decide_eq_false h2
      by_cases h3 : b < 1
      · have d3 : decide (b < 1) = true := decide_eq_true h3
        simp only [EE,EX,Nat.reduceLeDiff,Nat.reduceEqDiff,Int.reduceEq,reduceCtorEq,Nat.reduceAdd,Nat.reduceMul,if_true,if_false,decide_true,decide_false, d1, d2, d3, hz, n0]
      · have d3 : decide (b < 1) = false := decide_eq_false h3
        by_cases h4 : 576 < b
        · have d4 : decide (576 < b) = true := decide_eq_true h4
          simp only [EE,EX,Nat.reduceLeDiff,Nat.reduceEqDiff,Int.reduceEq,reduceCtorEq,Nat.reduceAdd,Nat.reduceMul,if_true,if_false,decide_true,decide_false, d1, d2, d3, d4, hz, n0]
        · have d4 : decide (576 < b) = false := decide_eq_false h4
          have d5 : decide (b < ((bl x : Nat) : Int)) = true := decide_eq_true (by omega)
          simp only [EE,EX,Nat.reduceLeDiff,Nat.reduceEqDiff,Int.reduceEq,reduceCtorEq,Nat.reduceAdd,Nat.reduceMul,if_true,if_false,decide_true,decide_false, d1, d2, d3, d4, d5, c1, hz, n0]

theorem r_rDigits {x b w : Nat} (hx : x < M) (hb1 : 1 ≤ b) (hb : b ≤ 576) (hw1 : 1 ≤ w) (hw : w ≤ 6) (hbl : bl x ≤ b) :
    Run T f_curvetref13_Digits [num x, .i (b : Int), .i (w : Int)] [] = some (.tup [.vs ((b + w - 1) / w) (ints ((b + w - 1) / w) (dgt x w ((b + w - 1) / w))), .i 0], []) := by
  rw [Run_at T _ (show T f_curvetref13_Digits = some m_curvetref13_Digits from rfl)]
  simp only [c_curvetref13_Digits]
  have n0 := fun x => num_noHp x 6
  have fx : Fit x := fit64 (by
    have : M ≤ M * 64 * 64 := by rw [Nat.mul_assoc]; exact Nat.le_mul_of_pos_right _ (by omega)
    omega)
  have c1 := r_Bits fx
  obtain ⟨n, hn⟩ : ∃ n, n = (b + w - 1) / w := ⟨_, rfl⟩
  rw [← hn]
  have hmul : (b + w - 1) / w * w ≤ b + w - 1 := Nat.div_mul_le_self _ _
  rw [← hn] at hmul
  have hn1 : 1 ≤ n := by rw [hn, Nat.le_div_iff_mul_le (by omega)]; omega
  have hn2 : n ≤ 581 := by
    have : n ≤ b + w - 1 := by rw [hn]; exact Nat.div_le_self _ _
    omega
  have d1 : decide ((w : Int) < 1) = false := by simp; omega
  have d2 : decide ((6 : Int) < (w : Int)) = false := by simp; omega
  have d3 : decide ((b : Int) < 1) = false := by simp; omega
  have d4 : decide ((576 : Int) < (b : Int)) = false := by simp; omega
  have d5 : decide ((b : Int) < ((bl x : Nat) : Int)) = false := by simp; omega
  obtain ⟨bw, hbw⟩ : ∃ bw : Nat, bw = b + w := ⟨_, rfl⟩
  obtain ⟨bw1, hbw1⟩ : ∃ bw1 : Nat, bw1 = b + w - 1 := ⟨_, rfl⟩
  have hn' : n = bw1 / w := by rw [hn, hbw1]
  have g4 : F (w64 ((b : Int) + (w : Int))) (bw : Int) := ⟨by unfold w64; omega⟩
  have g5 : F (w64 ((bw : Int) - 1)) (bw1 : Int) := ⟨by unfold w64; omega⟩
  have g6 : F (w64 (Int.tdiv (bw1 : Int) (w : Int))) (n : Int) := ⟨by
    rw [Int.tdiv_eq_ediv_of_nonneg (by omega), ← Int.natCast_ediv, ← hn']
    exact w64_of (by omega) (by omega)⟩
  have g7 : decide ((w : Int) = 0) = false := by simp; omega
  have k6 := ixOf_nat (show n < 140737488355329 by omega)
  have k7 := ixOf_nat (show n < n + 1 by omega)
  have k8 : roomOk n 8 = true := by simp [roomOk]; omega
  obtain ⟨f, hf⟩ : ∃ f : Nat → Nat, ∀ j, f j = dgt x w n j := ⟨_, fun _ => rfl⟩
  have hff : ints n (dgt x w n) = ints n f := by
    have h1 : (tb n fun j => ((dgt x w n j : Nat) : Int)) = tb n fun j => ((f j : Nat) : Int) := tb_congr fun j hj => by rw [hf]
    unfold ints; rw [h1]
  rw [hff]
  obtain ⟨G, hG⟩ : ∃ G : Nat → Nat → Int, ∀ i j, G i j = if n - 1 - j < i then ((f j : Nat) : Int) else 0 := ⟨_, fun _ _ => rfl⟩
  simp only [EE,EX,Nat.reduceLeDiff,Nat.reduceEqDiff,Int.reduceEq,reduceCtorEq,Nat.reduceAdd,Nat.reduceMul,if_true,if_false,decide_true,decide_false, d1, d2, d3, d4, d5, c1, n0, g4.eq, g5.eq, g6.eq, g7, k6, k7, k8]
  rw [loop_use T (fun i => ⟨[(0, num x), (2, .i (w : Int)), (8, .i (n : Int)), (9, .hs 1 0 0 n n), (10, .i (i : Int))], [some (is (tb n (G i)))]⟩) n
    (.exit 0, ⟨[(9, .hs 1 0 0 n n)], [some (ints n f)]⟩) ?h0 (by simp) ?hs ?hn]
  · simp only [ints]
    have e1 : (tb n fun j => ((f j : Nat) : Int)).length = n := tb_len _ _
    have t1 := tb_take_self n (fun j => ((f j : Nat) : Int))
    simp only [EE,EX,Nat.reduceLeDiff,Nat.reduceEqDiff,Int.reduceEq,reduceCtorEq,Nat.reduceAdd,Nat.reduceMul,if_true,if_false,decide_true,decide_false, t1]
  · have e1 : List.replicate n 0 = tb n (G 0) := by
      rw [tb_rep]
      exact tb_congr fun j hj => by rw [hG, if_neg (by omega)]
    rw [e1]; rfl
  · intro i hi
    obtain ⟨t, ht⟩ : ∃ t, t = w * i := ⟨_, rfl⟩
    have htb : t ≤ 575 := by
      have h1 : w * i + w ≤ w * n := by
        rw [← Nat.mul_succ]; exact Nat.mul_le_mul_left _ hi
      rw [Nat.mul_comm w n] at h1
      omega
    obtain ⟨m, hm⟩ : ∃ m, m = n - 1 - i := ⟨_, rfl⟩
    obtain ⟨m1, hm1⟩ : ∃ m1, m1 = n - 1 := ⟨_, rfl⟩
    have k1 : decide ((i : Int) < (n : Int)) = true := by simp; omega
    have k2 : F (w64 ((w : Int) * (i : Int))) (t : Int) := ⟨by rw [← Int.natCast_mul, ← ht]; exact w64_of (by omega) (by omega)⟩
    have k3 := r_refShr fx (k := t) (by omega)
    obtain ⟨y, hy⟩ : ∃ y, y = x / 2 ^ t := ⟨_, rfl⟩
    rw [← hy] at k3
    have k4 : F (w64 ((n : Int) - 1)) (m1 : Int) := ⟨by unfold w64; omega⟩
    have k5 : F (w64 ((m1 : Int) - (i : Int))) (m : Int) := ⟨by unfold w64; omega⟩
    have k9 : F (w64 ((i : Int) + 1)) ((i + 1 : Nat) : Int) := ⟨by unfold w64; omega⟩
    have hfm : f m = y % 2 ^ w := by rw [hf, dgt, show n - 1 - m = i by omega, hy, ht, Nat.mul_comm w i]
    have hG1 : ∀ j, j < n → G (i + 1) j = if j = m then ((f m : Nat) : Int) else G i j := fun j hjn => by
      rw [hG, hG]
      by_cases h : j = m
      · rw [if_pos h, h, if_pos (by omega)]
      · rw [if_neg h]
        by_cases h2 : n - 1 - j < i
        · rw [if_pos h2, if_pos (by omega)]
        · rw [if_neg h2]
          rw [if_neg (by omega)]
    have e1 : tb n (G (i + 1)) = tb n (fun j => if j = m then ((f m : Nat) : Int) else G i j) := tb_congr fun j hj => hG1 j hj
    by_cases h0 : y = 0
    · have fm0 : f m = 0 := by rw [hfm, h0, Nat.zero_mod]
      have e2 : tb n (G (i + 1)) = tb n (G i) := tb_congr fun j hj => by
        rw [hG1 j hj, fm0]
        by_cases h : j = m
        · rw [if_pos h, h, hG, if_neg (by omega)]; rfl
        · rw [if_neg h]
      rw [h0] at k3
      have z0 : decide ((0 : Int) < (((dg 0).length : Nat) : Int)) = false := rfl
      have z1 : decide ((dg 0).length < 9223372036854775808) = true := rfl
      rw [e2]
      simp only [EE,EX,Nat.reduceLeDiff,Nat.reduceEqDiff,Int.reduceEq,reduceCtorEq,Nat.reduceAdd,Nat.reduceMul,if_true,if_false,decide_true,decide_false, k1, k2.eq, k3, k9.eq, n0, z0, z1]
    · have z0 : decide ((0 : Int) < (((dg y).length : Nat) : Int)) = true := by
        have := dg_pos h0
        rw [this]; simp
      have fy : (dg y).length ≤ 18 := dg_len_le 18 y (M32 ▸ Nat.lt_of_le_of_lt (by rw [hy]; exact Nat.div_le_self _ _) hx)
      have z1 : decide ((dg y).length < 9223372036854775808) = true := by simp; omega
      have z2 : ixOf (dg y).length (.i 0) = some 0 := by
        exact ixOf_nat (show 0 < (dg y).length by rw [dg_pos h0]; simp)
      have z3 : part (us 32 (dg y)) 0 none = some (.u 32 (y % 4294967296)) := by
        rw [dg_pos h0]; rfl
      have z4 : F (min w 32) w := ⟨by omega⟩
      have z5 : ((y % 4294967296) &&& ((1 * 2 ^ w % 2 ^ 32 + 2 ^ 32 - 1) % 2 ^ 32)) = f m := by
        rw [hfm]
        have h1 : 2 ^ w < 2 ^ 32 := Nat.pow_lt_pow_right (by omega) (by omega)
        have h2 : 0 < 2 ^ w := Nat.two_pow_pos w
        rw [Nat.one_mul, Nat.mod_eq_of_lt h1]
        have h3 : (2 ^ w + 2 ^ 32 - 1) % 2 ^ 32 = 2 ^ w - 1 := by omega
        rw [h3, Nat.and_two_pow_sub_one_eq_mod]
        exact Nat.mod_mod_of_dvd _ (Nat.pow_dvd_pow 2 (show w ≤ 32 by omega))
      have z6 : F (w64 ((f m : Nat) : Int)) ((f m : Nat) : Int) := ⟨by
        have : f m < 64 := by
          rw [hfm]
          exact Nat.lt_of_lt_of_le (Nat.mod_lt _ (Nat.two_pow_pos w)) (Nat.pow_le_pow_right (n := 2) (by omega) hw)
        exact w64_of (by omega) (by omega)⟩
      have i1 := ixOf_nat (show m < n by omega)
      have k8b : decide (m + 1 ≤ n) = true := by simp; omega
      simp only [Nat.one_mul] at z5
      rw [e1]
      generalize f m = d at *
      simp only [EE,EX,Nat.reduceLeDiff,Nat.reduceEqDiff,Int.reduceEq,reduceCtorEq,Nat.reduceAdd,Nat.reduceMul,if_true,if_false,decide_true,decide_false, k1, k2.eq, k3, k4.eq, k5.eq, k9.eq, n0, z0, z1, z2, z3, z4.eq, z5, z6.eq, i1, k8b]
  · have k1 : decide ((n : Int) < (n : Int)) = false := by simp
    have e1 : tb n (G n) = tb n (fun j => ((f j : Nat) : Int)) := tb_congr fun j hj => by rw [hG, if_pos (by omega)]
    rw [e1]
    simp only [EE,EX,Nat.reduceLeDiff,Nat.reduceEqDiff,Int.reduceEq,reduceCtorEq,Nat.reduceAdd,Nat.reduceMul,if_true,if_false,decide_true,decide_false, k1, ints]
end Mir

namespace Mir

theorem r_DigitsOwn_no {H : Heap} (hlow : H.all (lowR H.length) = true) {x : Nat} {b w : Int} (hx : x < M) (h : ¬ (1 ≤ w ∧ w ≤ 6) ∨ b < 1 ∨ 576 < b ∨ b < ((bl x : Nat) : Int)) :
    Run T f_window_Digits [natv x, .i b, .i w] H = some (.tup [.nils, .i 1700], H) := by
  rw [Run_at T _ (show T f_window_Digits = some m_window_Digits from rfl)]
  simp only [c_window_Digits]
  have c1 := r_wide w
  have c3 := r_natBits hx
  have ht : H.take H.length = H := List.take_length ..
  have r1 := rt_1n H H.length 1700
  rw [ht] at r1
  by_cases h1 : 1 ≤ w ∧ w ≤ 6
  · have k1 : decide (1 ≤ w ∧ w ≤ 6) = true := decide_eq_true h1
    rw [k1] at c1
    by_cases h2 : b < 1
    · have k2 : decide (b < 1) = true := decide_eq_true h2
      simp only [EE,EX,Nat.reduceLeDiff,Nat.reduceEqDiff,Int.reduceEq,reduceCtorEq,Nat.reduceAdd,Nat.reduceMul,if_true,if_false,decide_true,decide_false, c1, k2, ht, hlow, r1]
    · have k2 : decide (b < 1) = false := decide_eq_false h2
      by_cases h3 : 576 < b
      · have k3 : decide (576 < b) = true := decide_eq_true h3
        simp only [EE,EX,Nat.reduceLeDiff,Nat.reduceEqDiff,Int.reduceEq,reduceCtorEq,Nat.reduceAdd,Nat.reduceMul,if_true,if_false,decide_true,decide_false, c1, k2, k3, ht, hlow, r1]
      · have k3 : decide (576 < b) = false := decide_eq_false h3
        have k4 : decide (b < ((bl x : Nat) : Int)) = true := decide_eq_true (by
          rcases h with h | h | h | h
          · exact absurd h1 h
          · exact absurd h h2
          · exact absurd h h3
          · exact h)
        simp only [EE,EX,Nat.reduceLeDiff,Nat.reduceEqDiff,Int.reduceEq,reduceCtorEq,Nat.reduceAdd,Nat.reduceMul,if_true,if_false,decide_true,decide_false, c1, c3, k2, k3, k4, natv_noHp, ht, hlow, r1]
  · have k1 : decide (1 ≤ w ∧ w ≤ 6) = false := decide_eq_false h1
    rw [k1] at c1
    simp only [EE,EX,Nat.reduceLeDiff,Nat.reduceEqDiff,Int.reduceEq,reduceCtorEq,Nat.reduceAdd,Nat.reduceMul,if_true,if_false,decide_true,decide_false, c1, ht, hlow, r1]

theorem r_Spoil_nils : Run T f_curvetlaw0_SpoilInts [.nils] [] = some (.tup [], []) := (Run_some T).2 ⟨9, by kernel_rfl⟩

theorem first_bad (w : Nat) (g : Nat → Int) : ∀ n, ∃ j, j ≤ n ∧ (∀ i, i < j → okd w (g i)) ∧ (j = n ∨ (j < n ∧ ¬ okd w (g j)))
  | 0 => ⟨0, Nat.le_refl _, fun i h => absurd h (by omega), .inl rfl⟩
  | n + 1 => by
    obtain ⟨j, h1, h2, h3⟩ := first_bad w g n
    rcases h3 with h3 | h3
    · subst h3
      by_cases h : okd w (g j)
      · refine ⟨j + 1, Nat.le_refl _, fun i hi => ?_, .inl rfl⟩
        rcases Nat.lt_or_ge i j with h4 | h4
        · exact h2 i h4
        · have : i = j := by omega
          rw [this]; exact h
      · exact ⟨j, by omega, h2, .inr ⟨by omega, h⟩⟩
    · exact ⟨j, by omega, h2, .inr ⟨by omega, h3.2⟩⟩

theorem values {w : Int} {n : Nat} {g : Nat → Int} {v : V} {H : Heap} {p : Nat → V} (hs : Slc H v n g p) (hn : n < 1000000000000) (hlow : H.all (lowR H.length) = true) :
    ∃ y e, Run T f_window_Value [v, .i w] H = some (.tup [natv y, .i e], H) ∧ Run T f_curvetref13_Value [.vs n (is (tb n g)), .i w] [] = some (.tup [num y, .i e], []) ∧ y < M ∧ (e = 0 ∨ (e = 1700 ∧ y = 0)) := by
  have hMp : 0 < M := by unfold M; exact Nat.two_pow_pos _
  by_cases h : 1 ≤ w ∧ w ≤ 6
  · obtain ⟨k, rfl⟩ : ∃ k : Nat, w = (k : Int) := ⟨w.toNat, by omega⟩
    obtain ⟨j, h1, h2, h3⟩ := first_bad k g n
    have hf : ∀ i, i < j → g i = (((g i).toNat : Nat) : Int) ∧ (g i).toNat < 2 ^ k := fun i hi => by
      obtain ⟨a, b⟩ := h2 i hi
      have e : g i = (((g i).toNat : Nat) : Int) := by omega
      exact ⟨e, by omega⟩
    have r1 := r_ValueG (w := k) (f := fun i => (g i).toNat) (by omega) (by omega) hs hn hlow h1 hf h3
    have r2 := r_rValueG (w := k) (f := fun i => (g i).toNat) (by omega) (by omega) hn h1 hf h3
    by_cases hv : j = n ∧ vv k (fun i => (g i).toNat) n < M
    · rw [if_pos hv] at r1 r2
      exact ⟨_, 0, r1, r2, hv.2, .inl rfl⟩
    · rw [if_neg hv] at r1 r2
      exact ⟨0, 1700, r1, r2, hMp, .inr ⟨rfl, rfl⟩⟩
  · exact ⟨0, 1700, r_Value_nw h hlow hs.ev hs.sn hs.ea, r_rValue_nw h rfl, hMp, .inr ⟨rfl, rfl⟩⟩

theorem tb_self (L : List Int) : L = tb L.length (fun i => (L[i]?).getD 0) := by
  apply List.ext_getElem
  · simp [tb_len]
  · intro i h1 h2
    simp [tb, h1]

theorem low_ints (n m : Nat) (g : Nat → Int) : lowR m (some (is (tb n g))) = true := by
  simp only [lowR, is, List.all_map, List.all_eq_true]; intro x _; rfl
theorem low_is (m : Nat) (L : List Int) : lowR m (some (is L)) = true := by
  simp only [lowR, is, List.all_map, List.all_eq_true]; intro x _; rfl

theorem law_Windows {x : Nat} (hx : x < M) {b w : Int} (_ : -9223372036854775808 ≤ b) (_ : b < 9223372036854775808) (_ : -9223372036854775808 ≤ w) (_ : w < 9223372036854775808) {L : List Int} (hL : L.length < 1000000000) :
    Run T f_curvetlaw17_Windows [natv x, .i b, .i w, .vs L.length (is L)] [] = some (.b true, []) := by
  rw [Run_at T _ (show T f_curvetlaw17_Windows = some m_curvetlaw17_Windows from rfl)]
  simp only [c_curvetlaw17_Windows, zero9]
  have c0 := r_awake
  have f0 := r_From hx
  obtain ⟨n, hn⟩ : ∃ n, n = L.length := ⟨_, rfl⟩
  obtain ⟨g, hg⟩ : ∃ g : Nat → Int, L = tb n g := ⟨_, hn ▸ tb_self L⟩
  rw [← hn] at hL ⊢
  have c9 := r_Num 0
  have c10 := r_Num 1700
  have k0 := eqis 0
  have k17 := eqis 1700
  have z1 : decide ((1700 : Int) = 0) = false := rfl
  have n0 := fun x => num_noHp x 6
  have nds : noHp 8 (.vs n (is L)) = true := GB 6 n _
  have nz : noHp 8 (.vs 0 []) = true := rfl
  obtain ⟨Q, hQ⟩ : ∃ Q, Q = L ++ [-7777, -8888] := ⟨_, rfl⟩
  have hg2 : ∃ G : Nat → Int, (∀ i, i < n → G i = g i) ∧ Q = tb (n + 2) G := by
    refine ⟨fun i => (Q[i]?).getD 0, fun i hi => ?_, ?_⟩
    · rw [hQ, hg]
      show ((tb n g ++ [-7777, -8888])[i]?).getD 0 = g i
      rw [List.getElem?_append_left (by rw [tb_len]; exact hi)]
      simp [tb, hi]
    · have := tb_self Q
      rw [show Q.length = n + 2 by rw [hQ, hn]; simp] at this
      exact this
  obtain ⟨G, hG1, hG2⟩ := hg2
  have ny : ∀ y, y < M → Run T f_curvetref1_Nat [num y] [] = some (natv y, []) := fun y hy => r_Nat (x := y) (fit64 (by
    have : M ≤ M * 64 * 64 := by rw [Nat.mul_assoc]; exact Nat.le_mul_of_pos_right _ (by omega)
    omega))
  by_cases h : (1 ≤ w ∧ w ≤ 6) ∧ 1 ≤ b ∧ b ≤ 576 ∧ ((bl x : Nat) : Int) ≤ b
  · obtain ⟨⟨h1, h2⟩, h3, h4, h5⟩ := h
    obtain ⟨k, rfl⟩ : ∃ k : Nat, w = (k : Int) := ⟨w.toNat, by omega⟩
    obtain ⟨b', rfl⟩ : ∃ k : Nat, b = (k : Int) := ⟨b.toNat, by omega⟩
    obtain ⟨m, hm⟩ : ∃ m, m = (b' + k - 1) / k := ⟨_, rfl⟩
    have hm2 : m ≤ 581 := by
      have : m ≤ b' + k - 1 := by rw [hm]; exact Nat.div_le_self _ _
      omega
    obtain ⟨f, hf⟩ : ∃ f : Nat → Int, f = fun j => ((dgt x k m j : Nat) : Int) := ⟨_, rfl⟩
    have hints : ints m (dgt x k m) = is (tb m f) := by rw [hf]; rfl
    have a1 := r_DigitsOwn (H := []) rfl hx (b := b') (w := k) (by omega) (by omega) (by omega) (by omega) (by omega)
    rw [← hm, hints] at a1
    have lr := low_ints m 1 f
    have a2 := r_DigitsOwn (H := [some (is (tb m f))]) (by simpa using lr) hx (b := b') (w := k) (by omega) (by omega) (by omega) (by omega) (by omega)
    rw [← hm, hints] at a2
    have a3 := r_rDigits hx (b := b') (w := k) (by omega) (by omega) (by omega) (by omega) (by omega)
    rw [← hm, hints] at a3
    have lr2 := low_ints m 2 f
    have l1 := r_LendInts (H := [some (is (tb m f)), some (is (tb m f))]) (by simpa using lr2) (L := L) (by omega)
    rw [← hn] at l1
    have lr3 := low_ints m 3 f
    have lq3 := low_is 3 Q
    have hlow3 : [some (is (tb m f)), some (is (tb m f)), some (is Q)].all (lowR [some (is (tb m f)), some (is (tb m f)), some (is Q)].length) = true := by
      simp only [List.length_cons, List.length_nil, List.all_cons, List.all_nil, lr3, lq3, Bool.and_self]
    rw [← hQ] at l1
    obtain ⟨ra, hra⟩ : ∃ ra, ra = is (tb m f) := ⟨_, rfl⟩
    have hrow : row [some ra, some ra, some (is Q)] 2 = some (is (tb (n + 2) G)) := by rw [← hG2]; rfl
    have hrow0 : row [some ra, some ra, some (is Q)] 0 = some (is (tb m f)) := by rw [hra]; rfl
    have hrow1 : ∀ r0, row [some r0, some ra, some (is Q)] 1 = some (is (tb m f)) := fun r0 => by rw [hra]; rfl
    have sx0 := sl_hs (n := n) (cap := n + 2) hrow (by omega)
    have sx : Slc [some ra, some ra, some (is Q)] (.hs 1 2 0 n (n + 2)) n g (fun i => .hp 2 (0 + i * 1)) := ⟨sx0.len, sx0.ix, fun i hi => by rw [← hG1 i hi]; exact sx0.ld i hi, sx0.ev, sx0.sn, sx0.pe, sx0.ea, sx0.pa⟩
    rw [← hra] at hlow3 a1 a2 l1
    obtain ⟨y, e, v1, v2, hy, he⟩ := values (w := (k : Int)) sx (by omega) hlow3
    have sd := sl_vs [some ra, some ra, some (is Q)] n g
    have kp := r_KeptInts (H := [some ra, some ra, some (is Q)]) (k := 2) (L := L) (by rw [← hQ]; rfl) hg sd (by omega) hlow3
    have sm := r_SameInts (sl_hs (n := m) (cap := m) hrow0 (Nat.le_refl m)) (sl_vs [some ra, some ra, some (is Q)] m f) (by omega) hlow3
    have hlowS : ∀ g' : Nat → Int, [some (is (tb m g')), some ra, some (is Q)].all (lowR 3) = true := fun g' => by
      have l1 := low_ints m 3 g'
      rw [hra]
      simp only [List.all_cons, List.all_nil, l1, lr3, lq3, Bool.and_self]
    have sp := r_SpoilInts (n := m) (g := f) (rb := ra) (rc := is Q) (by omega) hlowS
    have sm2 := r_SameInts (sl_hs (n := m) (cap := m) (hrow1 (is (tb m (spo f m)))) (Nat.le_refl m)) (sl_vs [some (is (tb m (spo f m))), some ra, some (is Q)] m f) (by omega) (hlowS _)
    have ny := ny y hy
    have nf : noHp 8 (.vs m (is (tb m f))) = true := GB 6 m _
    rw [← hg] at v2 kp
    rw [← hra] at a3 sm sm2 sp nf
    generalize is (tb m (spo f m)) = rs at *
    rcases he with rfl | ⟨rfl, rfl⟩
    · simp only [EE,EX,Nat.reduceLeDiff,Nat.reduceEqDiff,Int.reduceEq,reduceCtorEq,Nat.reduceAdd,Nat.reduceMul,if_true,if_false,decide_true,decide_false, c0, f0, c9, c10, k0, k17, z1, n0, nds, nz, nf, a1, a2, a3, l1, v1, v2, kp, sm, sm2, sp, ny, natv_noHp, eq9s, Bool.not_true, Bool.not_false]
    · simp only [EE,EX,Nat.reduceLeDiff,Nat.reduceEqDiff,Int.reduceEq,reduceCtorEq,Nat.reduceAdd,Nat.reduceMul,if_true,if_false,decide_true,decide_false, c0, f0, c9, c10, k0, k17, z1, n0, nds, nz, nf, a1, a2, a3, l1, v1, v2, kp, sm, sm2, sp, ny, natv_noHp, eq9s, Bool.not_true, Bool.not_false]
  · have h' : ¬ (1 ≤ w ∧ w ≤ 6) ∨ b < 1 ∨ 576 < b ∨ b < ((bl x : Nat) : Int) := by omega
    have a1 := r_DigitsOwn_no (H := []) rfl hx h'
    have a2 := r_rDigits_no hx h'
    have l1 := r_LendInts (H := []) rfl (L := L) (by omega)
    rw [← hn] at l1
    have lq := low_is 1 Q
    have hlow : [some (is Q)].all (lowR [some (is Q)].length) = true := by simpa using lq
    have hrow : row [some (is Q)] 0 = some (is (tb (n + 2) G)) := by rw [← hG2]; rfl
    have sx0 := sl_hs (n := n) (cap := n + 2) hrow (by omega)
    have sx : Slc [some (is Q)] (.hs 1 0 0 n (n + 2)) n g (fun i => .hp 0 (0 + i * 1)) := ⟨sx0.len, sx0.ix, fun i hi => by rw [← hG1 i hi]; exact sx0.ld i hi, sx0.ev, sx0.sn, sx0.pe, sx0.ea, sx0.pa⟩
    obtain ⟨y, e, v1, v2, hy, he⟩ := values (w := w) sx (by omega) hlow
    have sd := sl_vs [some (is Q)] n g
    have kp := r_KeptInts (H := [some (is Q)]) (k := 0) (L := L) (by rw [← hQ]; rfl) hg sd (by omega) hlow
    have sm := r_SameInts (H := []) (sl_nils [] g (fun _ => .nilp)) (sl_vs [] 0 g) (by omega) rfl
    have e0 : tb 0 g = [] := rfl
    rw [e0, show is [] = [] from rfl] at sm
    have sp := r_Spoil_nils
    have ny := ny y hy
    rw [← hg] at v2 kp
    rw [← hQ] at l1
    rcases he with rfl | ⟨rfl, rfl⟩
    · simp only [EE,EX,Nat.reduceLeDiff,Nat.reduceEqDiff,Int.reduceEq,reduceCtorEq,Nat.reduceAdd,Nat.reduceMul,if_true,if_false,decide_true,decide_false, c0, f0, c9, c10, k0, k17, z1, n0, nds, nz, a1, a2, l1, v1, v2, kp, sm, sp, ny, natv_noHp, eq9s, Bool.not_true, Bool.not_false]
    · simp only [EE,EX,Nat.reduceLeDiff,Nat.reduceEqDiff,Int.reduceEq,reduceCtorEq,Nat.reduceAdd,Nat.reduceMul,if_true,if_false,decide_true,decide_false, c0, f0, c9, c10, k0, k17, z1, n0, nds, nz, a1, a2, l1, v1, v2, kp, sm, sp, ny, natv_noHp, eq9s, Bool.not_true, Bool.not_false]
end Mir

