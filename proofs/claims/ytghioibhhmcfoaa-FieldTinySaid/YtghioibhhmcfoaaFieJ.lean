/- The document's root modulo a prime. Conditions: none. -/
import Derived.Test.YtghioibhhmcfoaaAllF
set_option linter.unusedVariables false
set_option linter.unusedSectionVars false
set_option linter.unusedSimpArgs false
set_option exponentiation.threshold 5000
set_option maxRecDepth 20000
set_option maxHeartbeats 1000000
namespace Mir

theorem one_set : V.vs 1 ([V.u 32 0].set 0 (V.u 32 1)) = num 1 := rfl
theorem two_set : V.vs 1 ([V.u 32 0].set 0 (V.u 32 2)) = num 2 := rfl
theorem dgPos {x : Nat} (h : x ≠ 0) : (dg x).length ≠ 0 := fun h0 => by
  have := dg_len_lt x
  rw [h0] at this
  omega

section
variable {p a : Nat} (hp : Pr p) (lt : p < M) (hp3 : 200 ≤ p) (ha : a < p)
include hp lt hp3 ha

theorem r_refSqrt_no (h0 : a ≠ 0) (he : a ^ ((p - 1) / 2) % p ≠ 1) : Run T f_curvetref1_Sqrt [num a, num p] [] = some (.tup [num 0, .b false], []) := by
  rw [Run_at T _ (show T f_curvetref1_Sqrt = some m_curvetref1_Sqrt from rfl)]
  simp only [c_curvetref1_Sqrt]
  have hM := Mpos
  have fP : Fit p := fitF (by omega)
  have n0 := fun x => num_noHp x 6
  have kl : decide ((dg a).length < 9223372036854775808) = true := by
    have := lenF (x := a) (by omega)
    simp; omega
  have dl0 : decide (((dg a).length : Int) = 0) = false := by
    have := dgPos h0
    exact decide_eq_false (by omega)
  have c1 := r_refSub (a := p) (b := 1) fP (by omega)
  have c2 := r_refShr (a := p - 1) (k := 1) (fitF (by omega)) (by omega)
  rw [Nat.pow_one, show ((1 : Nat) : Int) = 1 from rfl] at c2
  have l1 := lenF (x := a) (by omega)
  have l2 := lenF (x := (p - 1) / 2) (by omega)
  have l3 := lenF lt
  have c3 := r_refPowMod (a := a) (e := (p - 1) / 2) (m := p) (by omega) (by omega) (by omega) (by omega)
  have hlt : a ^ ((p - 1) / 2) % p < p := Nat.mod_lt _ (by omega)
  have c4 := r_refCmp (a := a ^ ((p - 1) / 2) % p) (b := 1) (fitF (by omega)) (fitF (by omega))
  have d1 : decide (cmpI (a ^ ((p - 1) / 2) % p) 1 = 0) = false := decide_eq_false (by unfold cmpI; split <;> (try split) <;> omega)
  generalize a ^ ((p - 1) / 2) % p = e at *
  generalize (p - 1) / 2 = hh at *
  generalize p - 1 = q at *
  rw [num_zero]
  have hz : fzV false [] 0 5 (.vs 0 []) = some (.vs 0 []) := GF false [] 0 4 0 32 []
  simp only [EE,EX,Nat.reduceLeDiff,Nat.reduceEqDiff,Int.reduceEq,reduceCtorEq,Nat.reduceAdd,Nat.reduceMul,if_true,if_false,decide_true,decide_false, hz, kl, dl0, c1, c2, c3, c4, d1, n0, one_set, two_set, Bool.not_true, Bool.not_false]

theorem r_refSqrt_ok {z : Nat} (ho : p % 2 = 1) (h0 : a ≠ 0) (he : a ^ ((p - 1) / 2) % p = 1)
    (hz1 : 2 ≤ z) (hz2 : z < 40) (hz3 : z ^ ((p - 1) / 2) % p = p - 1) (hz4 : ∀ y, 2 ≤ y → y < z → y ^ ((p - 1) / 2) % p = 1) :
    ∃ y, y < p ∧ y % 2 = 0 ∧ y * y % p = a ∧ Run T f_curvetref1_Sqrt [num a, num p] [] = some (.tup [num y, .b true], []) := by
  have hM := Mpos
  obtain ⟨⟨s, n, u, hs1, hs2, hs3, hs4, hu0, hu1, hn, hn1, hok⟩⟩ := rootAt hp lt ho hz3 he
  obtain ⟨q, hq⟩ : ∃ q, q = p - 1 := ⟨_, rfl⟩
  rw [← hq] at he hz3 hz4 hs2 hs3
  have hx := (hok n (Nat.le_refl n)).1
  have x1 : (u n).x < p := hx.x
  have x2 : (u n).x * (u n).x % p = a := by rw [hx.sq, hn, Nat.mul_one, Nat.mod_eq_of_lt ha]
  have x0 : (u n).x ≠ 0 := by intro h; rw [h, Nat.zero_mul, Nat.zero_mod] at x2; exact h0 x2.symm
  have fP : Fit p := fitF (by omega)
  have n0 := fun x => num_noHp x 6
  have kl : decide ((dg a).length < 9223372036854775808) = true := by
    have := lenF (x := a) (by omega)
    simp; omega
  have dl0 : decide (((dg a).length : Int) = 0) = false := by
    have := dgPos h0
    exact decide_eq_false (by omega)
  have c1 := r_refSub (a := p) (b := 1) fP (by omega)
  rw [← hq] at c1
  have sh : ∀ x, x < M → Run T f_curvetref1_Shr [num x, .i 1] [] = some (num (x / 2), []) := fun x hx => by
    have := r_refShr (a := x) (k := 1) (fitF (by omega)) (by omega)
    rw [Nat.pow_one, show ((1 : Nat) : Int) = 1 from rfl] at this
    exact this
  have bt : ∀ x, x < M → Run T f_curvetref1_Bit [num x, .i 0] [] = some (.i ((x % 2 : Nat) : Int), []) := fun x hx => by
    have := r_refBit (a := x) (i := 0) (fitF (by omega)) (by omega)
    rw [Nat.pow_zero, Nat.div_one] at this
    exact this
  have pw : ∀ x e, x < M → e < M → Run T f_curvetref1_PowMod [num x, num e, num p] [] = some (num (x ^ e % p), []) := fun x e hx he => by
    have l1 := lenF hx
    have l2 := lenF he
    have l3 := lenF lt
    exact r_refPowMod (by omega) (by omega) (by omega) (by omega)
  have mu : ∀ x y, x < p → y < p → Run T f_curvetref1_MulMod [num x, num y, num p] [] = some (num (x * y % p), []) := fun x y hx hy => by
    have l1 := lenF (x := x) (by omega)
    have l2 := lenF (x := y) (by omega)
    have l3 := lenF lt
    exact r_refMulMod (by omega) (by omega) (by omega) (by omega)
  have ad : ∀ x, x < M → Run T f_curvetref1_Add [num x, num 1] [] = some (num (x + 1), []) := fun x hx => r_Add (fitF (by omega)) (fitF (by omega))
  have cm : ∀ x, x < M → Run T f_curvetref1_Cmp [num x, num 1] [] = some (.i (cmpI x 1), []) := fun x hx => r_refCmp (fitF (by omega)) (fitF (by omega))
  have ce : decide (cmpI 1 1 = 0) = true := by simp [cmpI]
  have cn : ∀ x, x ≠ 1 → decide (cmpI x 1 = 0) = false := fun x hx => decide_eq_false (by unfold cmpI; split <;> (try split) <;> omega)
  have qM : q < M := by omega
  have c2 := sh q qM
  have hhM : q / 2 < M := by omega
  have c3 := pw a (q / 2) (by omega) hhM
  rw [he] at c3
  have c4 := cm 1 (by omega)
  obtain ⟨w, hw⟩ : ∃ w, w = q / 2 ^ s := ⟨_, rfl⟩
  rw [← hw] at hs3
  have wM : w < p := by rw [hw]; exact Nat.lt_of_le_of_lt (Nat.div_le_self _ _) (by omega)
  have c5 := ad w (by omega)
  have c6 := sh (w + 1) (by omega)
  have p1 := pw z w (by omega) (by omega)
  have p2 := pw a ((w + 1) / 2) (by omega) (by omega)
  have p3 := pw a w (by omega) (by omega)
  have u0c : (u 0).c = z ^ w % p := by rw [hu0, hw, hq]; rfl
  have u0x : (u 0).x = a ^ ((w + 1) / 2) % p := by rw [hu0, hw, hq]; rfl
  have u0t : (u 0).t = a ^ w % p := by rw [hu0, hw, hq]; rfl
  have u0m : (u 0).m = s := by rw [hu0]; rfl
  rw [← u0c] at p1
  rw [← u0x] at p2
  rw [← u0t] at p3
  have bx := bt (u n).x (by omega)
  have sx := r_refSub (a := p) (b := (u n).x) fP (by omega)
  have fin : ∀ y, (if (u n).x % 2 = 1 then p - (u n).x else (u n).x) = y → Run T f_curvetref1_Sqrt [num a, num p] [] = some (.tup [num y, .b true], []) := by
    intro y hy
    rw [Run_at T _ (show T f_curvetref1_Sqrt = some m_curvetref1_Sqrt from rfl)]
    simp only [c_curvetref1_Sqrt]
    simp only [EE,EX,Nat.reduceLeDiff,Nat.reduceEqDiff,Int.reduceEq,reduceCtorEq,Nat.reduceAdd,Nat.reduceMul,if_true,if_false,decide_true,decide_false, kl, dl0, c1, c2, c3, c4, ce, n0, one_set, two_set, Bool.not_true, Bool.not_false]
    rw [loop_use T (fun i => ⟨[(0, num a), (1, num p), (6, num 1), (7, num (q / 2)), (8, num (q / 2 ^ i)), (9, .i (i : Int))], []⟩) s
      (.exit 0, ⟨[(0, num a), (1, num p), (6, num 1), (7, num (q / 2)), (8, num w), (9, .i (s : Int))], []⟩) ?h10 (by simp) ?h1s ?h1n]
    · simp only [EE,EX,Nat.reduceLeDiff,Nat.reduceEqDiff,Int.reduceEq,reduceCtorEq,Nat.reduceAdd,Nat.reduceMul,if_true,if_false,decide_true,decide_false, one_set, two_set]
      rw [loop_use T (fun i => ⟨[(0, num a), (1, num p), (6, num 1), (7, num (q / 2)), (8, num w), (9, .i (s : Int)), (10, num (2 + i))], []⟩) (z - 2)
        (.exit 2, ⟨[(0, num a), (1, num p), (6, num 1), (8, num w), (9, .i (s : Int)), (10, num z)], []⟩) ?h20 (by simp) ?h2s ?h2n]
      · simp only [EE,EX,Nat.reduceLeDiff,Nat.reduceEqDiff,Int.reduceEq,reduceCtorEq,Nat.reduceAdd,Nat.reduceMul,if_true,if_false,decide_true,decide_false, n0, c5, c6, p1, p2, p3]
        rw [loop_use T (fun i => ⟨[(1, num p), (6, num 1), (9, .i ((u i).m : Int)), (11, num (u i).c), (12, num (u i).x), (13, num (u i).t)], []⟩) n
          (.exit 4, ⟨[(1, num p), (12, num (u n).x)], []⟩) ?h30 (by simp) ?h3s ?h3n]
        · rcases Nat.mod_two_eq_zero_or_one (u n).x with hx2 | hx2
          · rw [hx2] at bx hy
            rw [if_neg (by omega)] at hy
            subst hy
            have d1 : decide (((0 : Nat) : Int) = 1) = false := rfl
            generalize (u n).x = x at *
            simp only [EE,EX,Nat.reduceLeDiff,Nat.reduceEqDiff,Int.reduceEq,reduceCtorEq,Nat.reduceAdd,Nat.reduceMul,if_true,if_false,decide_true,decide_false, n0, bx, d1]
          · rw [hx2] at bx hy
            rw [if_pos rfl] at hy
            rw [hy] at sx
            have d1 : decide (((1 : Nat) : Int) = 1) = true := rfl
            generalize (u n).x = x at *
            simp only [EE,EX,Nat.reduceLeDiff,Nat.reduceEqDiff,Int.reduceEq,reduceCtorEq,Nat.reduceAdd,Nat.reduceMul,if_true,if_false,decide_true,decide_false, n0, bx, d1, sx]
        · rw [u0m]
        · intro i hi
          obtain ⟨hO, hm⟩ := hok i (by omega)
          have ht := hn1 i hi
          obtain ⟨y1, y2, y3, y4⟩ := hO.lk hp ht
          have tM := hO.t
          have cM := hO.c
          have xM := hO.x
          have l1 := cm (u i).t (by omega)
          have l1d := cn (u i).t ht
          have e0 := hu1 i
          have em : (u (i + 1)).m = lk p (u i).m (u i).t := by rw [e0]; rfl
          obtain ⟨k, hk⟩ : ∃ k, k = lk p (u i).m (u i).t := ⟨_, rfl⟩
          rw [← hk] at em y1 y2 y3 y4
          obtain ⟨g, hg⟩ : ∃ g, g = (u i).m - k - 1 := ⟨_, rfl⟩
          obtain ⟨b, hb⟩ : ∃ b, b = (u i).c ^ 2 ^ g % p := ⟨_, rfl⟩
          have ec : (u (i + 1)).c = b * b % p := by rw [e0, hb, hg, hk]; rfl
          have ex : (u (i + 1)).x = (u i).x * b % p := by rw [e0, hb, hg, hk]; rfl
          have et : (u (i + 1)).t = (u i).t * (b * b % p) % p := by rw [e0, hb, hg, hk]; rfl
          rw [em, ec, ex, et]
          have bM : b < p := by rw [hb]; exact Nat.mod_lt _ (by omega)
          have bbM : b * b % p < p := Nat.mod_lt _ (by omega)
          clear e0 em ec ex et hk hO
          generalize (u i).m = um at *
          generalize (u i).c = uc at *
          generalize (u i).x = ux at *
          generalize (u i).t = ut at *
          simp only [EE,EX,Nat.reduceLeDiff,Nat.reduceEqDiff,Int.reduceEq,reduceCtorEq,Nat.reduceAdd,Nat.reduceMul,if_true,if_false,decide_true,decide_false, n0, l1, l1d, Bool.not_true, Bool.not_false]
          rw [loop_use T (fun j => ⟨[(1, num p), (6, num 1), (9, .i (um : Int)), (11, num uc), (12, num ux), (13, num ut), (14, .i (j : Int)), (15, num (ut ^ 2 ^ j % p))], []⟩) k
            (.exit 6, ⟨[(1, num p), (6, num 1), (9, .i (um : Int)), (11, num uc), (12, num ux), (13, num ut), (14, .i (k : Int))], []⟩) ?h40 (by simp) ?h4s ?h4n]
          · simp only [EE,EX,Nat.reduceLeDiff,Nat.reduceEqDiff,Int.reduceEq,reduceCtorEq,Nat.reduceAdd,Nat.reduceMul,if_true,if_false,decide_true,decide_false]
            rw [loop_use T (fun j => ⟨[(1, num p), (6, num 1), (9, .i (um : Int)), (12, num ux), (13, num ut), (14, .i (k : Int)), (16, num (uc ^ 2 ^ j % p)), (17, .i (j : Int))], []⟩) g
              (.exit 8, ⟨[(1, num p), (6, num 1), (12, num ux), (13, num ut), (14, .i (k : Int)), (16, num b)], []⟩) ?h50 (by simp) ?h5s ?h5n]
            · have m1 := mu ux b xM bM
              have m2 := mu b b bM bM
              have m3 := mu ut (b * b % p) tM bbM
              generalize b * b % p = bb at *
              simp only [EE,EX,Nat.reduceLeDiff,Nat.reduceEqDiff,Int.reduceEq,reduceCtorEq,Nat.reduceAdd,Nat.reduceMul,if_true,if_false,decide_true,decide_false, m1, m2, m3, n0]
            · rw [Nat.pow_zero, Nat.pow_one, Nat.mod_eq_of_lt cM]; rfl
            · intro j hj
              have m1 := mu (uc ^ 2 ^ j % p) (uc ^ 2 ^ j % p) (Nat.mod_lt _ (by omega)) (Nat.mod_lt _ (by omega))
              rw [pow2_sq] at m1
              have f1 : F (w64 ((um : Int) - (k : Int))) ((um - k : Nat) : Int) := ⟨by unfold w64; omega⟩
              have f2 : F (w64 (((um - k : Nat) : Int) - 1)) (g : Int) := ⟨by unfold w64; omega⟩
              have d1 : decide ((j : Int) < (g : Int)) = true := by simp; omega
              have f3 : F (w64 ((j : Int) + 1)) ((j + 1 : Nat) : Int) := ⟨by unfold w64; omega⟩
              generalize uc ^ 2 ^ j % p = r1 at *
              generalize uc ^ 2 ^ (j + 1) % p = r2 at *
              simp only [EE,EX,Nat.reduceLeDiff,Nat.reduceEqDiff,Int.reduceEq,reduceCtorEq,Nat.reduceAdd,Nat.reduceMul,if_true,if_false,decide_true,decide_false, m1, d1, f1.eq, f2.eq, f3.eq, n0]
            · have d1 : decide ((g : Int) < (g : Int)) = false := by simp
              have f1 : F (w64 ((um : Int) - (k : Int))) ((um - k : Nat) : Int) := ⟨by unfold w64; omega⟩
              have f2 : F (w64 (((um - k : Nat) : Int) - 1)) (g : Int) := ⟨by unfold w64; omega⟩
              rw [← hb]
              simp only [EE,EX,Nat.reduceLeDiff,Nat.reduceEqDiff,Int.reduceEq,reduceCtorEq,Nat.reduceAdd,Nat.reduceMul,if_true,if_false,decide_true,decide_false, f1.eq, f2.eq, d1]
          · rw [Nat.pow_zero, Nat.pow_one, Nat.mod_eq_of_lt tM]; rfl
          · intro j hj
            have m1 := mu (ut ^ 2 ^ j % p) (ut ^ 2 ^ j % p) (Nat.mod_lt _ (by omega)) (Nat.mod_lt _ (by omega))
            rw [pow2_sq] at m1
            have l2 := cm (ut ^ 2 ^ j % p) (Nat.lt_trans (Nat.mod_lt _ (by omega)) lt)
            have l2d := cn _ (y4 j hj)
            have f3 : F (w64 ((j : Int) + 1)) ((j + 1 : Nat) : Int) := ⟨by unfold w64; omega⟩
            generalize ut ^ 2 ^ j % p = r1 at *
            generalize ut ^ 2 ^ (j + 1) % p = r2 at *
            simp only [EE,EX,Nat.reduceLeDiff,Nat.reduceEqDiff,Int.reduceEq,reduceCtorEq,Nat.reduceAdd,Nat.reduceMul,if_true,if_false,decide_true,decide_false, m1, l2, l2d, f3.eq, n0, Bool.not_true, Bool.not_false]
          · rw [y3]
            simp only [EE,EX,Nat.reduceLeDiff,Nat.reduceEqDiff,Int.reduceEq,reduceCtorEq,Nat.reduceAdd,Nat.reduceMul,if_true,if_false,decide_true,decide_false, n0, c4, ce, Bool.not_true, Bool.not_false]
        · rw [hn]
          simp only [EE,EX,Nat.reduceLeDiff,Nat.reduceEqDiff,Int.reduceEq,reduceCtorEq,Nat.reduceAdd,Nat.reduceMul,if_true,if_false,decide_true,decide_false, n0, c4, ce, Bool.not_true, Bool.not_false]
      · rfl
      · intro i hi
        have l1 := pw (2 + i) (q / 2) (by omega) hhM
        rw [hz4 _ (by omega) (by omega)] at l1
        have l3 := ad (2 + i) (by omega)
        rw [show 2 + i + 1 = 2 + (i + 1) by omega] at l3
        generalize q / 2 = hh at *
        generalize 2 + i = v1 at *
        generalize 2 + (i + 1) = v2 at *
        simp only [EE,EX,Nat.reduceLeDiff,Nat.reduceEqDiff,Int.reduceEq,reduceCtorEq,Nat.reduceAdd,Nat.reduceMul,if_true,if_false,decide_true,decide_false, n0, l1, l3, c4, ce, Bool.not_true, Bool.not_false]
      · have l1 := pw z (q / 2) (by omega) hhM
        rw [hz3] at l1
        have l2 := cm q qM
        have l2d := cn q (by omega)
        rw [show 2 + (z - 2) = z by omega]
        generalize q / 2 = hh at *
        simp only [EE,EX,Nat.reduceLeDiff,Nat.reduceEqDiff,Int.reduceEq,reduceCtorEq,Nat.reduceAdd,Nat.reduceMul,if_true,if_false,decide_true,decide_false, n0, l1, l2, l2d, Bool.not_true, Bool.not_false]
    · rw [Nat.pow_zero, Nat.div_one]; rfl
    · intro i hi
      have hle : q / 2 ^ i < M := Nat.lt_of_le_of_lt (Nat.div_le_self _ _) qM
      have l1 := bt (q / 2 ^ i) hle
      rw [hs2 i hi] at l1
      have l2 := sh (q / 2 ^ i) hle
      rw [Nat.div_div_eq_div_mul, ← Nat.pow_succ] at l2
      have l3 : F (w64 ((i : Int) + 1)) ((i + 1 : Nat) : Int) := ⟨by unfold w64; omega⟩
      have l4 : decide (((0 : Nat) : Int) = 0) = true := rfl
      simp only [EE,EX,Nat.reduceLeDiff,Nat.reduceEqDiff,Int.reduceEq,reduceCtorEq,Nat.reduceAdd,Nat.reduceMul,if_true,if_false,decide_true,decide_false, n0, l1, l2, l3.eq, l4]
    · have l1 := bt w (by omega)
      rw [hs3] at l1
      have l4 : decide (((1 : Nat) : Int) = 0) = false := rfl
      rw [← hw]
      simp only [EE,EX,Nat.reduceLeDiff,Nat.reduceEqDiff,Int.reduceEq,reduceCtorEq,Nat.reduceAdd,Nat.reduceMul,if_true,if_false,decide_true,decide_false, n0, l1, l4]
  rcases Nat.mod_two_eq_zero_or_one (u n).x with hx2 | hx2
  · exact ⟨(u n).x, x1, hx2, x2, fin _ (by rw [if_neg (by omega)])⟩
  · exact ⟨p - (u n).x, by omega, by omega, by rw [root_flip x0 x1]; exact x2, fin _ (by rw [if_pos hx2])⟩
end

end Mir
