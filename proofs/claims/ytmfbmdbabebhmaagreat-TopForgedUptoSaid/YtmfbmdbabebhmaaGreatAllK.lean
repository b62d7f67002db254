/- One module of several texts (DuaA DuaB EcdA EcdB CntA TinA TinB). Conditions: none. -/
import Derived.Test.YtmfbmdbabebhmaaGreatAllT
import Derived.Test.YtmfbmdbabebhmaaGreatAllG
import Derived.Test.YtmfbmdbabebhmaaGreatAllH
import Derived.Test.YtmfbmdbabebhmaaGreatAllN
import Derived.KernelRfl
set_option linter.unusedVariables false
set_option linter.unusedSectionVars false
set_option linter.unusedSimpArgs false
set_option exponentiation.threshold 5000
set_option maxRecDepth 20000
namespace Mir

def allL (a b c d : P3) : List V := pjL a.x a.y a.z ++ (pjL b.x b.y b.z ++ (pjL c.x c.y c.z ++ pjL d.x d.y d.z))
theorem zeroAll : z108 = allL ⟨0, 0, 0⟩ ⟨0, 0, 0⟩ ⟨0, 0, 0⟩ ⟨0, 0, 0⟩ := rfl
section
variable (a b c d : P3) (x y z : Nat)
theorem al_len : (allL a b c d).length = 108 := rfl
theorem al_0 : splice (allL a b c d) 0 (pjL x y z) = allL ⟨x, y, z⟩ b c d := rfl
theorem al_1 : splice (allL a b c d) 27 (pjL x y z) = allL a ⟨x, y, z⟩ c d := rfl
theorem al_2 : splice (allL a b c d) 54 (pjL x y z) = allL a b ⟨x, y, z⟩ d := rfl
theorem al_3 : splice (allL a b c d) 81 (pjL x y z) = allL a b c ⟨x, y, z⟩ := rfl
theorem al_sa (a' b' c' d' : P3) : splice (allL a b c d) 0 (allL a' b' c' d') = allL a' b' c' d' := rfl
theorem al_ok (o l : Nat) : okc 108 (allL a b c d) o l = decide (o + 108 ≤ l) := rfl
theorem al_p1 : part (allL a b c d) 27 (some 27) = some (pj b) := rfl
theorem al_p2 : part (allL a b c d) 54 (some 27) = some (pj c) := rfl
theorem al_p3 : part (allL a b c d) 81 (some 27) = some (pj d) := rfl
end

/-- Both numbers walked together: after i of n bits. -/
def duN (S : P3 → P3 → P3) (f : Nat → P3) (u v n : Nat) : Nat → P3
  | 0 => .inf
  | i + 1 => let d := S (duN S f u v n i) (duN S f u v n i); bif Nat.beq (u / 2 ^ (n - 1 - i) % 2 + 2 * (v / 2 ^ (n - 1 - i) % 2)) 0 then d else S d (f (u / 2 ^ (n - 1 - i) % 2 + 2 * (v / 2 ^ (n - 1 - i) % 2)))
theorem duN_lt {k u v n : Nat} {f : Nat → P3} (h : Cid k) : ∀ i, Lt3 (crP k) (duN (sumK k) f u v n i)
  | 0 => lt_inf h
  | i + 1 => by
    simp only [duN]
    cases Nat.beq (u / 2 ^ (n - 1 - i) % 2 + 2 * (v / 2 ^ (n - 1 - i) % 2)) 0
    · exact sumK_lt h
    · exact sumK_lt h
/-- What is looked up. -/
def duF (k : Nat) (q : P2) : Nat → P3
  | 0 => .inf
  | 1 => (crG k).tri
  | 2 => q.tri
  | _ => sumK k (crG k).tri q.tri

theorem r_dualTimes {k u v : Nat} {q r : P2} (h : Cid k) (hu : u < M) (hv : v < M) (hq : OnP k q) (hg : OnP k (crG k)) (hb : crBits k ≤ 576)
    (hr : Rep k (duN (sumK k) (duF k q) u v (crBits k) (crBits k)) r) : Run T f_dual_Times [cv k, natv u, natv v, pt q] [] = some (pt r, []) := by
  rw [Run_at T _ (show T f_dual_Times = some m_dual_Times from rfl)]
  simp only [c_dual_Times, zeroPj, zeroPt, zeroAll]
  have c0 := r_None
  have c1 : Run T f_curve_Triple [ptv (crX k) (crY k) false] [] = some (pj (crG k).tri, []) := r_Triple (q := crG k)
  have c2 := r_Triple (q := q)
  have c3 := r_Sum h (hg.tri h) (hq.tri h)
  have c4 := r_Plain h hr
  obtain ⟨n, hn⟩ : ∃ n, n = crBits k := ⟨_, rfl⟩
  have cb : part (cvL k) 56 none = some (.i (n : Int)) := by rw [hn]; exact cv_bits ..
  have cg : part (cvL k) 37 (some 19) = some (ptv (crX k) (crY k) false) := cv_g ..
  rw [← hn] at hb hr c4
  obtain ⟨a, ha⟩ : ∃ a : Nat → Int, ∀ i, a i = (n : Int) - 1 - (i : Int) := ⟨_, fun _ => rfl⟩
  have a0 := ha 0
  have g1 : F (w64 ((n : Int) - 1)) (a 0) := ⟨by unfold w64; omega⟩
  obtain ⟨t, ht⟩ : ∃ t : Nat → P3, t = duN (sumK k) (duF k q) u v n := ⟨_, rfl⟩
  have tl : ∀ i, Lt3 (crP k) (t i) := fun i => ht ▸ duN_lt h i
  have t0 : t 0 = .inf := by rw [ht]; rfl
  have ts : ∀ i, t (i + 1) = bif Nat.beq (u / 2 ^ (n - 1 - i) % 2 + 2 * (v / 2 ^ (n - 1 - i) % 2)) 0 then sumK k (t i) (t i) else sumK k (sumK k (t i) (t i)) (duF k q (u / 2 ^ (n - 1 - i) % 2 + 2 * (v / 2 ^ (n - 1 - i) % 2))) := fun i => by rw [ht]; rfl
  rw [← ht] at c4
  have f1 : duF k q 1 = (crG k).tri := rfl
  have f2 : duF k q 2 = q.tri := rfl
  have f3 : duF k q 3 = sumK k (crG k).tri q.tri := rfl
  have fl : ∀ i, Lt3 (crP k) (duF k q i) := fun i => by
    match i with
    | 0 => exact lt_inf h
    | 1 => exact hg.tri h
    | 2 => exact hq.tri h
    | _ + 3 => exact sumK_lt h
  rw [← f1, ← f2] at c3
  rw [← f1] at c1
  rw [← f2] at c2
  rw [show sumK k (duF k q 1) (duF k q 2) = duF k q 3 from rfl] at c3
  generalize duF k q = f at *
  have sm : ∀ s t, Lt3 (crP k) s → Lt3 (crP k) t → Run T f_curve_Curve_Sum [cv k, pj s, pj t] [] = some (pj (sumK k s t), []) := fun s t hs ht => r_Sum h hs ht
  have nc := cv_npk k
  have sl := fun s t => sumK_lt (s := s) (t := t) h
  have np := fun x y b => pt_np x y b 6
  have nj := fun a b c => pj_np a b c 6
  generalize sumK k = S at *
  clear hr ht f1 f2 f3
  simp only [cv] at *
  generalize cvL k = L at *
  simp only [pj, pt] at *
  simp only [EE,EX,Nat.reduceLeDiff,Nat.reduceEqDiff,Int.reduceEq,reduceCtorEq,Nat.reduceAdd,Nat.reduceMul,if_true,if_false,decide_true,decide_false, c0, c1, c2, c3, cb, cg, g1.eq, nc, np, nj, natv_noHp, pj_len, pj_sa, pj_ok, pj_a, pt_a, pt_len, pt_ok, al_len, al_0, al_1, al_2, al_3, al_sa, al_ok]
  rw [loop_use T (fun i => ⟨[(0, .vr L 0), (5, .vr (us 64 (dl 64 9 u)) 0), (6, .vr (us 64 (dl 64 9 v)) 0), (8, .loc (ptL 0 0 false)), (11, .loc (allL .inf (f 1) (f 2) (f 3))), (12, .loc (pjL (t i).x (t i).y (t i).z)), (13, .i (a i))], []⟩) n
    (.exit 0, ⟨[(0, .vr L 0), (8, .loc (ptL 0 0 false)), (12, .loc (pjL (t n).x (t n).y (t n).z))], []⟩) ?h0 (by simp) ?hs ?hn]
  · simp only [EE,EX,Nat.reduceLeDiff,Nat.reduceEqDiff,Int.reduceEq,reduceCtorEq,Nat.reduceAdd,Nat.reduceMul,if_true,if_false,decide_true,decide_false, c4, nc, nj, pj_a, pj_len, pt_len, pt_ok, pt_sa, pt_a, pt_fz]
  · rw [t0]
  · intro i hi
    obtain ⟨m, hm⟩ : ∃ m, m = n - 1 - i := ⟨_, rfl⟩
    have hai : a i = (m : Int) := by rw [ha]; omega
    have hai1 : a (i + 1) = (m : Int) - 1 := by rw [ha]; omega
    have k1 : decide ((0 : Int) ≤ a i) = true := by rw [hai]; simp
    have k2 := r_natBit (x := u) (i := m) (by omega)
    have k6 := r_natBit (x := v) (i := m) (by omega)
    have k3 : F (w64 (a i - 1)) (a (i + 1)) := ⟨by rw [hai, hai1]; exact w64_of (by omega) (by omega)⟩
    have k4 := sm (t i) (t i) (tl i) (tl i)
    have us2 := ts i
    rw [← hm] at us2
    rw [← hai] at k2 k6
    obtain ⟨z, hz⟩ : ∃ z, z = u / 2 ^ m % 2 := ⟨_, rfl⟩
    have hz2 : z < 2 := by omega
    obtain ⟨y, hy⟩ : ∃ y, y = v / 2 ^ m % 2 := ⟨_, rfl⟩
    have hy2 : y < 2 := by omega
    rw [← hz] at k2
    rw [← hy] at k6
    rw [← hz, ← hy] at us2
    have k5 := fun j => sm (S (t i) (t i)) (f j) (sl _ _) (fl j)
    generalize S (t i) (t i) = d at *
    generalize a i = ai at *
    generalize a (i + 1) = aj at *
    generalize t i = ti at *
    have p1 := al_p1 .inf (f 1) (f 2) (f 3)
    have p2 := al_p2 .inf (f 1) (f 2) (f 3)
    have p3 := al_p3 .inf (f 1) (f 2) (f 3)
    have x1 : ixOf 4 (.i 1) = some 1 := rfl
    have x2 : ixOf 4 (.i 2) = some 2 := rfl
    have x3 : ixOf 4 (.i 3) = some 3 := rfl
    simp only [pj] at p1 p2 p3
    have w00 : w64 (((0 : Nat) : Int) + w64 (2 * ((0 : Nat) : Int))) = 0 := rfl
    have w10 : w64 (((1 : Nat) : Int) + w64 (2 * ((0 : Nat) : Int))) = 1 := rfl
    have w01 : w64 (((0 : Nat) : Int) + w64 (2 * ((1 : Nat) : Int))) = 2 := rfl
    have w11 : w64 (((1 : Nat) : Int) + w64 (2 * ((1 : Nat) : Int))) = 3 := rfl
    have d0 : decide ((0 : Int) < 0) = false := rfl
    have d1 : decide ((0 : Int) < 1) = true := rfl
    have d2 : decide ((0 : Int) < 2) = true := rfl
    have d3 : decide ((0 : Int) < 3) = true := rfl
    rcases (show z = 0 ∨ z = 1 by omega) with rfl | rfl <;> rcases (show y = 0 ∨ y = 1 by omega) with rfl | rfl
    · have us3 : t (i + 1) = d := us2
      rw [us3]
      simp only [EE,EX,Nat.reduceLeDiff,Nat.reduceEqDiff,Int.reduceEq,reduceCtorEq,Nat.reduceAdd,Nat.reduceMul,if_true,if_false,decide_true,decide_false, k1, k2, k6, k3.eq, k4, nc, nj, w00, d0, natv_noHp, pj_a, pj_len, pj_sa, pj_ok]
    · have us3 : t (i + 1) = S d (f 2) := us2
      rw [us3]
      have k7 := k5 2
      generalize S d (f 2) = e at *
      simp only [EE,EX,Nat.reduceLeDiff,Nat.reduceEqDiff,Int.reduceEq,reduceCtorEq,Nat.reduceAdd,Nat.reduceMul,if_true,if_false,decide_true,decide_false, k1, k2, k6, k3.eq, k4, k7, nc, nj, w01, d2, x2, p2, natv_noHp, pj_a, pj_len, pj_sa, pj_ok]
    · have us3 : t (i + 1) = S d (f 1) := us2
      rw [us3]
      have k7 := k5 1
      generalize S d (f 1) = e at *
      simp only [EE,EX,Nat.reduceLeDiff,Nat.reduceEqDiff,Int.reduceEq,reduceCtorEq,Nat.reduceAdd,Nat.reduceMul,if_true,if_false,decide_true,decide_false, k1, k2, k6, k3.eq, k4, k7, nc, nj, w10, d1, x1, p1, natv_noHp, pj_a, pj_len, pj_sa, pj_ok]
    · have us3 : t (i + 1) = S d (f 3) := us2
      rw [us3]
      have k7 := k5 3
      generalize S d (f 3) = e at *
      simp only [EE,EX,Nat.reduceLeDiff,Nat.reduceEqDiff,Int.reduceEq,reduceCtorEq,Nat.reduceAdd,Nat.reduceMul,if_true,if_false,decide_true,decide_false, k1, k2, k6, k3.eq, k4, k7, nc, nj, w11, d3, x3, p3, natv_noHp, pj_a, pj_len, pj_sa, pj_ok]
  · have k1 : decide ((0 : Int) ≤ a n) = false := decide_eq_false (by rw [ha]; omega)
    simp only [EE,EX,Nat.reduceLeDiff,Nat.reduceEqDiff,Int.reduceEq,reduceCtorEq,Nat.reduceAdd,Nat.reduceMul,if_true,if_false,decide_true,decide_false, k1]

end Mir

namespace Mir
section
variable {k : Nat} [NeZero (crP k)] (h : Cid k)
include h
theorem Rp.duF {d : Nat} : Rp k (duF k (gq k d) 1) 1 ∧ Rp k (Mir.duF k (gq k d) 2) d ∧ Rp k (Mir.duF k (gq k d) 3) (1 + d) := by
  have e1 : Rp k (crG k).tri 1 := by have := Rp.tri h 1; rwa [gq_1 h] at this
  exact ⟨e1, Rp.tri h d, e1.sum h (Rp.tri h d)⟩
theorem du_arith {a b q s d c e : Nat} (hq : q = 2 * a + c) (hs : s = 2 * b + e) : 2 * (a + b * d) + (c + e * d) = q + s * d := by
  subst hq; subst hs
  rw [Nat.add_mul, Nat.mul_add, Nat.mul_assoc]; omega
theorem Rp.du {u v n d : Nat} (hu : u < 2 ^ n) (hv : v < 2 ^ n) : ∀ i, i ≤ n → Rp k (duN (sumK k) (Mir.duF k (gq k d)) u v n i) (u / 2 ^ (n - i) + v / 2 ^ (n - i) * d)
  | 0, _ => (Rp.inf h).cast (by rw [Nat.sub_zero, Nat.div_eq_of_lt hu, Nat.div_eq_of_lt hv, Nat.zero_mul])
  | i + 1, hi => by
    have ih := Rp.du (d := d) hu hv i (by omega)
    obtain ⟨f1, f2, f3⟩ := Rp.duF h (d := d)
    have e1 : n - i = n - 1 - i + 1 := by omega
    have e2 : n - (i + 1) = n - 1 - i := by omega
    have e3 : u / 2 ^ (n - i) = u / 2 ^ (n - 1 - i) / 2 := by rw [e1, Nat.pow_succ, Nat.div_div_eq_div_mul]
    have e4 : v / 2 ^ (n - i) = v / 2 ^ (n - 1 - i) / 2 := by rw [e1, Nat.pow_succ, Nat.div_div_eq_div_mul]
    rw [e2]
    rw [e3, e4] at ih
    obtain ⟨q, hq⟩ : ∃ q, q = u / 2 ^ (n - 1 - i) := ⟨_, rfl⟩
    obtain ⟨s, hs⟩ : ∃ s, s = v / 2 ^ (n - 1 - i) := ⟨_, rfl⟩
    rw [← hq, ← hs] at ih ⊢
    have d2 := (ih.sum h ih).cast (n := 2 * (q / 2 + s / 2 * d)) (by omega)
    simp only [duN, ← hq, ← hs]
    obtain ⟨a, ha⟩ : ∃ a, a = q / 2 := ⟨_, rfl⟩
    obtain ⟨b, hb⟩ : ∃ b, b = s / 2 := ⟨_, rfl⟩
    rw [← ha, ← hb] at d2
    rcases (show q % 2 = 0 ∨ q % 2 = 1 by omega) with h1 | h1 <;> rcases (show s % 2 = 0 ∨ s % 2 = 1 by omega) with h2 | h2 <;> rw [h1, h2]
    · exact d2.cast (by have := du_arith h (d := d) (show q = 2 * a + 0 by omega) (show s = 2 * b + 0 by omega); omega)
    · exact (d2.sum h f2).cast (by have := du_arith h (d := d) (show q = 2 * a + 0 by omega) (show s = 2 * b + 1 by omega); omega)
    · exact (d2.sum h f1).cast (by have := du_arith h (d := d) (show q = 2 * a + 1 by omega) (show s = 2 * b + 0 by omega); omega)
    · exact (d2.sum h f3).cast (by have := du_arith h (d := d) (show q = 2 * a + 1 by omega) (show s = 2 * b + 1 by omega); omega)
theorem n_dualTimes {u v d : Nat} (hu : u < crN k) (hv : v < crN k) : Run T f_dual_Times [cv k, natv u, natv v, pt (gq k d)] [] = some (pt (gq k (u + v * d)), []) := by
  have c := cv_ok h
  have hN := c.N
  have b : crN k < 2 ^ crBits k := bl_le_iff.1 (Nat.le_refl _)
  have r := Rp.du h (d := d) (Nat.lt_trans hu b) (Nat.lt_trans hv b) (crBits k) (Nat.le_refl _)
  rw [Nat.sub_self, Nat.pow_zero, Nat.div_one, Nat.div_one] at r
  exact r_dualTimes h (Nat.lt_trans hu hN) (Nat.lt_trans hv hN) (gq_on h d) (gq_1 h ▸ gq_on h 1) (crBits_le h) (r.rep h)
end
end Mir

namespace Mir

theorem r_rest {k x : Nat} (h : Cid k) (hx : x < M) : Run T f_ecdsa_rest [cv k, natv x] [] = some (natv (x % crN k), []) := by
  rw [Run_at T _ (show T f_ecdsa_rest = some m_ecdsa_rest from rfl)]
  simp only [c_ecdsa_rest, zero9]
  have c := cv_ok h
  have c1 := r_Div hx c.N (by have := crN_big h; omega)
  have cn : part (cvL k) 28 (some 9) = some (natv (crN k)) := cv_n ..
  simp only [cv] at *
  generalize cvL k = L at *
  generalize crN k = n at *
  simp only [EE,EX,Nat.reduceLeDiff,Nat.reduceEqDiff,Int.reduceEq,reduceCtorEq,Nat.reduceAdd,Nat.reduceMul,if_true,if_false,decide_true,decide_false, cn, c1, natv_noHp]

theorem r_ecOf {k : Nat} (h : Cid k) (ho : crN k % 2 = 1) : Run T f_ecdsa_of [cv k] [] = some (.agg [cv k, mont (crN k)], []) := by
  rw [Run_at T _ (show T f_ecdsa_of = some m_ecdsa_of from rfl)]
  simp only [c_ecdsa_of]
  have c := cv_ok h
  have c1 := r_New c.N ho (by have := crN_big h; omega)
  have cn : part (cvL k) 28 (some 9) = some (natv (crN k)) := cv_n ..
  have nc := cv_npk k
  simp only [cv, mont] at *
  generalize cvL k = L at *
  generalize crN k = n at *
  generalize hL2 : monL n (nw n) (lessV n) (monR n % n * (monR n % n) % n) = L2 at *
  have nm : noHp 8 (.vr L2 0) = true := hL2 ▸ mont_noHp _ 6
  have f1 : ∀ m, fzV false [] 0 (m + 1) (.vr L 0) = some (.vr L 0) := fun m => by simp only [fzV, nc, if_true]
  have f2 : ∀ m, fzV false [] 0 (m + 1) (.vr L2 0) = some (.vr L2 0) := fun m => by simp only [fzV, nm, if_true]
  have p0 : ∀ a b : V, part [a, b] 0 (some 2) = some (.agg [a, b]) := fun _ _ => rfl
  have s0 : ∀ a b c d : V, splice [a, b] 0 [c, d] = [c, d] := fun _ _ _ _ => rfl
  have o0 : ∀ l l' : List V, okc 2 [.vr l 0, .vr l' 0] 0 2 = true := fun _ _ => rfl
  have f0 : fzV false [] 0 6 (.agg [.vr L 0, .vr L2 0]) = some (.agg [.vr L 0, .vr L2 0]) := by
    show (mapO (fzV false [] 0 5) [.vr L 0, .vr L2 0]).map V.agg = _
    simp only [mapO, f1, f2]
    rfl
  simp only [EE,EX,Nat.reduceLeDiff,Nat.reduceEqDiff,Int.reduceEq,reduceCtorEq,Nat.reduceAdd,Nat.reduceMul,if_true,if_false,decide_true,decide_false, cn, c1, natv_noHp, List.set_cons_zero, List.set_cons_succ, List.length_cons, List.length_nil, Nat.reduceAdd, Nat.reduceLeDiff, p0, s0, o0, f0]

/-- Numbers modulo the order. -/
abbrev scv (k : Nat) : V := .agg [cv k, mont (crN k)]

theorem inv_of {n s i R I : Nat} (hi : i * (s * R % n) % n = 1) (hI : I * R % n = 1) : i * R * R % n * I % n * s % n = 1 := by
  have e1 : i * R * R % n * I % n * s % n = i * R * R * I * s % n := by
    rw [Nat.mod_mul_mod, Nat.mul_assoc (i * R * R % n), Nat.mod_mul_mod, ← Nat.mul_assoc]
  have e2 : i * R * R * I * s = i * (s * R) * (I * R) := by grind
  rw [e1, e2, Nat.mul_mod, hI, Nat.mul_one, Nat.mod_mod]
  rw [Nat.mul_mod_mod] at hi
  exact hi

theorem r_ecInv {k s : Nat} (h : Cid k) (ho : crN k % 2 = 1) (hs : s < crN k) (hg : Nat.gcd (crN k) s = 1) : ∃ w, w < crN k ∧ w * s % crN k = 1 ∧ Run T f_ecdsa_scalars_inv [scv k, natv s] [] = some (natv w, []) := by
  have c := cv_ok h
  have hN := c.N
  have h3 : 3 ≤ crN k := by have := crN_big h; omega
  have c1 := r_To hN ho h3 hs
  obtain ⟨i1, i2⟩ := monI_ok ho h3
  have hR : Nat.gcd (crN k) (monR (crN k)) = 1 := by
    have hd : Nat.gcd (crN k) (monR (crN k)) ∣ 1 := by
      have h1 := Nat.gcd_dvd_left (crN k) (monR (crN k))
      have h2 := Nat.gcd_dvd_right (crN k) (monR (crN k))
      have h3 : Nat.gcd (crN k) (monR (crN k)) ∣ monI (crN k) * monR (crN k) % crN k := (Nat.dvd_mod_iff h1).2 (Nat.dvd_mul_left_of_dvd h2 _)
      rwa [i2] at h3
    exact Nat.eq_one_of_dvd_one hd
  have hg2 : Nat.gcd (crN k) (s * monR (crN k) % crN k) = 1 := by
    have hc : Nat.Coprime (crN k) (s * monR (crN k)) := Nat.Coprime.mul_right hg hR
    rw [Nat.gcd_comm, ← Nat.gcd_rec]
    exact hc
  obtain ⟨i, hi1, hi2, c2⟩ := r_MInv (a := s * monR (crN k) % crN k) hN ho h3 (Nat.mod_lt _ (by omega)) hg2
  have c3 := r_MFrom (a := i * monR (crN k) * monR (crN k) % crN k) hN ho h3 (Nat.mod_lt _ (by omega))
  refine ⟨_, Nat.mod_lt _ (by omega), inv_of hi2 i2, ?_⟩
  rw [Run_at T _ (show T f_ecdsa_scalars_inv = some m_ecdsa_scalars_inv from rfl)]
  simp only [c_ecdsa_scalars_inv, zero9]
  have nm : noHp 8 (mont (crN k)) = true := mont_noHp _ 6
  have nc := cv_npk k
  simp only [scv, cv, mont] at *
  generalize i * monR (crN k) * monR (crN k) % crN k = z1 at *
  generalize s * monR (crN k) % crN k = z2 at *
  generalize cvL k = L at *
  generalize z1 * monI (crN k) % crN k = z3 at *
  generalize monL (crN k) (nw (crN k)) (lessV (crN k)) (monR (crN k) % crN k * (monR (crN k) % crN k) % crN k) = L2 at *
  have p0 : ∀ a b : V, part [a, b] 1 none = some b := fun _ _ => rfl
  simp only [EE,EX,Nat.reduceLeDiff,Nat.reduceEqDiff,Int.reduceEq,reduceCtorEq,Nat.reduceAdd,Nat.reduceMul,if_true,if_false,decide_true,decide_false, c1, c2, c3, nm, nc, p0, natv_noHp]

theorem r_ecMul {k a b : Nat} (h : Cid k) (ho : crN k % 2 = 1) (ha : a < crN k) (hb : b < crN k) : Run T f_ecdsa_scalars_mul [scv k, natv a, natv b] [] = some (natv (a * b % crN k), []) := by
  have c := cv_ok h
  have hN := c.N
  have h3 : 3 ≤ crN k := by have := crN_big h; omega
  have c1 := r_To hN ho h3 ha
  have c2 := r_MMul (a := a * monR (crN k) % crN k) hN ho h3 (Nat.mod_lt _ (by omega)) hb
  obtain ⟨i1, i2⟩ := monI_ok ho h3
  have e : a * monR (crN k) % crN k * b * monI (crN k) % crN k = a * b % crN k := by
    rw [Nat.mul_assoc, Nat.mod_mul_mod]
    have : a * monR (crN k) * (b * monI (crN k)) = a * b * (monI (crN k) * monR (crN k)) := by grind
    rw [this, Nat.mul_mod, i2, Nat.mul_one, Nat.mod_mod]
  rw [e] at c2
  rw [Run_at T _ (show T f_ecdsa_scalars_mul = some m_ecdsa_scalars_mul from rfl)]
  simp only [c_ecdsa_scalars_mul, zero9]
  have nm : noHp 8 (mont (crN k)) = true := mont_noHp _ 6
  have nc := cv_npk k
  simp only [scv, cv, mont] at *
  generalize a * b % crN k = z1 at *
  generalize a * monR (crN k) % crN k = z2 at *
  generalize cvL k = L at *
  generalize monL (crN k) (nw (crN k)) (lessV (crN k)) (monR (crN k) % crN k * (monR (crN k) % crN k) % crN k) = L2 at *
  have p0 : ∀ a b : V, part [a, b] 1 none = some b := fun _ _ => rfl
  simp only [EE,EX,Nat.reduceLeDiff,Nat.reduceEqDiff,Int.reduceEq,reduceCtorEq,Nat.reduceAdd,Nat.reduceMul,if_true,if_false,decide_true,decide_false, c1, c2, nm, nc, p0, natv_noHp]

theorem r_ecDigest {k : Nat} {m : List Nat} (h : Cid k) (hm : m.length < 2000000) : ∃ e, e < crN k ∧ Run T f_ecdsa_digest [cv k, .i 2, .s m] [] = some (natv e, []) ∧ Run T f_ecdsa_Digest [.i (k : Int), .i 2, .s m] [] = some (.tup [natv e, .i 0], []) := by
  obtain ⟨d, hd, hdb, c1⟩ := r_hashOf hm
  have hst : d = tb 32 (fun j => d.getD j 0) := tb_of hd
  have hf : ∀ j, j < 32 → d.getD j 0 < 256 := fun j hj => by
    have e : d.getD j 0 = d[j] := by simp [List.getD, hd, hj]
    rw [e]; exact hdb _ (List.getElem_mem _)
  have c2 := r_natOf (n := 32) (f := fun j => d.getD j 0) (by omega) hf
  have hx := vb_lt hf 32 (Nat.le_refl _)
  rw [← hst] at c2
  obtain ⟨x, hxx⟩ : ∃ x, x = vb 32 (fun j => d.getD j 0) 32 := ⟨_, rfl⟩
  rw [← hxx] at c2 hx
  have hxM : x < M := Nat.lt_trans hx (by unfold M; exact Nat.pow_lt_pow_right (by omega) (by omega))
  have hb := crBits_le h
  obtain ⟨q, hq⟩ : ∃ q, q = 256 - crBits k := ⟨_, rfl⟩
  have c3 := r_natShr hxM (k := q) (by omega)
  have c4 := r_rest h (x := x / 2 ^ q) (Nat.lt_of_le_of_lt (Nat.div_le_self _ _) hxM)
  have hN : 0 < crN k := by have := crN_big h; omega
  have cb : part (cvL k) 56 none = some (.i ((crBits k : Nat) : Int)) := cv_bits ..
  have nc := cv_npk k
  have key : Run T f_ecdsa_digest [cv k, .i 2, .s m] [] = some (natv (x / 2 ^ q % crN k), []) := by
    rw [Run_at T _ (show T f_ecdsa_digest = some m_ecdsa_digest from rfl)]
    simp only [c_ecdsa_digest, zero9]
    have d1 : decide (d.length < 9223372036854775808) = true := decide_eq_true (by omega)
    have w1 : F (w64 (8 * ((d.length : Nat) : Int))) 256 := ⟨by rw [hd]; rfl⟩
    have w2 : F (if (0 : Int) < w64 (256 - ((crBits k : Nat) : Int)) then w64 (256 - ((crBits k : Nat) : Int)) else 0) (q : Int) := ⟨by
      rw [w64_of (by omega) (by omega)]
      split <;> omega⟩
    simp only [cv] at *
    generalize cvL k = L at *
    generalize crBits k = B at *
    generalize x / 2 ^ q % crN k = z1 at *
    generalize x / 2 ^ q = z2 at *
    simp only [EE,EX,Nat.reduceLeDiff,Nat.reduceEqDiff,Int.reduceEq,reduceCtorEq,Nat.reduceAdd,Nat.reduceMul,if_true,if_false,decide_true,decide_false, c1, c2, c3, c4, d1, w1.eq, w2.eq, cb, nc, natv_noHp]
  refine ⟨_, Nat.mod_lt _ hN, key, ?_⟩
  have c0 := r_Open h
  have c5 := r_hashSize
  have nq := r_Open_np (l := cvL k) (o := 0)
  rw [Run_at T _ (show T f_ecdsa_Digest = some m_ecdsa_Digest from rfl)]
  simp only [c_ecdsa_Digest, zero9]
  have z3 : decide ((32 : Int) = 0) = false := rfl
  simp only [cv] at *
  generalize cvL k = L at *
  generalize x / 2 ^ q % crN k = z1 at *
  simp only [EE,EX,Nat.reduceLeDiff,Nat.reduceEqDiff,Int.reduceEq,reduceCtorEq,Nat.reduceAdd,Nat.reduceMul,if_true,if_false,decide_true,decide_false, c0, c5, key, nq, nc, z3, natv_noHp]

end Mir

namespace Mir
section
variable {k : Nat} [NeZero (crP k)] (h : Cid k)
include h
/-- What verifying tells. -/
noncomputable def vfB (k : Nat) [NeZero (crP k)] (m r : Nat) : Bool := !(gq k m).i && decide ((gq k m).x % crN k = r)

theorem r_Verify {r s d e : Nat} {msg : List Nat} (ho : crN k % 2 = 1) (hr0 : r ≠ 0) (hr : r < crN k) (hs0 : s ≠ 0) (hs : s < crN k) (hg : Nat.gcd (crN k) s = 1) (hd : (gq k d).i = false)
    (he : e < crN k) (ce : Run T f_ecdsa_digest [cv k, .i 2, .s msg] [] = some (natv e, [])) :
    ∃ w, w < crN k ∧ w * s % crN k = 1 ∧ Run T f_ecdsa_Verify [.i (k : Int), .i 2, pt (gq k d), .s msg, widev (r + M * s)] [] = some (.b (vfB k (e * w % crN k + r * w % crN k * d) r), []) := by
  have c := cv_ok h
  have hN := c.N
  have h3 : 3 ≤ crN k := by have := crN_big h; omega
  obtain ⟨w, hw, hw1, c5⟩ := r_ecInv h ho hs hg
  refine ⟨w, hw, hw1, ?_⟩
  have c0 := r_Open h
  have c1 := r_hashSize
  have c2 := r_On h (gq_on h d)
  have c3 := r_Key h hr0 hr
  have c3' := r_Key h hs0 hs
  have c4 := r_ecOf h ho
  have c6 := r_ecMul h ho he hw
  have c7 := r_ecMul h ho hr hw
  have c8 := n_dualTimes h (d := d) (u := e * w % crN k) (v := r * w % crN k) (Nat.mod_lt _ (by omega)) (Nat.mod_lt _ (by omega))
  obtain ⟨Q, hQ⟩ : ∃ Q, Q = gq k (e * w % crN k + r * w % crN k * d) := ⟨_, rfl⟩
  have hQx : Q.x < crP k := by rw [hQ]; exact gq_x h _
  have c9 := r_rest h (x := Q.x) (Nat.lt_trans hQx c.lt)
  have lo := sig_lo (r + M * s)
  have hi := sig_hi (z := r + M * s)
  rw [Nat.add_mul_mod_self_left, Nat.mod_eq_of_lt (Nat.lt_trans hr hN)] at lo
  rw [Nat.add_mul_div_left _ _ (by unfold M; omega), Nat.div_eq_of_lt (Nat.lt_trans hr hN), Nat.zero_add] at hi
  have q9 := eq9 (x := Q.x % crN k) (y := r) (Nat.lt_trans (Nat.mod_lt _ (by omega)) hN) (Nat.lt_trans hr hN)
  rw [vfB, ← hQ]
  rw [← hQ] at c8
  rw [Run_at T _ (show T f_ecdsa_Verify = some m_ecdsa_Verify from rfl)]
  simp only [c_ecdsa_Verify, zero9, zeroPt]
  have nm : noHp 8 (mont (crN k)) = true := mont_noHp _ 6
  have nc := cv_npk k
  have nq := r_Open_np (l := cvL k) (o := 0)
  have np := fun x y b => pt_np x y b 6
  have z3 : decide ((32 : Int) = 0) = false := rfl
  obtain ⟨q, hq⟩ : ∃ q, q = gq k d := ⟨_, rfl⟩
  rw [← hq] at c2 c8 hd ⊢
  clear hq hQ
  have nsv : noHp 8 (scv k) = true := by
    show ((noHp 7 (cv k)) && (noHp 7 (mont (crN k)) && true)) = true
    rw [show noHp 7 (mont (crN k)) = true from mont_noHp _ 5, show noHp 7 (cv k) = true from cv_np _ _ _ _ _ _ _ _ _ _ _ _ 5 (fld_noHp _ 3)]
    rfl
  simp only [scv, cv, mont, pt, widev] at *
  generalize decide (Q.x % crN k = r) = bq at *
  generalize Q.x % crN k = z6 at *
  generalize e * w % crN k = z4 at *
  generalize r * w % crN k = z5 at *
  generalize r + M * s = W at *
  generalize cvL k = L at *
  generalize monL (crN k) (nw (crN k)) (lessV (crN k)) (monR (crN k) % crN k * (monR (crN k) % crN k) % crN k) = L2 at *
  have p0 : ∀ a b : V, part [a, b] 0 (some 2) = some (.agg [a, b]) := fun _ _ => rfl
  have s0 : ∀ a b c d : V, splice [a, b] 0 [c, d] = [c, d] := fun _ _ _ _ => rfl
  have o0 : ∀ l l' : List V, okc 2 [.vr l 0, .vr l' 0] 0 2 = true := fun _ _ => rfl
  rw [hd] at *
  simp only [EE,EX,Nat.reduceLeDiff,Nat.reduceEqDiff,Int.reduceEq,reduceCtorEq,Nat.reduceAdd,Nat.reduceMul,if_true,if_false,decide_true,decide_false, c0, c1, c2, c3, c3', c4, c5, c6, c7, c8, c9, ce, nm, nc, nq, np, nsv, z3, p0, s0, o0, lo, hi, pt_b, pt_x, pt_a, pt_len, pt_ok, pt_sa, natv_noHp, List.length_cons, List.length_nil, Nat.reduceAdd]
  generalize Q.i = b at *
  cases b
  · simp only [EE,EX,Nat.reduceLeDiff,Nat.reduceEqDiff,Int.reduceEq,reduceCtorEq,Nat.reduceAdd,Nat.reduceMul,if_true,if_false,decide_true,decide_false, c9, nc, lo, hi, q9, pt_x, pt_ok, pt_len, natv_noHp, Bool.not_false]
  · simp only [EE,EX,Nat.reduceLeDiff,Nat.reduceEqDiff,Int.reduceEq,reduceCtorEq,Nat.reduceAdd,Nat.reduceMul,if_true,if_false,decide_true,decide_false, c9, nc, lo, hi, q9, pt_x, pt_ok, pt_len, natv_noHp, Bool.not_true]
end
end Mir

namespace Mir

def cu (f : Nat → Nat) : Nat → Nat
  | 0 => 0
  | n + 1 => cu f n + f n
theorem cu_congr {f g : Nat → Nat} : ∀ n, (∀ i, i < n → f i = g i) → cu f n = cu g n
  | 0, _ => rfl
  | n + 1, h => by rw [cu, cu, cu_congr n fun i hi => h i (by omega), h n (by omega)]
theorem cu_zero (n : Nat) : cu (fun _ => 0) n = 0 := by
  induction n with
  | zero => rfl
  | succ n ih => rw [cu, ih]
theorem cu_add (f g : Nat → Nat) : ∀ n, cu (fun i => f i + g i) n = cu f n + cu g n
  | 0 => rfl
  | n + 1 => by simp only [cu, cu_add f g n]; omega
theorem cu_swap (g : Nat → Nat → Nat) (m : Nat) : ∀ n, cu (fun i => cu (fun j => g i j) m) n = cu (fun j => cu (fun i => g i j) n) m
  | 0 => by simp only [cu]; exact (cu_zero m).symm
  | n + 1 => by simp only [cu]; rw [cu_add, cu_swap g m n]
theorem cu_one {F : Nat → Nat} {j : Nat} : ∀ n, cu (fun i => if i = j then F i else 0) n = if j < n then F j else 0
  | 0 => rfl
  | n + 1 => by
    rw [cu, cu_one n]
    by_cases h : n = j
    · subst h; rw [if_neg (by omega), if_pos rfl, if_pos (by omega), Nat.zero_add]
    · rw [if_neg h, Nat.add_zero]
      by_cases h2 : j < n
      · rw [if_pos h2, if_pos (by omega)]
      · rw [if_neg h2, if_neg (by omega)]
/-- An involution counts alike. -/
theorem cu_inv {F : Nat → Nat} {f : Nat → Nat} {n : Nat} (h1 : ∀ i, i < n → f i < n) (h2 : ∀ i, i < n → f (f i) = i) : cu (fun i => F (f i)) n = cu F n := by
  have e1 : cu (fun i => F (f i)) n = cu (fun i => cu (fun j => if j = f i then F j else 0) n) n := cu_congr n fun i hi => by
    rw [cu_one n, if_pos (h1 i hi)]
  rw [e1, cu_swap]
  refine cu_congr n fun j hj => ?_
  have e2 : cu (fun i => if j = f i then F j else 0) n = cu (fun i => if i = f j then F j else 0) n := cu_congr n fun i hi => by
    by_cases h : j = f i
    · rw [if_pos h, if_pos (by rw [h, h2 i hi])]
    · rw [if_neg h, if_neg (fun e => h (by rw [e, h2 j hj]))]
  rw [e2]
  exact (cu_one (F := fun _ => F j) n).trans (if_pos (h1 j hj))
theorem cu_split (F : Nat → Nat) (a : Nat) : ∀ b, cu F (a + b) = cu F a + cu (fun i => F (a + i)) b
  | 0 => rfl
  | b + 1 => by rw [← Nat.add_assoc, cu, cu_split F a b, cu]; omega
theorem cu_rev (F : Nat → Nat) (n : Nat) : cu (fun i => F (n - 1 - i)) n = cu F n :=
  cu_inv (F := F) (f := fun i => n - 1 - i) (fun i hi => by omega) (fun i hi => by omega)
/-- A mirror counts even. -/
theorem cu_even {F : Nat → Nat} {h : Nat} (hm : ∀ i, i < 2 * h → F (2 * h - 1 - i) = F i) : cu F (2 * h) % 2 = 0 := by
  have e : cu F (2 * h) = cu F h + cu (fun i => F (h + i)) h := by rw [← cu_split]; congr 1; omega
  have e2 : cu (fun i => F (h + i)) h = cu F h := by
    rw [← cu_rev F h]
    refine cu_congr h fun i hi => ?_
    rw [← hm (h + i) (by omega)]
    congr 1; omega
  rw [e, e2]; omega

theorem mulN {a b c n : Nat} (h : b % n = c % n) : a * b % n = a * c % n := by rw [Nat.mul_mod, h, ← Nat.mul_mod]
theorem tn_inv {n s a b : Nat} (ha : a < n) (hb : b < n) (h1 : a * s % n = 1) (h2 : b * s % n = 1) : a = b := by
  have e1 : a * (b * s) % n = a := by rw [Nat.mul_mod, h2, Nat.mul_one, Nat.mod_mod, Nat.mod_eq_of_lt ha]
  have e2 : b * (a * s) % n = b := by rw [Nat.mul_mod, h1, Nat.mul_one, Nat.mod_mod, Nat.mod_eq_of_lt hb]
  rw [← e1, ← e2]
  congr 1; grind
/-- t over s, and t over that. -/
theorem quo_inv {n s t w u : Nat} (hs : s < n) (hw : w * s % n = 1) (hu : u * (t * w % n) % n = 1) : t * u % n = s := by
  have e1 : s * (u * (t * w)) % n = s := by
    rw [Nat.mul_mod_mod] at hu
    rw [Nat.mul_mod, hu, Nat.mul_one, Nat.mod_mod, Nat.mod_eq_of_lt hs]
  have e2 : s * (u * (t * w)) = t * u * (w * s) := by grind
  rw [e2, Nat.mul_mod, hw, Nat.mul_one, Nat.mod_mod] at e1
  exact e1
theorem ver_mod {e r d w n : Nat} : (e * w % n + r * w % n * d) % n = (e + r * d) % n * w % n := by
  have e1 : (e * w % n + r * w % n * d) % n = (e * w + r * w * d) % n := by
    rw [Nat.mod_add_mod, Nat.add_mod, Nat.mod_mul_mod, ← Nat.add_mod]
  rw [e1, Nat.mod_mul_mod]
  congr 1; grind
end Mir

namespace Mir

/-- A triple's multiples, one after another. -/
def runN (S : P3 → P3 → P3) (t : P3) : Nat → P3 → List P3
  | 0, _ => []
  | n + 1, s => s :: runN S t n (S s t)
theorem runN_get (S : P3 → P3 → P3) (t : P3) : ∀ n j i, i < n → (runN S t n (atN S t j))[i]? = some (atN S t (j + i))
  | 0, j, i, h => absurd h (by omega)
  | n + 1, j, 0, h => rfl
  | n + 1, j, i + 1, h => by
    have := runN_get S t n (j + 1) i (by omega)
    rw [show j + (i + 1) = j + 1 + i by omega, ← this]
    rfl
theorem runN_len (S : P3 → P3 → P3) (t : P3) : ∀ n s, (runN S t n s).length = n
  | 0, s => rfl
  | n + 1, s => by rw [runN, List.length_cons, runN_len S t n]

def symB (p : Nat) (l : List P3) : Bool := (l.zip l.reverse).all fun q => Nat.beq (q.1.x * q.2.z % p) (q.2.x * q.1.z % p)
def tinyB (k : Nat) : Bool := Nat.ble (crN k) 255 && Nat.ble (crP k) 255 && Nat.beq (crN k % 2) 1 && ((List.range (crN k)).all fun i => Nat.beq i 0 || Nat.beq (Nat.gcd (crN k) i) 1) &&
  symB (crP k) (runN (sumK k) (crG k).tri (crN k - 1) (sumK k .inf (crG k).tri))
theorem tiny_13 : tinyB 13 = true := by kernel_rfl
theorem tiny_14 : tinyB 14 = true := by kernel_rfl
theorem tiny_15 : tinyB 15 = true := by kernel_rfl

/-- A tiny curve's number. -/
def Tid (k : Nat) : Prop := k = 13 ∨ k = 14 ∨ k = 15
theorem Tid.cid {k : Nat} (t : Tid k) : Cid k := cid_of (by rcases t with h | h | h <;> omega) (by rcases t with h | h | h <;> omega)
theorem tiny_ok {k : Nat} (t : Tid k) : tinyB k = true := by
  rcases t with h | h | h <;> subst h
  · exact tiny_13
  · exact tiny_14
  · exact tiny_15

section
variable {k : Nat} (t : Tid k)
include t
theorem tN : crN k ≤ 255 := by
  have := tiny_ok t
  simp only [tinyB, Bool.and_eq_true, Nat.ble_eq] at this
  exact this.1.1.1.1
theorem tP : crP k ≤ 255 := by
  have := tiny_ok t
  simp only [tinyB, Bool.and_eq_true, Nat.ble_eq] at this
  exact this.1.1.1.2
theorem tO : crN k % 2 = 1 := by
  have := tiny_ok t
  simp only [tinyB, Bool.and_eq_true, Nat.beq_eq] at this
  exact this.1.1.2
theorem tG {i : Nat} (h1 : 1 ≤ i) (h2 : i < crN k) : Nat.gcd (crN k) i = 1 := by
  have := tiny_ok t
  simp only [tinyB, Bool.and_eq_true, Nat.beq_eq, List.all_eq_true, Bool.or_eq_true] at this
  exact (this.1.2 i (List.mem_range.2 h2)).resolve_left (by omega)
theorem tS {i : Nat} (h1 : 1 ≤ i) (h2 : i < crN k) : (atN (sumK k) (crG k).tri i).x * (atN (sumK k) (crG k).tri (crN k - i)).z % crP k = (atN (sumK k) (crG k).tri (crN k - i)).x * (atN (sumK k) (crG k).tri i).z % crP k := by
  have hb := tiny_ok t
  simp only [tinyB, Bool.and_eq_true] at hb
  have hs := hb.2
  obtain ⟨n, hn⟩ : ∃ n, n = crN k - 1 := ⟨_, rfl⟩
  rw [← hn] at hs
  have g := fun j (hj : j < n) => runN_get (sumK k) (crG k).tri n 1 j hj
  have hl := runN_len (sumK k) (crG k).tri n (sumK k .inf (crG k).tri)
  obtain ⟨l, hll⟩ : ∃ l, l = runN (sumK k) (crG k).tri n (sumK k .inf (crG k).tri) := ⟨_, rfl⟩
  have g' : ∀ j, j < n → l[j]? = some (atN (sumK k) (crG k).tri (1 + j)) := fun j hj => by rw [hll]; exact g j hj
  rw [← hll] at hs hl
  have r : l.reverse[i - 1]? = some (atN (sumK k) (crG k).tri (crN k - i)) := by
    rw [List.getElem?_reverse (by omega), hl, g' _ (by omega)]
    congr 2; omega
  have z : (l.zip l.reverse)[i - 1]? = some (atN (sumK k) (crG k).tri i, atN (sumK k) (crG k).tri (crN k - i)) := by
    rw [List.getElem?_zip_eq_some]
    refine ⟨?_, r⟩
    rw [g' _ (by omega)]
    congr 2; omega
  have := List.all_eq_true.1 hs _ (List.mem_of_getElem? z)
  exact Nat.eq_of_beq_eq_true this
variable [NeZero (crP k)]
theorem tI {i : Nat} (h1 : 1 ≤ i) (h2 : i < crN k) : (gq k i).i = false := gq_ne t.cid (by omega) (tG t h1 h2)
theorem x_eq {p x1 z1 X1 x2 z2 X2 : Nat} (h1 : x1 < p) (h2 : x2 < p) (g1 : Nat.gcd p z1 = 1) (g2 : Nat.gcd p z2 = 1) (hp : 1 < p) (e1 : x1 * z1 % p = X1) (e2 : x2 * z2 % p = X2) (e : X1 * z2 % p = X2 * z1 % p) : x1 = x2 := by
  obtain ⟨i1, _, j1⟩ := has_inv hp g1
  obtain ⟨i2, _, j2⟩ := has_inv hp g2
  rw [← e1, ← e2, Nat.mod_mul_mod, Nat.mod_mul_mod] at e
  have f1 : x1 * ((i1 * z1) * (i2 * z2)) % p = x1 := by
    rw [Nat.mul_mod, Nat.mul_mod (i1 * z1), j1, j2, Nat.mul_one, Nat.mod_eq_of_lt hp, Nat.mul_one, Nat.mod_mod, Nat.mod_eq_of_lt h1]
  have f2 : x2 * ((i1 * z1) * (i2 * z2)) % p = x2 := by
    rw [Nat.mul_mod, Nat.mul_mod (i1 * z1), j1, j2, Nat.mul_one, Nat.mod_eq_of_lt hp, Nat.mul_one, Nat.mod_mod, Nat.mod_eq_of_lt h2]
  rw [← f1, ← f2]
  have k1 : x1 * ((i1 * z1) * (i2 * z2)) = i1 * i2 * (x1 * z1 * z2) := by grind
  have k2 : x2 * ((i1 * z1) * (i2 * z2)) = i1 * i2 * (x2 * z2 * z1) := by grind
  rw [k1, k2]
  exact mulN e
theorem tX {i : Nat} (h1 : 1 ≤ i) (h2 : i < crN k) : (gq k (crN k - i)).x = (gq k i).x := by
  have h := t.cid
  have c := cv_ok h
  have r1 := ((Rp.tri h 1).mul h i).rep h
  have r2 := ((Rp.tri h 1).mul h (crN k - i)).rep h
  rw [gq_1 h, Nat.mul_one] at r1 r2
  have i1 := tI t h1 h2
  have i2 := tI t (i := crN k - i) (by omega) (by omega)
  obtain ⟨_, z1, e1, _⟩ := r1.e.resolve_left (fun e => by rw [i1] at e; simp at e)
  obtain ⟨_, z2, e2, _⟩ := r2.e.resolve_left (fun e => by rw [i2] at e; simp at e)
  exact x_eq t r2.x r1.x (c.pr.gcd (c.pr.mod_ne (Nat.pos_of_ne_zero z2) r2.lt.z)) (c.pr.gcd (c.pr.mod_ne (Nat.pos_of_ne_zero z1) r1.lt.z)) (by have := c.big; omega) e2 e1 (tS t h1 h2).symm
end
end Mir

namespace Mir

theorem ch_n0 (i : Int) (p a b n x y : Nat) (bits size : Int) (leg : Bool) : part (cvH i p a b n x y bits size leg) 28 none = some (.u 64 (n / 2 ^ (64 * 0) % 2 ^ 64)) := rfl
theorem pt_x0 (x y : Nat) (b : Bool) : part (ptL x y b) 0 none = some (.u 64 (x / 2 ^ (64 * 0) % 2 ^ 64)) := rfl
theorem low64 {x : Nat} (h : x ≤ 255) : x / 2 ^ (64 * 0) % 2 ^ 64 = x := by
  rw [Nat.mul_zero, Nat.pow_zero, Nat.div_one, Nat.mod_eq_of_lt]
  exact Nat.lt_of_le_of_lt h (by decide)
theorem which_w (z : Int) : F (w64 ((13 : Int) + w64 (((z % 2 ^ 64).toNat % 3 : Nat) : Int))) ((13 + (z % 2 ^ 64).toNat % 3 : Nat) : Int) := ⟨by
  have : (z % 2 ^ 64).toNat % 3 < 3 := Nat.mod_lt _ (by decide)
  generalize (z % 2 ^ 64).toNat % 3 = q at *
  rw [w64_of (z := (q : Int)) (by omega) (by omega), w64_of (by omega) (by omega)]; omega⟩
theorem which_tid (z : Int) : Tid (13 + (z % 2 ^ 64).toNat % 3) := by
  unfold Tid; omega
theorem fill_sig {r s : Nat} (hr : r < M) : fill z18 [(0, 9, natv r), (9, 9, natv s)] = some (us 64 (dl 64 18 (r + M * s))) := by
  have e1 : fill z18 [(0, 9, natv r), (9, 9, natv s)] = some (splice (splice (us 64 (dl 64 18 0)) 0 (us 64 (dl 64 9 r))) 9 (us 64 (dl 64 9 s))) := by
    rw [zero18]
    have o1 : okc 9 (us 64 (dl 64 9 r)) 0 (us 64 (dl 64 18 0)).length = true := rfl
    have o2 : okc 9 (us 64 (dl 64 9 s)) 9 (us 64 (dl 64 18 r)).length = true := rfl
    rw [G6, show cells (natv r) = us 64 (dl 64 9 r) from rfl, o1, G7, G6, show cells (natv r) = us 64 (dl 64 9 r) from rfl, show cells (natv s) = us 64 (dl 64 9 s) from rfl, sig_put1 hr, o2, G7, G5]
    rfl
  rw [e1, sig_put1 hr, sig_put2 hr]

section
variable {k : Nat} (t : Tid k) [NeZero (crP k)]
include t
theorem r_VerifyW {r s d e w : Nat} {msg : List Nat} (hr0 : r ≠ 0) (hr : r < crN k) (hs0 : s ≠ 0) (hs : s < crN k) (hd0 : 1 ≤ d) (hd : d < crN k)
    (he : e < crN k) (ce : Run T f_ecdsa_digest [cv k, .i 2, .s msg] [] = some (natv e, [])) (hw : w < crN k) (hw1 : w * s % crN k = 1) :
    Run T f_ecdsa_Verify [.i (k : Int), .i 2, pt (gq k d), .s msg, widev (r + M * s)] [] = some (.b (vfB k (e * w % crN k + r * w % crN k * d) r), []) := by
  obtain ⟨w', h1, h2, h3⟩ := r_Verify t.cid (tO t) hr0 hr hs0 hs (tG t (by omega) hs) (tI t hd0 hd) he ce
  rw [tn_inv h1 hw h2 hw1] at h3
  exact h3
end
end Mir

