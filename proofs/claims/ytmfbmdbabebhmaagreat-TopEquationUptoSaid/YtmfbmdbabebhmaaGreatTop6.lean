/- The law TopEquation as the small language runs it: true of all arguments (of a message of bounded length). Conditions: none. -/
import Derived.Test.YtmfbmdbabebhmaaGreatAllK
set_option linter.unusedVariables false
set_option linter.unusedSectionVars false
set_option linter.unusedSimpArgs false
set_option exponentiation.threshold 5000
set_option maxRecDepth 20000
namespace Mir

theorem equ_d {N : Nat} (h1 : 211 ≤ N) (h2 : N ≤ 255) : F ((N + 2 ^ 64 - 1) % 2 ^ 64) (N - 1) := ⟨by omega⟩
theorem equ_1 {N y d : Nat} (h1 : 211 ≤ N) (h2 : N ≤ 255) (hd : d = 1 + y % (N - 1)) : F ((1 + y % (N - 1)) % 2 ^ 64) d := ⟨by
  have : y % (N - 1) < N - 1 := Nat.mod_lt _ (by omega)
  omega⟩

theorem law_TopEquation {z a b c : Int} {msg : List Nat} (hm : msg.length < 2000000) : Run T f_curvettop_TopEquation [.i z, .i a, .i b, .i c, .s msg] [] = some (.b true, []) := by
  rw [Run_at T _ (show T f_curvettop_TopEquation = some m_curvettop_TopEquation from rfl)]
  simp only [c_curvettop_TopEquation, zeroCv, zeroPt, zero9]
  have c0 := r_topAwake
  have n0 := r_Num 0
  have ww := which_w z
  have tk := which_tid z
  generalize 13 + (z % 2 ^ 64).toNat % 3 = k at *
  have hk := tk.cid
  have hN1 := crN_big hk
  have hN2 := tN tk
  haveI := pos_k hk
  have c1 := r_cGet hk
  have hNM := (cv_ok hk).N
  have v1 := equ_d hN1 hN2
  obtain ⟨d, hd⟩ : ∃ d, d = 1 + (a % 2 ^ 64).toNat % (crN k - 1) := ⟨_, rfl⟩
  obtain ⟨r, hr⟩ : ∃ d, d = 1 + (b % 2 ^ 64).toNat % (crN k - 1) := ⟨_, rfl⟩
  obtain ⟨s, hs⟩ : ∃ d, d = 1 + (c % 2 ^ 64).toNat % (crN k - 1) := ⟨_, rfl⟩
  have e1 := equ_1 hN1 hN2 hd
  have e2 := equ_1 hN1 hN2 hr
  have e3 := equ_1 hN1 hN2 hs
  have hdl : d < crN k := by have : (a % 2 ^ 64).toNat % (crN k - 1) < crN k - 1 := Nat.mod_lt _ (by omega)
                             omega
  have hrl : r < crN k := by have : (b % 2 ^ 64).toNat % (crN k - 1) < crN k - 1 := Nat.mod_lt _ (by omega)
                             omega
  have hsl : s < crN k := by have : (c % 2 ^ 64).toNat % (crN k - 1) < crN k - 1 := Nat.mod_lt _ (by omega)
                             omega
  have o1 := r_One (x := d) (Nat.lt_of_lt_of_le hdl (Nat.le_trans hN2 (by decide)))
  have o2 := r_One (x := r) (Nat.lt_of_lt_of_le hrl (Nat.le_trans hN2 (by decide)))
  have o3 := r_One (x := s) (Nat.lt_of_lt_of_le hsl (Nat.le_trans hN2 (by decide)))
  have m1 := n_baseMul hk hdl
  obtain ⟨e, he, ce, cd⟩ := r_ecDigest (m := msg) hk hm
  obtain ⟨w, hw, hw1, ci⟩ := r_Inverse (a := s) (Nat.lt_trans hsl hNM) hNM (by omega) (by omega) (tG tk (by omega) hsl)
  have q1 := r_MulMod (a := e) (b := w) (Nat.lt_trans he hNM) (Nat.lt_trans hw hNM) hNM (by omega)
  have q2 := r_MulMod (a := r) (b := w) (Nat.lt_trans hrl hNM) (Nat.lt_trans hw hNM) hNM (by omega)
  have q3 := n_dualMul hk (d := d) (u := e * w % crN k) (v := r * w % crN k) (Nat.mod_lt _ (by omega)) (Nat.mod_lt _ (by omega))
  have q4 := r_VerifyW tk (by omega) hrl (by omega) hsl (by omega) hdl he ce hw hw1
  have fs := fill_sig (r := r) (s := s) (Nat.lt_trans hrl hNM)
  have hgx := gq_x hk (e * w % crN k + r * w % crN k * d)
  rw [vfB] at q4
  have h0 : part (cvhL k) 28 none = some (.u 64 (crN k)) := by
    have := ch_n0 k (crP k) (crA k) (crB k) (crN k) (crX k) (crY k) (crBits k : Int) (crSize k : Int) (crLeg k)
    rw [low64 hN2] at this
    exact this
  have hn : part (cvhL k) 28 (some 9) = some (natv (crN k)) := ch_n ..
  have hl : (cvhL k).length = 59 := rfl
  have cok : ∀ o l, okc 59 (cvhL k) o l = decide (o + 59 ≤ l) := fun _ _ => rfl
  have csa : splice (cvH 0 0 0 0 0 0 0 0 0 false) 0 (cvhL k) = cvhL k := rfl
  have d3 : decide ((3 : Nat) = 0) = false := rfl
  have dn : decide (crN k < 3) = false := decide_eq_false (by omega)
  have dz : decide (crN k - 1 = 0) = false := decide_eq_false (by omega)
  have dz2 : decide (crN k = 0) = false := decide_eq_false (by omega)
  have x0 : ixOf 9 (.i 0) = some 0 := rfl
  have hrW := low64 (x := r) (by omega)
  have rp : part (us 64 (dl 64 9 r)) 0 none = some (.u 64 r) := by
    have := dl_part (x := r) (i := 0) (by omega)
    rw [hrW] at this
    exact this
  obtain ⟨Q, hQ⟩ : ∃ Q, Q = gq k (e * w % crN k + r * w % crN k * d) := ⟨_, rfl⟩
  obtain ⟨q, hq⟩ : ∃ q, q = gq k d := ⟨_, rfl⟩
  rw [← hQ] at q3 q4 hgx
  rw [← hq] at q3 q4 m1
  have hP := tP tk
  have px := pt_x0 Q.x Q.y Q.i
  rw [low64 (by omega)] at px
  have np := fun x y b => pt_np x y b 6
  clear hQ hq ce hw1
  simp only [pt, cvh] at *
  generalize crN k = N at *
  generalize e * w % N = u1 at *
  generalize r * w % N = u2 at *
  generalize cvhL k = L at *
  simp only [EE,EX,Nat.reduceLeDiff,Nat.reduceEqDiff,Int.reduceEq,reduceCtorEq,Nat.reduceAdd,Nat.reduceMul,if_true,if_false,decide_true,decide_false, c0, n0, ww.eq, c1, d3, hl, cok, csa, h0, hn, ch_len, dn, dz, dz2, v1.eq, e1.eq, e2.eq, e3.eq, o1, o2, o3, m1, cd, ci, q1, q2, q3, x0, rp, px, np, natv_noHp, pt_b, pt_len, pt_ok, pt_sa, pt_a]
  have be : ∀ x : Bool, eqV .bool (.b x) (.b x) = some true := fun x => by simp [eqV]
  have dzn : decide (Q.x % N = r) = decide (Q.x % N = r) := rfl
  generalize Q.i = bq at *
  cases bq
  · simp only [EE,EX,Nat.reduceLeDiff,Nat.reduceEqDiff,Int.reduceEq,reduceCtorEq,Nat.reduceAdd,Nat.reduceMul,if_true,if_false,decide_true,decide_false, n0, x0, rp, px, q4, fs, be, dz2, np, pt_len, pt_a, pt_ok, Bool.not_false]
  · simp only [EE,EX,Nat.reduceLeDiff,Nat.reduceEqDiff,Int.reduceEq,reduceCtorEq,Nat.reduceAdd,Nat.reduceMul,if_true,if_false,decide_true,decide_false, n0, x0, rp, px, q4, fs, be, dz2, np, pt_len, pt_a, pt_ok, Bool.not_true]

end Mir
