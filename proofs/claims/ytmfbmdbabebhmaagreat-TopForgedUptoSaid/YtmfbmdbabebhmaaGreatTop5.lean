/- The law TopForged as the small language runs it: true of all arguments (of a message of bounded length). Conditions: none. -/
import Derived.Test.YtmfbmdbabebhmaaGreatAllK
set_option linter.unusedVariables false
set_option linter.unusedSectionVars false
set_option linter.unusedSimpArgs false
set_option exponentiation.threshold 5000
set_option maxRecDepth 20000
namespace Mir

theorem cu_ci {f : Nat → Nat} {n : Nat} (h : ∀ i, i < n → f i = 0) : cu f n = 0 := (cu_congr n h).trans (cu_zero n)
theorem cu_le {f : Nat → Nat} (h : ∀ i, f i ≤ 1) : ∀ n, cu f n ≤ n
  | 0 => Nat.le_refl _
  | n + 1 => by have := cu_le h n; have := h n; rw [cu]; omega

section
variable {k : Nat} (t : Tid k) [NeZero (crP k)]
include t
/-- An inverse modulo the order. -/
noncomputable def invW (k s : Nat) : Nat := if h : ∃ w, w < crN k ∧ w * s % crN k = 1 then h.choose else 0
theorem invW_ok {s : Nat} (h1 : 1 ≤ s) (h2 : s < crN k) : invW k s < crN k ∧ invW k s * s % crN k = 1 := by
  have hN := crN_big t.cid
  have h : ∃ w, w < crN k ∧ w * s % crN k = 1 := has_inv (by omega) (tG t h1 h2)
  unfold invW
  rw [dif_pos h]
  exact h.choose_spec
theorem vfB_mod (m r : Nat) : vfB k m r = vfB k (m % crN k) r := by
  unfold vfB
  rw [gq_mod t.cid]
theorem vfB_0 (r : Nat) : vfB k 0 r = false := by
  have h : (gq k 0).i = true := by
    unfold gq
    rw [if_pos (show (mlt k 0).z = 0 from rfl)]; rfl
  unfold vfB
  rw [h]; rfl
def b1 (b : Bool) : Nat := bif b then 1 else 0
/-- How many S are taken; how many points have that X. -/
noncomputable def manyN (k : Nat) [NeZero (crP k)] (e r d : Nat) : Nat → Nat := cu fun i => b1 (vfB k (e * invW k (i + 1) % crN k + r * invW k (i + 1) % crN k * d) r)
noncomputable def ptsN (k : Nat) [NeZero (crP k)] (r : Nat) : Nat → Nat := cu fun i => b1 (decide ((gq k (i + 1)).x % crN k = r))

theorem many_pts (e r d : Nat) : manyN k e r d (crN k - 1) = 0 ∨ manyN k e r d (crN k - 1) = ptsN k r (crN k - 1) := by
  have hN := crN_big t.cid
  obtain ⟨u, hu⟩ : ∃ u, u = (e + r * d) % crN k := ⟨_, rfl⟩
  have hul : u < crN k := by rw [hu]; exact Nat.mod_lt _ (by omega)
  have e1 : manyN k e r d (crN k - 1) = cu (fun i => b1 (vfB k (u * invW k (i + 1) % crN k) r)) (crN k - 1) := by
    unfold manyN
    refine cu_congr _ fun i hi => ?_
    rw [vfB_mod t, ver_mod, ← hu]
  rw [e1]
  by_cases h0 : u = 0
  · left
    refine cu_ci fun i hi => ?_
    rw [h0, Nat.zero_mul, Nat.zero_mod, vfB_0 t]; rfl
  · right
    have f1 : ∀ i, i < crN k - 1 → 1 ≤ u * invW k (i + 1) % crN k ∧ u * invW k (i + 1) % crN k < crN k := fun i hi => by
      refine ⟨?_, Nat.mod_lt _ (by omega)⟩
      obtain ⟨w1, w2⟩ := invW_ok t (s := i + 1) (by omega) (by omega)
      rcases Nat.eq_zero_or_pos (u * invW k (i + 1) % crN k) with hz | hz
      · exfalso
        have : u * invW k (i + 1) * (i + 1) % crN k = u := by
          rw [Nat.mul_assoc, Nat.mul_mod, w2, Nat.mul_one, Nat.mod_mod, Nat.mod_eq_of_lt hul]
        rw [Nat.mul_mod, hz, Nat.zero_mul, Nat.zero_mod] at this
        omega
      · exact hz
    have f2 : ∀ i, i < crN k - 1 → u * invW k (u * invW k (i + 1) % crN k) % crN k = i + 1 := fun i hi => by
      obtain ⟨w1, w2⟩ := invW_ok t (s := i + 1) (by omega) (by omega)
      obtain ⟨g1, g2⟩ := f1 i hi
      obtain ⟨w3, w4⟩ := invW_ok t g1 g2
      exact quo_inv (by omega) w2 w4
    have e2 : cu (fun i => b1 (vfB k (u * invW k (i + 1) % crN k) r)) (crN k - 1) = cu (fun i => (fun j => b1 (vfB k (j + 1) r)) (u * invW k (i + 1) % crN k - 1)) (crN k - 1) := by
      refine cu_congr _ fun i hi => ?_
      have := (f1 i hi).1
      show _ = b1 (vfB k (u * invW k (i + 1) % crN k - 1 + 1) r)
      rw [Nat.sub_add_cancel this]
    rw [e2, cu_inv (F := fun j => b1 (vfB k (j + 1) r)) (f := fun i => u * invW k (i + 1) % crN k - 1) (fun i hi => by have := f1 i hi; omega) (fun i hi => by
      have := f1 i hi
      show u * invW k (u * invW k (i + 1) % crN k - 1 + 1) % crN k - 1 = i
      rw [Nat.sub_add_cancel this.1, f2 i hi]; omega)]
    unfold ptsN
    refine cu_congr _ fun i hi => ?_
    unfold vfB
    rw [tI t (by omega) (by omega)]; rfl

theorem pts_even (r : Nat) : ptsN k r (crN k - 1) % 2 = 0 := by
  have hN := crN_big t.cid
  have ho := tO t
  obtain ⟨h, hh⟩ : ∃ h, crN k - 1 = 2 * h := ⟨(crN k - 1) / 2, by omega⟩
  rw [hh]
  refine cu_even fun i hi => ?_
  have := tX t (i := i + 1) (by omega) (by omega)
  show b1 (decide ((gq k (2 * h - 1 - i + 1)).x % crN k = r)) = b1 (decide ((gq k (i + 1)).x % crN k = r))
  rw [show 2 * h - 1 - i + 1 = crN k - (i + 1) by omega, this]
end

theorem for_N {N : Nat} (h : N ≤ 255) : F (w64 (N : Int)) (N : Int) := ⟨w64_of (by omega) (by omega)⟩
theorem for_N1 {N : Nat} (h1 : 211 ≤ N) (h : N ≤ 255) : F ((w64 ((N : Int) - 1) % 2 ^ 64).toNat) (N - 1) := ⟨by rw [w64_of (by omega) (by omega)]; omega⟩
theorem for_u {N : Nat} (h : N ≤ 255) : F (((N : Int) % 2 ^ 64).toNat) N := ⟨by omega⟩
theorem for_d {N y d : Nat} (h1 : 211 ≤ N) (h : N ≤ 255) (hd : d = 1 + y % (N - 1)) : F ((w64 ((1 : Int) + w64 ((y % (N - 1) : Nat) : Int)) % 2 ^ 64).toNat) d := ⟨by
  have : y % (N - 1) < N - 1 := Nat.mod_lt _ (by omega)
  generalize y % (N - 1) = q at *
  rw [w64_of (z := (q : Int)) (by omega) (by omega), w64_of (by omega) (by omega)]; omega⟩
theorem for_i {i : Nat} (h : i < 255) : F (((((i + 1 : Nat) : Int)) % 2 ^ 64).toNat) (i + 1) := ⟨by omega⟩
theorem b1_le (b : Bool) : b1 b ≤ 1 := by cases b <;> decide

theorem law_TopForged {z a b : Int} {msg : List Nat} (hm : msg.length < 2000000) : Run T f_curvettop_TopForged [.i z, .i a, .s msg, .i b] [] = some (.b true, []) := by
  rw [Run_at T _ (show T f_curvettop_TopForged = some m_curvettop_TopForged from rfl)]
  simp only [c_curvettop_TopForged, zeroCv, zeroPt, zero9]
  have c0 := r_topAwake
  have n0 := r_Num 0
  have ww := which_w z
  have tk := which_tid z
  generalize 13 + (z % 2 ^ 64).toNat % 3 = k at *
  have hk := tk.cid
  have hN1 := crN_big hk
  have hN2 := tN tk
  haveI := pos_k hk
  have c1 := r_cGet hk
  have hNM := (cv_ok hk).N
  obtain ⟨d, hd⟩ : ∃ d, d = 1 + (a % 2 ^ 64).toNat % (crN k - 1) := ⟨_, rfl⟩
  obtain ⟨r, hr⟩ : ∃ d, d = 1 + (b % 2 ^ 64).toNat % (crN k - 1) := ⟨_, rfl⟩
  have v1 := for_N hN2
  have v2 := for_N1 hN1 hN2
  have v3 := for_u hN2
  have e1 := for_d hN1 hN2 hd
  have e2 := for_d hN1 hN2 hr
  have hdl : d < crN k := by have : (a % 2 ^ 64).toNat % (crN k - 1) < crN k - 1 := Nat.mod_lt _ (by omega)
                             omega
  have hrl : r < crN k := by have : (b % 2 ^ 64).toNat % (crN k - 1) < crN k - 1 := Nat.mod_lt _ (by omega)
                             omega
  have o1 := r_One (x := d) (Nat.lt_of_lt_of_le hdl (Nat.le_trans hN2 (by decide)))
  have o2 := r_One (x := r) (Nat.lt_of_lt_of_le hrl (Nat.le_trans hN2 (by decide)))
  have m1 := n_baseMul hk hdl
  obtain ⟨e, he, ce, cd⟩ := r_ecDigest (m := msg) hk hm
  have h0 : part (cvhL k) 28 none = some (.u 64 (crN k)) := by
    have := ch_n0 k (crP k) (crA k) (crB k) (crN k) (crX k) (crY k) (crBits k : Int) (crSize k : Int) (crLeg k)
    rw [low64 hN2] at this
    exact this
  have hl : (cvhL k).length = 59 := rfl
  have cok : ∀ o l, okc 59 (cvhL k) o l = decide (o + 59 ≤ l) := fun _ _ => rfl
  have csa : splice (cvH 0 0 0 0 0 0 0 0 0 false) 0 (cvhL k) = cvhL k := rfl
  have d3 : decide ((3 : Nat) = 0) = false := rfl
  have dn : decide (crN k < 3) = false := decide_eq_false (by omega)
  have dg : decide (255 < crN k) = false := decide_eq_false (by omega)
  have dz : decide (crN k - 1 = 0) = false := decide_eq_false (by omega)
  have dz2 : decide (crN k = 0) = false := decide_eq_false (by omega)
  have x0 : ixOf 9 (.i 0) = some 0 := rfl
  have hrW := low64 (x := r) (by omega)
  have rp : part (us 64 (dl 64 9 r)) 0 none = some (.u 64 r) := by
    have := dl_part (x := r) (i := 0) (by omega)
    rw [hrW] at this
    exact this
  have np := fun x y b => pt_np x y b 6
  have nv := widev_noHp
  obtain ⟨mn, hmn⟩ : ∃ f, f = manyN k e r d := ⟨_, rfl⟩
  obtain ⟨pn, hpn⟩ : ∃ f, f = ptsN k r := ⟨_, rfl⟩
  have mn0 : mn 0 = 0 := by rw [hmn]; rfl
  have pn0 : pn 0 = 0 := by rw [hpn]; rfl
  have mns : ∀ i, mn (i + 1) = mn i + b1 (vfB k (e * invW k (i + 1) % crN k + r * invW k (i + 1) % crN k * d) r) := fun i => by rw [hmn]; rfl
  have pns : ∀ i, pn (i + 1) = pn i + b1 (decide ((gq k (i + 1)).x % crN k = r)) := fun i => by rw [hpn]; rfl
  have mnl : ∀ i, mn i ≤ i := fun i => by rw [hmn]; exact cu_le (fun i => b1_le _) i
  have pnl : ∀ i, pn i ≤ i := fun i => by rw [hpn]; exact cu_le (fun i => b1_le _) i
  have fin1 := many_pts tk e r d
  have fin2 := pts_even tk r
  rw [← hmn, ← hpn] at fin1
  rw [← hpn] at fin2
  have vf : ∀ i, i < crN k - 1 → Run T f_ecdsa_Verify [.i (k : Int), .i 2, pt (gq k d), .s msg, widev (r + M * (i + 1))] [] = some (.b (vfB k (e * invW k (i + 1) % crN k + r * invW k (i + 1) % crN k * d) r), []) := fun i hi => by
    obtain ⟨w1, w2⟩ := invW_ok tk (s := i + 1) (by omega) (by omega)
    exact r_VerifyW tk (by omega) hrl (by omega) (by omega) (by omega) hdl he ce w1 w2
  have bm : ∀ i, i < crN k - 1 → Run T f_base_Mul [.nilp, .i (k : Int), natv (i + 1)] [] = some (.tup [pt (gq k (i + 1)), .i 0], []) := fun i hi => n_baseMul hk (by omega)
  have fs := fun s => fill_sig (r := r) (s := s) (Nat.lt_trans hrl hNM)
  have hP := tP tk
  have gx := fun m => gq_x hk m
  obtain ⟨q, hq⟩ : ∃ q, q = gq k d := ⟨_, rfl⟩
  rw [← hq] at m1
  have vf' := vf
  rw [← hq] at vf'
  clear hmn hpn ce cd vf
  simp only [pt, cvh] at *
  generalize crN k = N at *
  generalize cvhL k = L at *
  simp only [EE,EX,Nat.reduceLeDiff,Nat.reduceEqDiff,Int.reduceEq,reduceCtorEq,Nat.reduceAdd,Nat.reduceMul,if_true,if_false,decide_true,decide_false, c0, n0, ww.eq, c1, d3, hl, cok, csa, h0, ch_len, dn, dg, dz, v1.eq, v2.eq, e1.eq, e2.eq, o1, o2, m1, x0, rp, np, natv_noHp, pt_b, pt_len, pt_ok, pt_sa, pt_a]
  obtain ⟨n, hn⟩ : ∃ n, n = N - 1 := ⟨_, rfl⟩
  have hnN : N = n + 1 := by omega
  rw [← hn] at vf' bm fin1 fin2
  have hn254 : n ≤ 254 := by omega
  rw [loop_use T (fun i => ⟨[(2, .s msg), (9, .i (k : Int)), (12, .i (N : Int)), (13, .loc (ptL q.x q.y q.i)), (14, .i 0), (15, .loc (us 64 (dl 64 9 r))), (16, .i ((mn i : Nat) : Int)), (17, .i ((i + 1 : Nat) : Int))], []⟩) n
    (.exit 0, ⟨[(9, .i (k : Int)), (12, .i (N : Int)), (14, .i 0), (15, .loc (us 64 (dl 64 9 r))), (16, .i ((mn n : Nat) : Int))], []⟩) ?h0 (by simp) ?hs ?hn]
  case h0 => rw [mn0]; rfl
  case hs =>
    intro i hi
    have k1 : decide (((i + 1 : Nat) : Int) < (N : Int)) = true := decide_eq_true (by omega)
    have k2 : F (w64 (((i + 1 : Nat) : Int) + 1)) ((i + 1 + 1 : Nat) : Int) := ⟨by rw [w64_of (by omega) (by omega)]; omega⟩
    have k3 := for_i (i := i) (by omega)
    have k4 := r_One (x := i + 1) (Nat.lt_of_lt_of_le (show i + 1 < 256 by omega) (by decide))
    have k5 := vf' i hi
    have k6 := mns i
    have k7 := mnl i
    have k8 : F (w64 (((mn i : Nat) : Int) + 1)) ((mn i + 1 : Nat) : Int) := ⟨by rw [w64_of (by omega) (by omega)]; omega⟩
    have k9 := fs (i + 1)
    clear mns pns mn0 pn0 mnl pnl vf' bm fs fin1 fin2
    generalize vfB k (e * invW k (i + 1) % N + r * invW k (i + 1) % N * d) r = vb at *
    generalize mn (i + 1) = m' at *
    generalize mn i = m at *
    simp only [widev] at k5
    generalize r + M * (i + 1) = W at *
    cases vb
    · rw [show m' = m from k6]
      simp only [EE,EX,Nat.reduceLeDiff,Nat.reduceEqDiff,Int.reduceEq,reduceCtorEq,Nat.reduceAdd,Nat.reduceMul,if_true,if_false,decide_true,decide_false, k1, k2.eq, k3.eq, k4, k5, k9, np, natv_noHp, pt_a, us_noHp]
    · rw [show m' = m + 1 from k6]
      simp only [EE,EX,Nat.reduceLeDiff,Nat.reduceEqDiff,Int.reduceEq,reduceCtorEq,Nat.reduceAdd,Nat.reduceMul,if_true,if_false,decide_true,decide_false, k1, k2.eq, k3.eq, k4, k5, k8.eq, k9, np, natv_noHp, pt_a]
  case hn =>
    have k1 : decide (((n + 1 : Nat) : Int) < (N : Int)) = false := decide_eq_false (by omega)
    simp only [EE,EX,Nat.reduceLeDiff,Nat.reduceEqDiff,Int.reduceEq,reduceCtorEq,Nat.reduceAdd,Nat.reduceMul,if_true,if_false,decide_true,decide_false, k1]
  simp only [EE,EX,Nat.reduceLeDiff,Nat.reduceEqDiff,Int.reduceEq,reduceCtorEq,Nat.reduceAdd,Nat.reduceMul,if_true,if_false,decide_true,decide_false]
  rw [loop_use T (fun i => ⟨[(9, .i (k : Int)), (12, .i (N : Int)), (14, .i 0), (15, .loc (us 64 (dl 64 9 r))), (16, .i ((mn n : Nat) : Int)), (18, .i ((pn i : Nat) : Int)), (19, .i ((i + 1 : Nat) : Int))], []⟩) n
    (.exit 2, ⟨[(14, .i 0), (16, .i ((mn n : Nat) : Int)), (18, .i ((pn n : Nat) : Int))], []⟩) ?i0 (by simp) ?is ?iu]
  case i0 => rw [pn0]; rfl
  case is =>
    intro i hi
    have k1 : decide (((i + 1 : Nat) : Int) < (N : Int)) = true := decide_eq_true (by omega)
    have k2 : F (w64 (((i + 1 : Nat) : Int) + 1)) ((i + 1 + 1 : Nat) : Int) := ⟨by rw [w64_of (by omega) (by omega)]; omega⟩
    have k3 := for_i (i := i) (by omega)
    have k4 := r_One (x := i + 1) (Nat.lt_of_lt_of_le (show i + 1 < 256 by omega) (by decide))
    have k5 := bm i hi
    have k6 := pns i
    have k7 := pnl i
    have k8 : F (w64 (((pn i : Nat) : Int) + 1)) ((pn i + 1 : Nat) : Int) := ⟨by rw [w64_of (by omega) (by omega)]; omega⟩
    have k10 := gx (i + 1)
    clear mns pns mn0 pn0 mnl pnl vf' bm fs fin1 fin2
    generalize gq k (i + 1) = Q at *
    generalize pn (i + 1) = m' at *
    generalize pn i = m at *
    have px := pt_x0 Q.x Q.y Q.i
    rw [low64 (by omega)] at px
    obtain ⟨vb, hvb⟩ : ∃ vb, vb = decide (Q.x % N = r) := ⟨_, rfl⟩
    rw [← hvb] at k6
    cases vb
    · rw [show m' = m from k6]
      simp only [EE,EX,Nat.reduceLeDiff,Nat.reduceEqDiff,Int.reduceEq,reduceCtorEq,Nat.reduceAdd,Nat.reduceMul,if_true,if_false,decide_true,decide_false, k1, k2.eq, k3.eq, k4, k5, n0, x0, rp, px, v3.eq, dz2, ← hvb, np, natv_noHp, pt_a, pt_b, pt_len, pt_ok, pt_sa]
    · rw [show m' = m + 1 from k6]
      simp only [EE,EX,Nat.reduceLeDiff,Nat.reduceEqDiff,Int.reduceEq,reduceCtorEq,Nat.reduceAdd,Nat.reduceMul,if_true,if_false,decide_true,decide_false, k1, k2.eq, k3.eq, k4, k5, k8.eq, n0, x0, rp, px, v3.eq, dz2, ← hvb, np, natv_noHp, pt_a, pt_b, pt_len, pt_ok, pt_sa]
  case iu =>
    have k1 : decide (((n + 1 : Nat) : Int) < (N : Int)) = false := decide_eq_false (by omega)
    simp only [EE,EX,Nat.reduceLeDiff,Nat.reduceEqDiff,Int.reduceEq,reduceCtorEq,Nat.reduceAdd,Nat.reduceMul,if_true,if_false,decide_true,decide_false, k1]
  have k7 := pnl n
  have g2 : F (Int.tmod ((pn n : Nat) : Int) 2) 0 := ⟨by rw [Int.tmod_eq_emod_of_nonneg (by omega)]; omega⟩
  have d0 : decide ((0 : Int) = 0) = true := rfl
  have dd : decide ((2 : Int) = 0) = false := rfl
  generalize pn n = p at *
  generalize mn n = m at *
  clear mns pns mn0 pn0 mnl pnl vf' bm fs
  rcases fin1 with h | h
  · have q2 : decide (((m : Nat) : Int) = 0) = true := decide_eq_true (by omega)
    by_cases hmp : m = p
    · have q1 : decide (((m : Nat) : Int) = ((p : Nat) : Int)) = true := decide_eq_true (by omega)
      simp only [EE,EX,Nat.reduceLeDiff,Nat.reduceEqDiff,Int.reduceEq,reduceCtorEq,Nat.reduceAdd,Nat.reduceMul,if_true,if_false,decide_true,decide_false, n0, q1, q2, g2.eq, dd, d0]
    · have q1 : decide (((m : Nat) : Int) = ((p : Nat) : Int)) = false := decide_eq_false (by omega)
      simp only [EE,EX,Nat.reduceLeDiff,Nat.reduceEqDiff,Int.reduceEq,reduceCtorEq,Nat.reduceAdd,Nat.reduceMul,if_true,if_false,decide_true,decide_false, n0, q1, q2, g2.eq, dd, d0]
  · have q1 : decide (((m : Nat) : Int) = ((p : Nat) : Int)) = true := decide_eq_true (by omega)
    simp only [EE,EX,Nat.reduceLeDiff,Nat.reduceEqDiff,Int.reduceEq,reduceCtorEq,Nat.reduceAdd,Nat.reduceMul,if_true,if_false,decide_true,decide_false, n0, q1, g2.eq, dd, d0]

end Mir
