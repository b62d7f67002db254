/- The law TopBlind as the small language runs it: true of all arguments. Conditions: none. -/
import Derived.Test.YtmfbmdbabebhmaaAllG
import Derived.Test.YtmfbmdbabebhmaaAllV
set_option linter.unusedVariables false
set_option linter.unusedSectionVars false
set_option linter.unusedSimpArgs false
set_option exponentiation.threshold 5000
set_option maxRecDepth 20000
namespace Mir

theorem blind_w (a : Int) : F ((w64 ((1 : Int) + w64 (((a % 2 ^ 64).toNat % 210 : Nat) : Int)) % 2 ^ 64).toNat) (1 + (a % 2 ^ 64).toNat % 210) := ⟨by unfold w64; omega⟩
theorem tr_start : Tr2 [] [] [some [.nils], some [.nils]] := ⟨Nat.le_refl _, fun r hr => by
  simp only [List.mem_cons, List.not_mem_nil, or_false, or_self] at hr
  subst hr; rfl, .nils, .nils, rfl, rfl, .inl ⟨rfl, rfl⟩, .inl ⟨rfl, rfl⟩, fun k n m j n' m' e _ => by simp at e⟩

theorem law_TopBlind {z a b : Int} (_ : -9223372036854775808 ≤ z) (_ : z < 9223372036854775808) (_ : -9223372036854775808 ≤ a) (_ : a < 9223372036854775808) (_ : -9223372036854775808 ≤ b) (_ : b < 9223372036854775808) :
    Run T f_curvettop_TopBlind [.i z, .i a, .i b] [] = some (.b true, []) := by
  rw [Run_at T _ (show T f_curvettop_TopBlind = some m_curvettop_TopBlind from rfl)]
  simp only [c_curvettop_TopBlind, zeroCv, zeroPt, zero9]
  have c0 := r_topAwake
  have n0 := r_Num 0
  have pk := r_pick (z := z)
  have hk := pkN_cid z
  generalize pkN z = k at *
  have hN := crN_big hk
  haveI := pos_k hk
  have c1 := r_cGet hk
  obtain ⟨x, hx⟩ : ∃ x, x = 1 + (a % 2 ^ 64).toNat % 210 := ⟨_, rfl⟩
  obtain ⟨y, hy⟩ : ∃ x, x = 1 + (b % 2 ^ 64).toNat % 210 := ⟨_, rfl⟩
  have x1 := blind_w a
  rw [← hx] at x1
  have y1 := blind_w b
  rw [← hy] at y1
  have o1 := r_One (x := x) (by omega)
  have o2 := r_One (x := y) (by omega)
  have g0 : decide ((210 : Nat) = 0) = false := rfl
  have xl : x < crN k := by omega
  have yl : y < crN k := by omega
  have x0 : x ≠ 0 := by omega
  have y0 : y ≠ 0 := by omega
  have gon : OnP k (crG k) := gq_1 hk ▸ gq_on hk 1
  have gi : (crG k).i = false := rfl
  have gy : (crG k).y ≠ 0 := by
    have := gq_y hk 1 (by rw [gq_1 hk]; rfl)
    rwa [gq_1 hk] at this
  have s1 := r_Put (short := false) hk gon gi
  have hW := crW_le hk
  have wx := winG hk xl
  have wy := winG hk yl
  obtain ⟨e1, he1⟩ : ∃ e, e = [] ++ evN (crW k) := ⟨_, rfl⟩
  have le1 : e1.length = crW k * 16 := by rw [he1, List.nil_append, evN_len]
  obtain ⟨e2, he2⟩ : ∃ e, e = e1 ++ evN (crW k) := ⟨_, rfl⟩
  have le2 : e2.length = crW k * 32 := by rw [he2, List.length_append, le1, evN_len]; omega
  obtain ⟨e3, he3⟩ : ∃ e, e = e2 ++ evN (crW k) := ⟨_, rfl⟩
  have le3 : e3.length = crW k * 48 := by rw [he3, List.length_append, le2, evN_len]; omega
  obtain ⟨H1, p1, t1⟩ := r_Public (tr0 []) hk x0 xl (l := []) (by simp only [List.length_nil]; omega) tr_start wx
  simp only [← he1] at t1
  obtain ⟨H2, p2, t2⟩ := r_Shared (tr0 []) (short := false) hk x0 xl (l := e1) (by omega) t1 gon gi gy wx (gq_x hk x)
  simp only [← he2] at t2
  obtain ⟨H3, p3, t3⟩ := r_multMul (tr0 []) hk yl (l := e2) (by omega) t2 gon wy
  simp only [← he3] at t3
  obtain ⟨H4, p4, t4⟩ := r_Public (tr1 e3) hk y0 yl (l := []) (by simp only [List.length_nil]; omega) t3 wy
  simp only [← he1] at t4
  obtain ⟨H5, p5, t5⟩ := r_Shared (tr1 e3) (short := false) hk y0 yl (l := e1) (by omega) t4 gon gi gy wy (gq_x hk y)
  simp only [← he2] at t5
  obtain ⟨H6, p6, t6⟩ := r_multMul (tr1 e3) hk xl (l := e2) (by omega) t5 gon wx
  simp only [← he3] at t6
  obtain ⟨h1, h2, s, t, h3, h4, h5, h6, _⟩ := t6
  have W1 : 1 ≤ crW k := by
    have := crBits_pos xl
    unfold crW; omega
  have ne : e3 ≠ [] := fun e => by rw [e] at le3; simp only [List.length_nil] at le3; omega
  have q1 := r_Events h2 (by omega) h3 h5 ne
  have q2 := r_Events h2 (by omega) h4 h6 ne
  have q3 := r_Same (l := e3) (by omega)
  have q4 := r_Len h2 (by omega) h3 h5 ne
  have d1 : decide ((0 : Int) < (e3.length : Int)) = true := decide_eq_true (by omega)
  have d0 : decide True = true := rfl
  have w1 := r_tNew (H := [])
  have w2 := r_tNew (H := [some [.nils]])
  have nc := cvh_np8 k
  have np := fun a b c => pt_np a b c 6
  have ni : ∀ z, noHp 8 (.i z) = true := fun _ => rfl
  have nb : ∀ s, noHp 8 (.b s) = true := fun _ => rfl
  have nv : noHp 8 (.vs e3.length (evL e3)) = true := GJ 6 _ _
  simp only [crG] at *
  generalize evL e3 = EL at *
  generalize e3.length = en at *
  generalize enc k ⟨crX k, crY k, false⟩ false = ec at *
  clear hN h5 h6 t1 t2 t3 t4 t5 he1 he2 he3 le1 le2 le3 h1 h2 ne wx wy gon gy hW
  generalize bs (crSize k) (gq k x).x = bx at *
  generalize bs (crSize k) (gq k y).x = by1 at *
  generalize gq k x = Q1 at *
  generalize gq k y = Q2 at *
  simp only [pt] at *
  simp only [cvh, cvhL] at *
  simp only [EE,EX,Nat.reduceLeDiff,Nat.reduceEqDiff,Int.reduceEq,reduceCtorEq,Nat.reduceAdd,Nat.reduceMul,if_true,if_false,decide_true,decide_false, pk, c0, c1, n0, x1.eq, y1.eq, o1, o2, g0, s1, w1, w2, p1, p2, p3, p4, p5, p6, q1, q2, q3, q4, d0, d1, nc, np, ni, nb, nv, natv_noHp, ch_ok, ch_len, ch_sa, ch_p, ch_i, ch_g, ch_size, pt_len, pt_ok, pt_sa, pt_a, pt_x, pt_b, Bool.not_true, Bool.not_false]

end Mir
