/- Chapter 22, the law DerLoose as the small language runs it: loose forms are refused. Conditions: none. -/
import Derived.Test.YtphinknjjdfgeaaDer1
set_option linter.unusedVariables false
set_option linter.unusedSimpArgs false
set_option exponentiation.threshold 5000
set_option maxRecDepth 20000
namespace Mir

theorem ov1 (x : Nat) : ov [x] = x := by simp [ov, vb]
theorem bs1 {x : Nat} (h : x < 256) : bs 1 x = [x] := by
  have : bs 1 x = [x / 2 ^ (8 * (1 - 1 - 0)) % 2 ^ 8] := rfl
  rw [this]; simp; omega
theorem nby1 {x : Nat} (h : x < 256) : nby x = 1 := by
  have : bl x ≤ 8 := bl_le_iff.2 h
  unfold nby; rw [if_neg (by omega)]
theorem pNum_low {x : Nat} (h : x < 128) : pNum x = [x] := by
  unfold pNum
  rw [nby1 (by omega), bs1 (by omega), if_neg (by simp; omega)]
theorem pNum_high {x : Nat} (h : 128 ≤ x) (h2 : x < 256) : pNum x = [0, x] := by
  unfold pNum
  rw [nby1 h2, bs1 h2, if_pos (by simp; omega)]
theorem pPut_low {x y : Nat} (hx : x < 128) (hy : y < 128) : pPut x y = [48, 6, 2, 1, x, 2, 1, y] := by
  rw [pPut, pNum_low hx, pNum_low hy]; rfl
theorem pPut_high {x y : Nat} (hx : 128 ≤ x) (hx2 : x < 256) (hy : y < 128) : pPut x y = [48, 7, 2, 2, 0, x, 2, 1, y] := by
  rw [pPut, pNum_high hx hx2, pNum_low hy]; rfl

/-- The loose ones. -/
def loose (x y : Nat) : Nat → List Nat
  | 0 => [48, 129, 6, 2, 1, x, 2, 1, y]
  | 1 => [48, 7, 2, 2, 0, x, 2, 1, y]
  | 2 => [48, 6, 2, 1, x ||| 128, 2, 1, y]
  | 3 => [48, 5, 2, 0, 2, 1, y]
  | 4 => [48, 3, 2, 1, x]
  | 5 => [49, 6, 2, 1, x, 2, 1, y]
  | 6 => [48, 6, 3, 1, x, 2, 1, y]
  | _ => [48, 128, 2, 1, x, 2, 1, y, 0, 0]

theorem cut1 (x : Nat) : cutZ [x] = [x] := by cases x <;> rfl
theorem rNum1 (x : Nat) (rest : List Nat) (b : Bool) : rNumber (2 :: 1 :: x :: rest) b = (x, rest, b) := by
  have e : rField 2 (2 :: 1 :: x :: rest) b = ([x], rest, b) := by simp [rField, rField2, rField1, rByte, rBytes]
  simp only [rNumber, e, cut1, ov1]
  rfl

theorem loose_none {x y : Nat} (hx : 1 ≤ x) (hx2 : x < 128) (hy : 1 ≤ y) (hy2 : y < 128) : ∀ w, w < 8 → pGet (loose x y w) = (0, 2200) := by
  have bad : ∀ s, ((gF s).2.2 = true ∨ (gB s).2.2 = true ∨ pPut (gA s).1 (gB s).1 ≠ s) → pGet s = (0, 2200) := fun s h => by
    rw [pGet_def, if_pos]
    rcases h with h | h | h
    · rw [h]; rfl
    · rw [h]; simp
    · simp [h]
  intro w hw
  match w, hw with
  | 0, _ =>
    refine bad _ (.inr (.inr ?_))
    have f1 : gF (loose x y 0) = ([2, 1, x, 2, 1, y], [], false) := by simp [gF, loose, rField, rField2, rField1, rByte, rBytes]
    have f2 : gA (loose x y 0) = (x, [2, 1, y], false) := by rw [gA_def, f1]; exact rNum1 x _ _
    have f3 : gB (loose x y 0) = (y, [], false) := by rw [gB_def, f2]; exact rNum1 y _ _
    rw [f2, f3, pPut_low hx2 hy2]; simp [loose]
  | 1, _ =>
    refine bad _ (.inr (.inr ?_))
    have f1 : gF (loose x y 1) = ([2, 2, 0, x, 2, 1, y], [], false) := by simp [gF, loose, rField, rField2, rField1, rByte, rBytes]
    have f2 : gA (loose x y 1) = (x, [2, 1, y], false) := by
      rw [gA_def, f1]
      have e : rField 2 [2, 2, 0, x, 2, 1, y] false = ([0, x], [2, 1, y], false) := by simp [rField, rField2, rField1, rByte, rBytes]
      have e2 : cutZ [0, x] = [x] := rfl
      simp only [rNumber, e, e2, ov1]
      rfl
    have f3 : gB (loose x y 1) = (y, [], false) := by rw [gB_def, f2]; exact rNum1 y _ _
    rw [f2, f3, pPut_low hx2 hy2]; simp [loose]
  | 2, _ =>
    refine bad _ (.inr (.inr ?_))
    have hw1 : (x ||| 128) < 256 := Nat.or_lt_two_pow (n := 8) (by omega) (by omega)
    have hw2 : 128 ≤ (x ||| 128) := Nat.right_le_or
    obtain ⟨v, hv⟩ : ∃ v, v = (x ||| 128) := ⟨_, rfl⟩
    have e0 : loose x y 2 = [48, 6, 2, 1, v, 2, 1, y] := by rw [hv]; rfl
    rw [← hv] at hw1 hw2
    rw [e0]
    have f1 : gF [48, 6, 2, 1, v, 2, 1, y] = ([2, 1, v, 2, 1, y], [], false) := by simp [gF, rField, rField2, rField1, rByte, rBytes]
    have f2 : gA [48, 6, 2, 1, v, 2, 1, y] = (v, [2, 1, y], false) := by rw [gA_def, f1]; exact rNum1 v _ _
    have f3 : gB [48, 6, 2, 1, v, 2, 1, y] = (y, [], false) := by rw [gB_def, f2]; exact rNum1 y _ _
    rw [f2, f3, pPut_high hw2 hw1 hy2]; simp
  | 3, _ =>
    refine bad _ (.inr (.inr ?_))
    have f1 : gF (loose x y 3) = ([2, 0, 2, 1, y], [], false) := by simp [gF, loose, rField, rField2, rField1, rByte, rBytes]
    have f2 : gA (loose x y 3) = (0, [2, 1, y], false) := by
      rw [gA_def, f1]
      have e : rField 2 [2, 0, 2, 1, y] false = ([], [2, 1, y], false) := by simp [rField, rField2, rField1, rByte, rBytes]
      have e2 : cutZ [] = [] := rfl
      simp only [rNumber, e, e2]
      rfl
    have f3 : gB (loose x y 3) = (y, [], false) := by rw [gB_def, f2]; exact rNum1 y _ _
    rw [f2, f3, pPut_low (by omega) hy2]; simp [loose]
  | 4, _ =>
    refine bad _ (.inr (.inl ?_))
    have f1 : gF (loose x y 4) = ([2, 1, x], [], false) := by simp [gF, loose, rField, rField2, rField1, rByte, rBytes]
    have f2 : gA (loose x y 4) = (x, [], false) := by rw [gA_def, f1]; exact rNum1 x _ _
    rw [gB_def, f2]
    rfl
  | 5, _ =>
    exact pGet_head (by omega) (fun v hv => by simp at hv; omega)
  | 6, _ =>
    refine bad _ (.inr (.inl ?_))
    have f1 : gF (loose x y 6) = ([3, 1, x, 2, 1, y], [], false) := by simp [gF, loose, rField, rField2, rField1, rByte, rBytes]
    have f2 : gA (loose x y 6) = (x, [2, 1, y], true) := by
      rw [gA_def, f1]
      have e : rField 2 [3, 1, x, 2, 1, y] false = ([x], [2, 1, y], true) := by simp [rField, rField2, rField1, rByte, rBytes]
      simp only [rNumber, e, cut1, ov1]
      rfl
    rw [gB_def, f2]
    have := rNum1 y [] true
    rw [this]
  | 7, _ =>
    refine bad _ (.inl ?_)
    simp [gF, loose, rField, rField2, rField1, rByte, rBytes]

theorem loose_by {x y : Nat} (hx2 : x < 128) (hy2 : y < 128) : ∀ w, By (loose x y w) := by
  have hw1 : (x ||| 128) < 256 := Nat.or_lt_two_pow (n := 8) (by omega) (by omega)
  intro w v hv
  unfold loose at hv
  split at hv <;> simp at hv <;> omega

theorem law_DerLoose {a b which : Int} (_ : -9223372036854775808 ≤ a) (_ : a < 9223372036854775808) (_ : -9223372036854775808 ≤ b) (_ : b < 9223372036854775808) (_ : -9223372036854775808 ≤ which) (_ : which < 9223372036854775808) :
    Run T f_curvetlaw22_DerLoose [.i a, .i b, .i which] [] = some (.b true, []) := by
  rw [Run_at T _ (show T f_curvetlaw22_DerLoose = some m_curvetlaw22_DerLoose from rfl)]
  simp only [c_curvetlaw22_DerLoose, zero18]
  have c0 := r_awake
  obtain ⟨u, hu⟩ : ∃ u, u = (a % 2 ^ 64).toNat := ⟨_, rfl⟩
  obtain ⟨u7, hu7⟩ : ∃ c, c = u % 127 := ⟨_, rfl⟩
  have hu7l : u7 < 127 := by rw [hu7]; exact Nat.mod_lt _ (by omega)
  obtain ⟨x, hx⟩ : ∃ x, x = 1 + u7 := ⟨_, rfl⟩
  obtain ⟨v, hv⟩ : ∃ u, u = (b % 2 ^ 64).toNat := ⟨_, rfl⟩
  obtain ⟨v7, hv7⟩ : ∃ c, c = v % 127 := ⟨_, rfl⟩
  have hv7l : v7 < 127 := by rw [hv7]; exact Nat.mod_lt _ (by omega)
  obtain ⟨y, hy⟩ : ∃ x, x = 1 + v7 := ⟨_, rfl⟩
  obtain ⟨t, ht⟩ : ∃ u, u = (which % 2 ^ 64).toNat := ⟨_, rfl⟩
  obtain ⟨w, hw⟩ : ∃ c, c = t % 8 := ⟨_, rfl⟩
  have hwl : w < 8 := by rw [hw]; exact Nat.mod_lt _ (by omega)
  have k1 : decide ((127 : Nat) = 0) = false := rfl
  have k2 : decide ((8 : Nat) = 0) = false := rfl
  have k3 : F (w64 ((u7 : Nat) : Int)) (u7 : Int) := ⟨w64_of (by omega) (by omega)⟩
  have k4 : F (w64 ((v7 : Nat) : Int)) (v7 : Int) := ⟨w64_of (by omega) (by omega)⟩
  have k5 : F (w64 (1 + (u7 : Int))) (x : Int) := ⟨by rw [hx]; unfold w64; omega⟩
  have k6 : F (w64 (1 + (v7 : Int))) (y : Int) := ⟨by rw [hy]; unfold w64; omega⟩
  have k7 : F ((((x : Nat) : Int) % 2 ^ 8).toNat) x := ⟨by omega⟩
  have k8 : F ((((y : Nat) : Int) % 2 ^ 8).toNat) y := ⟨by omega⟩
  have hx1 : 1 ≤ x := by omega
  have hx2 : x < 128 := by omega
  have hy1 : 1 ≤ y := by omega
  have hy2 : y < 128 := by omega
  have hb : ∀ (z : Nat) (H : Heap), b2sV true H (.vs 1 [.u 8 z]) = some (.s [z]) := fun z H => b2s_vs (l := [z]) rfl
  have hok : ∀ z : Nat, okc 1 [V.u 8 z] 0 1 = true := fun z => by simp [okc, cellV]
  have ad : ∀ (l m : List Nat), l.length < 100 → m.length < 100 → binV .add (.s l) (.s m) = some (.s (l ++ m)) := fun l m h1 h2 => s_add _ _ (by omega)
  obtain ⟨z, hz⟩ : ∃ z, z = (x ||| 128) := ⟨_, rfl⟩
  -- the good one
  have s1 : binV .add (.s [48, 6, 2, 1]) (.s [x]) = some (.s [48, 6, 2, 1, x]) := ad _ _ (by simp) (by simp)
  have s2 : binV .add (.s [48, 6, 2, 1, x]) (.s [2, 1]) = some (.s [48, 6, 2, 1, x, 2, 1]) := ad _ _ (by simp) (by simp)
  have s3 : binV .add (.s [48, 6, 2, 1, x, 2, 1]) (.s [y]) = some (.s [48, 6, 2, 1, x, 2, 1, y]) := ad _ _ (by simp) (by simp)
  -- the loose ones
  have a1 : binV .add (.s [48, 129, 6, 2, 1]) (.s [x]) = some (.s [48, 129, 6, 2, 1, x]) := ad _ _ (by simp) (by simp)
  have a2 : binV .add (.s [48, 129, 6, 2, 1, x]) (.s [2, 1]) = some (.s [48, 129, 6, 2, 1, x, 2, 1]) := ad _ _ (by simp) (by simp)
  have a3 : binV .add (.s [48, 129, 6, 2, 1, x, 2, 1]) (.s [y]) = some (.s [48, 129, 6, 2, 1, x, 2, 1, y]) := ad _ _ (by simp) (by simp)
  have b1 : binV .add (.s [48, 7, 2, 2, 0]) (.s [x]) = some (.s [48, 7, 2, 2, 0, x]) := ad _ _ (by simp) (by simp)
  have b2 : binV .add (.s [48, 7, 2, 2, 0, x]) (.s [2, 1]) = some (.s [48, 7, 2, 2, 0, x, 2, 1]) := ad _ _ (by simp) (by simp)
  have b3 : binV .add (.s [48, 7, 2, 2, 0, x, 2, 1]) (.s [y]) = some (.s [48, 7, 2, 2, 0, x, 2, 1, y]) := ad _ _ (by simp) (by simp)
  have d1 : binV .add (.s [48, 6, 2, 1]) (.s [z]) = some (.s [48, 6, 2, 1, z]) := ad _ _ (by simp) (by simp)
  have d2 : binV .add (.s [48, 6, 2, 1, z]) (.s [2, 1]) = some (.s [48, 6, 2, 1, z, 2, 1]) := ad _ _ (by simp) (by simp)
  have d3 : binV .add (.s [48, 6, 2, 1, z, 2, 1]) (.s [y]) = some (.s [48, 6, 2, 1, z, 2, 1, y]) := ad _ _ (by simp) (by simp)
  have e1 : binV .add (.s [48, 5, 2, 0, 2, 1]) (.s [y]) = some (.s [48, 5, 2, 0, 2, 1, y]) := ad _ _ (by simp) (by simp)
  have e2 : binV .add (.s [48, 3, 2, 1]) (.s [x]) = some (.s [48, 3, 2, 1, x]) := ad _ _ (by simp) (by simp)
  have f1 : binV .add (.s [49, 6, 2, 1]) (.s [x]) = some (.s [49, 6, 2, 1, x]) := ad _ _ (by simp) (by simp)
  have f2 : binV .add (.s [49, 6, 2, 1, x]) (.s [2, 1]) = some (.s [49, 6, 2, 1, x, 2, 1]) := ad _ _ (by simp) (by simp)
  have f3 : binV .add (.s [49, 6, 2, 1, x, 2, 1]) (.s [y]) = some (.s [49, 6, 2, 1, x, 2, 1, y]) := ad _ _ (by simp) (by simp)
  have g1 : binV .add (.s [48, 6, 3, 1]) (.s [x]) = some (.s [48, 6, 3, 1, x]) := ad _ _ (by simp) (by simp)
  have g2 : binV .add (.s [48, 6, 3, 1, x]) (.s [2, 1]) = some (.s [48, 6, 3, 1, x, 2, 1]) := ad _ _ (by simp) (by simp)
  have g3 : binV .add (.s [48, 6, 3, 1, x, 2, 1]) (.s [y]) = some (.s [48, 6, 3, 1, x, 2, 1, y]) := ad _ _ (by simp) (by simp)
  have h1 : binV .add (.s [48, 128, 2, 1]) (.s [x]) = some (.s [48, 128, 2, 1, x]) := ad _ _ (by simp) (by simp)
  have h2 : binV .add (.s [48, 128, 2, 1, x]) (.s [2, 1]) = some (.s [48, 128, 2, 1, x, 2, 1]) := ad _ _ (by simp) (by simp)
  have h3 : binV .add (.s [48, 128, 2, 1, x, 2, 1]) (.s [y]) = some (.s [48, 128, 2, 1, x, 2, 1, y]) := ad _ _ (by simp) (by simp)
  have h4 : binV .add (.s [48, 128, 2, 1, x, 2, 1, y]) (.s [0, 0]) = some (.s [48, 128, 2, 1, x, 2, 1, y, 0, 0]) := ad _ _ (by simp) (by simp)
  obtain ⟨BL, hBL⟩ : ∃ BL : List V, BL = [.s [48, 129, 6, 2, 1, x, 2, 1, y], .s [48, 7, 2, 2, 0, x, 2, 1, y], .s [48, 6, 2, 1, z, 2, 1, y], .s [48, 5, 2, 0, 2, 1, y], .s [48, 3, 2, 1, x], .s [49, 6, 2, 1, x, 2, 1, y], .s [48, 6, 3, 1, x, 2, 1, y], .s [48, 128, 2, 1, x, 2, 1, y, 0, 0]] := ⟨_, rfl⟩
  have l1 : fill [.s [], .s [], .s [], .s [], .s [], .s [], .s [], .s []] [(0, 1, .s [48, 129, 6, 2, 1, x, 2, 1, y]), (1, 1, .s [48, 7, 2, 2, 0, x, 2, 1, y]), (2, 1, .s [48, 6, 2, 1, z, 2, 1, y]), (3, 1, .s [48, 5, 2, 0, 2, 1, y]), (4, 1, .s [48, 3, 2, 1, x]), (5, 1, .s [49, 6, 2, 1, x, 2, 1, y]), (6, 1, .s [48, 6, 3, 1, x, 2, 1, y]), (7, 1, .s [48, 128, 2, 1, x, 2, 1, y, 0, 0])] = some BL := by
    rw [hBL]; simp [fill, cells, cellV, splice]
  have l2 : part BL w none = some (.s (loose x y w)) := by
    rw [hBL]
    match w, hwl with
    | 0, _ => rfl
    | 1, _ => rfl
    | 2, _ => rw [hz]; rfl
    | 3, _ => rfl
    | 4, _ => rfl
    | 5, _ => rfl
    | 6, _ => rfl
    | 7, _ => rfl
  have l3 := ixOf_u (n := 8) (w := 64) hwl
  have hM : ∀ {v : Nat}, v < 128 → v < M := fun {v} h => Nat.lt_of_lt_of_le h (by rw [show (128 : Nat) = 2 ^ 7 from rfl]; exact Nat.pow_le_pow_right (by omega) (by omega))
  have c1 := r_Get (s := [48, 6, 2, 1, x, 2, 1, y]) (by simp) (fun v hv => by simp at hv; omega)
  rw [← pPut_low hx2 hy2, pGet_pPut (hM hx2) (hM hy2), pPut_low hx2 hy2] at c1
  have hlw : (loose x y w).length < 9223372036854775808 := by
    unfold loose
    split <;> simp
  have c2 := r_Get hlw (loose_by hx2 hy2 w)
  rw [loose_none hx1 hx2 hy1 hy2 w hwl] at c2
  have c3 := r_One (x := x) (by omega)
  have c4 := r_One (x := y) (by omega)
  have c5 := r_Num 0
  have c6 := r_Num 2200
  have i1 := eqis 0
  have i2 := eqis 2200
  have e3 : ((2200 : Nat) : Int) = 2200 := rfl
  have e4 : ((0 : Nat) : Int) = 0 := rfl
  simp only [e3] at c2
  simp only [e4] at c1
  have p1 := sig_put1 (hM hx2)
  have p2 := sig_put2 (t := y) (hM hx2)
  have q1 : okc 9 (us 64 (dl 64 9 x)) 0 18 = true := by rw [Ki, dl_len]; rfl
  have q2 : okc 9 (us 64 (dl 64 9 y)) 9 18 = true := by rw [Ki, dl_len]; rfl
  have r1 : x % 2 ^ 64 = x := Nat.mod_eq_of_lt (by omega)
  have r2 : y % 2 ^ 64 = y := Nat.mod_eq_of_lt (by omega)
  obtain ⟨zz, hzz⟩ : ∃ q, q = x + M * y := ⟨_, rfl⟩
  rw [← hzz] at c1 p2
  obtain ⟨S, hS⟩ : ∃ S, S = loose x y w := ⟨_, rfl⟩
  rw [← hS] at c2 l2
  simp only [Qa,Qb,Qc,Qd,Qe,Qf,Qg,Qh,Qi,Qj,Qk,Ql,Qm,Qn,Qo,Qp,Qq,Qr,Qs,Qt,Qu,Qv,Qw,Qx,Qy,Qz,QA,QB,QC,QD,QE,QF,QG,QH,QI,QJ,QK,QL,QM,QN,QO,QP,QQ,QR,QS,QT,QU,QV,QW,QX,QY,QZ,Q0,Q1,Q2,Q3,Q4,Q5,Q6,Q7,Q8,Q9,Xa,Xb,Xc,Xd,Xe,Xf,Xg,Xh,Xi,Xj,Xk,Xl,Xm,Xn,Xo,Xp,Xq,Xr,Xs,Xt,Xu,Xv,Xw,Xx,Xy,Xz,XA,XB,XC,XD,XE,XF,XG,XH,XI,XJ,XK,XL,XM,XN,XO,XP,XQ,XR,XS,XT,XU,XV,XW,XX,XY,XZ,X0,X1,X2,X3,X4,X5,X6,X7,X8,X9,Ya,Yb,Yc,Yd,Ye,Yf,Yg,Yh,Yi,Yj,Yk,Yl,Ym,Yn,Yo,Yp,Yq,Yr,Ys,Yt,Yu,Yv,Yw,Yx,Yy,Yz,YA,YB,YC,YD,YE,YF,YG,YH,YI,YJ,YK,YL,YM,YN,YO,YP,YQ,YR,YS,YT,YU,YV,YW,YX,YY,YZ,Y0,Y1,Y2,Y3,Y4,Y5,Y6,Y7,Y8,Y9,Za,Zb,Zc,Zd,Ze,Zf,Zg,Zh,Zi,Zj,Zk,Zl,Zm,Zn,Zo,Zp,Zq,Zr,Zs,Zt,Zu,Zv,Zw,Zx,Zy,Zz,ZA,ZB,ZC,ZD,ZE,ZF,ZG,ZH,ZI,ZJ,ZK,ZL,ZM,ZN,ZO,ZP,ZQ,ZR,ZS,ZT,ZU,ZV,ZW,ZX,ZY,ZZ,Z0,Z1,Z2,Z3,Z4,Z5,Z6,Z7,Z8,Z9,Ja,Jb,Jc,Jd,Je,Jf,Jg,Jh,Ji,Jj,Jk,Jl,Jm,Jn,Jo,Jp,Jq,Jr,Js,Jt,Ju,Jv,Jw,Jx,Jy,Jz,JA,JB,JC,JD,JE,JF,JG,JH,JI,JJ,JK,JL,JM,JN,JO,JP,JQ,JR,JS,JT,JU,JV,JW,JX,JY,JZ,J0,J1,J2,J3,J4,J5,J6,J7,J8,J9,Ka,Kb,Kc,Kd,Ke,Kf,Kg,Kh,Ki,Kj,Kk,Kl,Km,Kn,Ko,Kp,Kq,Kr,Ks,Kt,Ku,Kv,Kw,Kx,Ky,Kz,KA,KB,KC,KD,KE,KF,KG,KH,KI,KJ,KK,KL,KM,KN,KO,KP,KQ,KR,KS,KT,KU,KV,KW,KX,KY,KZ,K0,K1,K2,K3,K4,K5,K6,K7,K8,K9,Ga,Gb,Gc,Gd,Ge,Gf,Gg,Gh,Gi,Gj,Gk,Gl,Gm,Gn,Gp,Gq,Gr,Gs,Gt,Gu,Gv,Gw,Gx,Gy,Gz,GA,GB,GC,GD,GE,GF,GG,GH,GI,GJ,GK,GL,GM,GN,GO,GP,GQ,GR,GS,GT,Nat.le_refl,Nat.reduceLeDiff,List.drop_zero,us_take,us_drop,is_take,is_drop,List.take_zero,gn,if_true,if_false,Nat.reduceEqDiff,Int.reduceEq,reduceCtorEq,Nat.succ_ne_self,Nat.reduceAdd,Nat.zero_add,Nat.add_zero,Nat.reduceMul,Nat.mul_one,Nat.one_mul,Nat.zero_mul,Nat.sub_zero,decide_true,decide_false,Bool.and_self,Bool.and_true,Bool.true_and,Bool.false_and,Bool.and_false,Bool.not_true,Bool.not_false,List.length_cons,List.length_nil,us_len,is_len,tb_len,dl_len,us_set,is_set,tb_set,Nat.not_lt_zero,List.nil_append,us_rep,is_rep, List.set_cons_zero, List.set_cons_succ, ← hBL, c0, ← hu, ← hu7, ← hv, ← hv7, ← ht, ← hw, ← hz, k1, k2, k3.eq, k4.eq, k5.eq, k6.eq, k7.eq, k8.eq, hb, hok, s1, s2, s3, a1, a2, a3, b1, b2, b3, d1, d2, d3, e1, e2, f1, f2, f3, g1, g2, g3, h1, h2, h3, h4, l2, l3, c1, c2, c3, c4, c5, c6, i1, i2, p1, p2, q1, q2, r1, r2, eq18s, natv_noHp, widev_noHp]

end Mir
