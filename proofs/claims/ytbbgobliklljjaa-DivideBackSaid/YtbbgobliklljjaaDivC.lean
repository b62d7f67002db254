/- The guess of a word of the quotient. Conditions: none. -/
import Derived.Test.YtbbgobliklljjaaDivB
set_option linter.unusedVariables false
set_option linter.unusedSimpArgs false
set_option exponentiation.threshold 5000
set_option maxRecDepth 20000
namespace Mir

/-- Knuth's guess of a word, by three words: how often it is seen to be too great. -/
theorem est64 {N u y1 y0 t B : Nat} (hB : B = 18446744073709551616) (hy1 : 9223372036854775808 ≤ y1) (hy1l : y1 < B) (hu : u < B) (hle : t ≤ N / y1) (hcmp : t * (y1 * B + y0) ≤ N * B + u) :
    ∃ (q r : Nat → Nat) (K : Nat), (∀ i, q i = N / y1 - i) ∧ (∀ i, r i = N % y1 + i * y1) ∧ K ≤ 1 ∧
      (∀ i, i < K → r (i + 1) < B ∧ 1 ≤ q i ∧ B * r i + u < q i * y0) ∧
      ((q K * y0 ≤ B * r K + u ∧ t ≤ q K) ∨ (B ≤ r (K + 1) ∧ 1 ≤ q K ∧ B * r K + u < q K * y0 ∧ t ≤ q (K + 1))) ∧
      (∀ i, i ≤ K → r i < B) := by
  have hy1p : 0 < y1 := by omega
  have hdm := Nat.div_add_mod N y1
  have hml := Nat.mod_lt N hy1p
  obtain ⟨q0, hq0⟩ : ∃ q0, q0 = N / y1 := ⟨_, rfl⟩
  obtain ⟨r0, hr0⟩ : ∃ r0, r0 = N % y1 := ⟨_, rfl⟩
  rw [← hq0, ← hr0] at hdm
  rw [← hr0] at hml
  rw [← hq0] at hle
  have worth : ∀ k, k ≤ q0 → (q0 - k) * y1 + (r0 + k * y1) = N := fun k hk => by
    have : (q0 - k) * y1 + k * y1 = q0 * y1 := by rw [← Nat.add_mul]; congr 1; omega
    rw [Nat.mul_comm y1 q0] at hdm
    omega
  have cmp : ∀ k, k ≤ q0 → q0 - k ≤ t → (q0 - k) * y0 ≤ B * (r0 + k * y1) + u := fun k hk hkt => by
    have h1 := worth k hk
    obtain ⟨g, hg⟩ : ∃ g, g = q0 - k := ⟨_, rfl⟩
    obtain ⟨r, hr⟩ : ∃ r, r = r0 + k * y1 := ⟨_, rfl⟩
    rw [← hg, ← hr] at h1
    rw [← hg] at hkt
    rw [← hg, ← hr]
    have h0 : g * (y1 * B + y0) ≤ N * B + u := Nat.le_trans (Nat.mul_le_mul_right _ hkt) hcmp
    have h2 : g * (y1 * B + y0) = g * y1 * B + g * y0 := by rw [Nat.mul_add, Nat.mul_assoc]
    rw [h2, ← h1, Nat.add_mul, Nat.mul_comm r B] at h0
    omega
  have le1 : ∀ k, k ≤ q0 → B * (r0 + k * y1) + u < (q0 - k) * y0 → t ≤ q0 - (k + 1) ∧ 1 ≤ q0 - k := fun k hk h => by
    rcases Nat.lt_or_ge t (q0 - k) with h1 | h1
    · omega
    · exact absurd (cmp k hk h1) (by omega)
  rw [← hq0, ← hr0]
  refine ⟨fun i => q0 - i, fun i => r0 + i * y1, ?_⟩
  rcases Nat.lt_or_ge (B * (r0 + 0 * y1) + u) ((q0 - 0) * y0) with c0 | c0
  · obtain ⟨g1, g2⟩ := le1 0 (by omega) c0
    by_cases c1 : B ≤ r0 + 1 * y1
    · refine ⟨0, fun _ => rfl, fun _ => rfl, by omega, fun i hi => absurd hi (by omega), .inr ⟨c1, g2, c0, g1⟩, fun i hi => ?_⟩
      have : i = 0 := by omega
      subst this
      simp
      omega
    · have rl : ∀ i, i ≤ 1 → r0 + i * y1 < B := fun i hi => by
        rcases (show i = 0 ∨ i = 1 by omega) with h | h <;> subst h <;> omega
      have first : ∀ i, i < 1 → r0 + (i + 1) * y1 < B ∧ 1 ≤ q0 - i ∧ B * (r0 + i * y1) + u < (q0 - i) * y0 := fun i hi => by
        have : i = 0 := by omega
        subst this
        exact ⟨rl 1 (by omega), g2, c0⟩
      rcases Nat.lt_or_ge (B * (r0 + 1 * y1) + u) ((q0 - 1) * y0) with c2 | c2
      · obtain ⟨g3, g4⟩ := le1 1 (by omega) c2
        exact ⟨1, fun _ => rfl, fun _ => rfl, by omega, first, .inr ⟨by simp only; omega, g4, c2, g3⟩, rl⟩
      · exact ⟨1, fun _ => rfl, fun _ => rfl, by omega, first, .inl ⟨c2, g1⟩, rl⟩
  · refine ⟨0, fun _ => rfl, fun _ => rfl, by omega, fun i hi => absurd hi (by omega), .inl ⟨c0, by simpa using hle⟩, fun i hi => ?_⟩
    have : i = 0 := by omega
    subst this
    simp
    omega

theorem dec_lem64 {z i : Nat} (h1 : 1 ≤ z - i) (h2 : z < 2 ^ 64) : (z - i + 2 ^ 64 - 1) % 2 ^ 64 = z - (i + 1) := by omega
theorem sum_small {m i y : Nat} (h : m + (i + 1) * y < 2 ^ 64) : (m + i * y + y) % 2 ^ 64 = m + (i + 1) * y ∧ ¬ (m + (i + 1) * y < m + i * y) := by
  rw [Nat.add_mul, Nat.one_mul] at h ⊢
  obtain ⟨p, hp⟩ : ∃ p, p = i * y := ⟨_, rfl⟩
  rw [← hp] at h ⊢
  omega
theorem sum_great {m i y : Nat} (h : 2 ^ 64 ≤ m + (i + 1) * y) (h1 : m + i * y < 2 ^ 64) (hy : y < 2 ^ 64) : (m + i * y + y) % 2 ^ 64 < m + i * y := by
  rw [Nat.add_mul, Nat.one_mul] at h
  obtain ⟨p, hp⟩ : ∃ p, p = i * y := ⟨_, rfl⟩
  rw [← hp] at h h1 ⊢
  omega
/-- A product's two words against two words. -/
theorem two_words {p r u : Nat} (hu : u < 2 ^ 64) : (p ≤ 18446744073709551616 * r + u ↔ (p / 2 ^ 64 < r ∨ (p / 2 ^ 64 = r ∧ p % 2 ^ 64 ≤ u))) := by omega
theorem q_le {t D Wv P : Nat} (hP : 0 < P) (h : t * D ≤ Wv) : t * (D / P) ≤ Wv / P := by
  rw [Nat.le_div_iff_mul_le hP, Nat.mul_assoc]
  exact Nat.le_trans (Nat.mul_le_mul_left _ (Nat.div_mul_le_self _ _)) h
theorem two_parts (X k : Nat) : X / 2 ^ (64 * k) = X / 2 ^ (64 * (k + 1)) * 18446744073709551616 + X / 2 ^ (64 * k) % 2 ^ 64 := by
  have h := Nat.div_add_mod (X / 2 ^ (64 * k)) (2 ^ 64)
  rw [Nat.div_div_eq_div_mul, ← Nat.pow_add, show 64 * k + 64 = 64 * (k + 1) by omega] at h
  omega

theorem r_guess {D n s lo Wv a : Nat} (hn1 : 1 ≤ n) (hn : n ≤ 9) (hD : D < 2 ^ (64 * n)) (hD2 : 2 ^ 63 ≤ D / 2 ^ (64 * (n - 1))) (hlo : lo < 2 ^ (64 * a)) (hW : Wv < D * 2 ^ 64) (ha : a + n < 19) :
    ∃ x, x < 2 ^ 64 ∧ Wv / D ≤ x ∧ Run T f_divide_divisor_guess [dv D n s, .hs 1 0 0 19 19, .i (a : Int)] [some (us 64 (dl 64 19 (lo + 2 ^ (64 * a) * Wv)))] =
      some (.u 64 x, [some (us 64 (dl 64 19 (lo + 2 ^ (64 * a) * Wv)))]) := by
  rw [Run_at T _ (show T f_divide_divisor_guess = some m_divide_divisor_guess from rfl)]
  simp only [c_divide_divisor_guess]
  have hDp : 0 < D := by
    rcases Nat.eq_zero_or_pos D with h | h
    · rw [h, Nat.zero_div] at hD2; omega
    · exact h
  obtain ⟨n1, hn1'⟩ : ∃ z, z = n - 1 := ⟨_, rfl⟩
  rw [← hn1'] at hD2
  have htl : D / 2 ^ (64 * n1) < 2 ^ 64 := by
    rw [Nat.div_lt_iff_lt_mul (Nat.two_pow_pos _), ← Nat.pow_add, show 64 + 64 * n1 = 64 * n by omega]; exact hD
  obtain ⟨top, htop⟩ : ∃ z, z = D / 2 ^ (64 * n1) := ⟨_, rfl⟩
  rw [← htop] at hD2 htl
  have hWl : Wv / 2 ^ (64 * n) < 2 ^ 64 := by
    rw [Nat.div_lt_iff_lt_mul (Nat.two_pow_pos _), Nat.mul_comm]
    exact Nat.lt_of_lt_of_le hW (Nat.mul_le_mul_right _ (Nat.le_of_lt hD))
  obtain ⟨X, hX⟩ : ∃ X, X = lo + 2 ^ (64 * a) * Wv := ⟨_, rfl⟩
  obtain ⟨x, hx⟩ : ∃ x : Nat → Nat, ∀ j, x j = X / 2 ^ (64 * j) % 2 ^ 64 := ⟨_, fun _ => rfl⟩
  obtain ⟨d, hd⟩ : ∃ d : Nat → Nat, ∀ i, d i = D / 2 ^ (64 * i) % 2 ^ 64 := ⟨_, fun _ => rfl⟩
  have hxw : ∀ i, x (a + i) = Wv / 2 ^ (64 * i) % 2 ^ 64 := fun i => by rw [hx, hX, word_of_window hlo (by omega), show a + i - a = i by omega]
  have hlX : dl 64 19 X = tb 19 x := tb_congr fun j hj => (hx j).symm
  have hxl : ∀ j, x j < 2 ^ 64 := fun j => by rw [hx]; exact Nat.mod_lt _ (Nat.two_pow_pos 64)
  have hdl : ∀ i, d i < 2 ^ 64 := fun i => by rw [hd]; exact Nat.mod_lt _ (Nat.two_pow_pos 64)
  rw [← hX, hlX]
  have k1 := dv_n D n s
  have k2 : ∀ i, i < 9 → part (dvl D n s) i none = some (.u 64 (d i)) := fun i hi => by rw [hd]; exact dv_w hi
  obtain ⟨dd, hdd⟩ : ∃ l, l = dvl D n s := ⟨_, rfl⟩
  simp only [dv, ← hdd] at k1 k2 ⊢
  obtain ⟨an, han⟩ : ∃ z, z = a + n := ⟨_, rfl⟩
  obtain ⟨am, ham⟩ : ∃ z, z = a + n1 := ⟨_, rfl⟩
  have w1 : F (w64 ((n : Int) - 1)) (n1 : Int) := ⟨by unfold w64; omega⟩
  have w2 : F (w64 ((a : Int) + (n : Int))) (an : Int) := ⟨by unfold w64; omega⟩
  have w3 : F (w64 ((an : Int) - 1)) (am : Int) := ⟨by unfold w64; omega⟩
  have i1 := ixOf_nat (show n1 < 9 by omega)
  have i2 := ixOf_nat (show an < 19 by omega)
  have i3 := ixOf_nat (show am < 19 by omega)
  have p1 := k2 n1 (by omega)
  have p2 := part_tb (w := 64) x an (show an < 19 by omega)
  have p3 := part_tb (w := 64) x am (show am < 19 by omega)
  have hdt : d n1 = top := by rw [hd, ← htop]; exact Nat.mod_eq_of_lt htl
  rw [hdt] at p1
  have hhi : x an = Wv / 2 ^ (64 * n) := by rw [han, hxw]; exact Nat.mod_eq_of_lt hWl
  have hlw : x am = Wv / 2 ^ (64 * n1) % 2 ^ 64 := by rw [ham, hxw]
  have hN : x an * 2 ^ 64 + x am = Wv / 2 ^ (64 * n1) := by
    have := two_parts Wv n1
    rw [show n1 + 1 = n by omega] at this
    rw [hhi, hlw]; exact this.symm
  obtain ⟨hi, hhi'⟩ : ∃ z, x an = z := ⟨_, rfl⟩
  obtain ⟨low, hlow'⟩ : ∃ z, x am = z := ⟨_, rfl⟩
  have hil : hi < 2 ^ 64 := by rw [← hhi']; exact hxl an
  have lowl : low < 2 ^ 64 := by rw [← hlow']; exact hxl am
  rw [hhi'] at hN hhi p2
  rw [hlow'] at hN hlw p3
  have l9 : ∀ f, (uH f).all (lowR 1) = true := fun f => by simp [uH, lowR, us_low]
  simp only [uH] at l9
  by_cases c1 : top ≤ hi
  · refine ⟨18446744073709551615, by omega, ?_, ?_⟩
    · have : Wv / D < 2 ^ 64 := by rw [Nat.div_lt_iff_lt_mul hDp, Nat.mul_comm]; exact hW
      omega
    · have e1 : decide (top ≤ hi) = true := decide_eq_true c1
      simp only [Qa,Qb,Qc,Qd,Qe,Qf,Qg,Qh,Qi,Qj,Qk,Ql,Qm,Qn,Qo,Qp,Qq,Qr,Qs,Qt,Qu,Qv,Qw,Qx,Qy,Qz,QA,QB,QC,QD,QE,QF,QG,QH,QI,QJ,QK,QL,QM,QN,QO,QP,QQ,QR,QS,QT,QU,QV,QW,QX,QY,QZ,Q0,Q1,Q2,Q3,Q4,Q5,Q6,Q7,Q8,Q9,Xa,Xb,Xc,Xd,Xe,Xf,Xg,Xh,Xi,Xj,Xk,Xl,Xm,Xn,Xo,Xp,Xq,Xr,Xs,Xt,Xu,Xv,Xw,Xx,Xy,Xz,XA,XB,XC,XD,XE,XF,XG,XH,XI,XJ,XK,XL,XM,XN,XO,XP,XQ,XR,XS,XT,XU,XV,XW,XX,XY,XZ,X0,X1,X2,X3,X4,X5,X6,X7,X8,X9,Ya,Yb,Yc,Yd,Ye,Yf,Yg,Yh,Yi,Yj,Yk,Yl,Ym,Yn,Yo,Yp,Yq,Yr,Ys,Yt,Yu,Yv,Yw,Yx,Yy,Yz,YA,YB,YC,YD,YE,YF,YG,YH,YI,YJ,YK,YL,YM,YN,YO,YP,YQ,YR,YS,YT,YU,YV,YW,YX,YY,YZ,Y0,Y1,Y2,Y3,Y4,Y5,Y6,Y7,Y8,Y9,Za,Zb,Zc,Zd,Ze,Zf,Zg,Zh,Zi,Zj,Zk,Zl,Zm,Zn,Zo,Zp,Zq,Zr,Zs,Zt,Zu,Zv,Zw,Zx,Zy,Zz,ZA,ZB,ZC,ZD,ZE,ZF,ZG,ZH,ZI,ZJ,ZK,ZL,ZM,ZN,ZO,ZP,ZQ,ZR,ZS,ZT,ZU,ZV,ZW,ZX,ZY,ZZ,Z0,Z1,Z2,Z3,Z4,Z5,Z6,Z7,Z8,Z9,Ja,Jb,Jc,Jd,Je,Jf,Jg,Jh,Ji,Jj,Jk,Jl,Jm,Jn,Jo,Jp,Jq,Jr,Js,Jt,Ju,Jv,Jw,Jx,Jy,Jz,JA,JB,JC,JD,JE,JF,JG,JH,JI,JJ,JK,JL,JM,JN,JO,JP,JQ,JR,JS,JT,JU,JV,JW,JX,JY,JZ,J0,J1,J2,J3,J4,J5,J6,J7,J8,J9,Ka,Kb,Kc,Kd,Ke,Kf,Kg,Kh,Ki,Kj,Kk,Kl,Km,Kn,Ko,Kp,Kq,Kr,Ks,Kt,Ku,Kv,Kw,Kx,Ky,Kz,KA,KB,KC,KD,KE,KF,KG,KH,KI,KJ,KK,KL,KM,KN,KO,KP,KQ,KR,KS,KT,KU,KV,KW,KX,KY,KZ,K0,K1,K2,K3,K4,K5,K6,K7,K8,K9,Ga,Gb,Gc,Gd,Ge,Gf,Gg,Gh,Gi,Gj,Gk,Gl,Gm,Gn,Gp,Gq,Gr,Gs,Gt,Gu,Gv,Gw,Gx,Gy,Gz,GA,GB,GC,GD,GE,GF,GG,GH,GI,GJ,GK,GL,GM,GN,GO,GP,GQ,GR,GS,GT,Nat.le_refl,Nat.reduceLeDiff,List.drop_zero,us_take,us_drop,is_take,is_drop,List.take_zero,gn,if_true,if_false,Nat.reduceEqDiff,Int.reduceEq,reduceCtorEq,Nat.succ_ne_self,Nat.reduceAdd,Nat.zero_add,Nat.add_zero,Nat.reduceMul,Nat.mul_one,Nat.one_mul,Nat.zero_mul,Nat.sub_zero,decide_true,decide_false,Bool.and_self,Bool.and_true,Bool.true_and,Bool.false_and,Bool.and_false,Bool.not_true,Bool.not_false,List.length_cons,List.length_nil,us_len,is_len,tb_len,dl_len,us_set,is_set,tb_set,Nat.not_lt_zero,List.nil_append,us_rep,is_rep, k1, w1.eq, w2.eq, w3.eq, i1, i2, i3, p1, p2, p3, e1, l9, List.take_succ_cons, List.take_nil]
  · have e1 : decide (top ≤ hi) = false := decide_eq_false c1
    have r1 := r_Div64 htl hD2 (by omega) lowl (hi := hi)
    obtain ⟨N, hN'⟩ : ∃ z, z = hi * 2 ^ 64 + low := ⟨_, rfl⟩
    rw [← hN'] at r1 hN
    have tle : Wv / D ≤ N / top := by
      have := q_le (t := Wv / D) (D := D) (Wv := Wv) (P := 2 ^ (64 * n1)) (Nat.two_pow_pos _) (Nat.div_mul_le_self _ _)
      rw [← hN, ← htop] at this
      rw [Nat.le_div_iff_mul_le (by omega)]
      exact this
    have q0l : N / top < 2 ^ 64 := by rw [hN']; exact quo_lem (by omega) lowl
    by_cases c2 : n = 1
    · refine ⟨N / top, q0l, tle, ?_⟩
      have e2 : decide ((n : Int) = 1) = true := decide_eq_true (by omega)
      simp only [Qa,Qb,Qc,Qd,Qe,Qf,Qg,Qh,Qi,Qj,Qk,Ql,Qm,Qn,Qo,Qp,Qq,Qr,Qs,Qt,Qu,Qv,Qw,Qx,Qy,Qz,QA,QB,QC,QD,QE,QF,QG,QH,QI,QJ,QK,QL,QM,QN,QO,QP,QQ,QR,QS,QT,QU,QV,QW,QX,QY,QZ,Q0,Q1,Q2,Q3,Q4,Q5,Q6,Q7,Q8,Q9,Xa,Xb,Xc,Xd,Xe,Xf,Xg,Xh,Xi,Xj,Xk,Xl,Xm,Xn,Xo,Xp,Xq,Xr,Xs,Xt,Xu,Xv,Xw,Xx,Xy,Xz,XA,XB,XC,XD,XE,XF,XG,XH,XI,XJ,XK,XL,XM,XN,XO,XP,XQ,XR,XS,XT,XU,XV,XW,XX,XY,XZ,X0,X1,X2,X3,X4,X5,X6,X7,X8,X9,Ya,Yb,Yc,Yd,Ye,Yf,Yg,Yh,Yi,Yj,Yk,Yl,Ym,Yn,Yo,Yp,Yq,Yr,Ys,Yt,Yu,Yv,Yw,Yx,Yy,Yz,YA,YB,YC,YD,YE,YF,YG,YH,YI,YJ,YK,YL,YM,YN,YO,YP,YQ,YR,YS,YT,YU,YV,YW,YX,YY,YZ,Y0,Y1,Y2,Y3,Y4,Y5,Y6,Y7,Y8,Y9,Za,Zb,Zc,Zd,Ze,Zf,Zg,Zh,Zi,Zj,Zk,Zl,Zm,Zn,Zo,Zp,Zq,Zr,Zs,Zt,Zu,Zv,Zw,Zx,Zy,Zz,ZA,ZB,ZC,ZD,ZE,ZF,ZG,ZH,ZI,ZJ,ZK,ZL,ZM,ZN,ZO,ZP,ZQ,ZR,ZS,ZT,ZU,ZV,ZW,ZX,ZY,ZZ,Z0,Z1,Z2,Z3,Z4,Z5,Z6,Z7,Z8,Z9,Ja,Jb,Jc,Jd,Je,Jf,Jg,Jh,Ji,Jj,Jk,Jl,Jm,Jn,Jo,Jp,Jq,Jr,Js,Jt,Ju,Jv,Jw,Jx,Jy,Jz,JA,JB,JC,JD,JE,JF,JG,JH,JI,JJ,JK,JL,JM,JN,JO,JP,JQ,JR,JS,JT,JU,JV,JW,JX,JY,JZ,J0,J1,J2,J3,J4,J5,J6,J7,J8,J9,Ka,Kb,Kc,Kd,Ke,Kf,Kg,Kh,Ki,Kj,Kk,Kl,Km,Kn,Ko,Kp,Kq,Kr,Ks,Kt,Ku,Kv,Kw,Kx,Ky,Kz,KA,KB,KC,KD,KE,KF,KG,KH,KI,KJ,KK,KL,KM,KN,KO,KP,KQ,KR,KS,KT,KU,KV,KW,KX,KY,KZ,K0,K1,K2,K3,K4,K5,K6,K7,K8,K9,Ga,Gb,Gc,Gd,Ge,Gf,Gg,Gh,Gi,Gj,Gk,Gl,Gm,Gn,Gp,Gq,Gr,Gs,Gt,Gu,Gv,Gw,Gx,Gy,Gz,GA,GB,GC,GD,GE,GF,GG,GH,GI,GJ,GK,GL,GM,GN,GO,GP,GQ,GR,GS,GT,Nat.le_refl,Nat.reduceLeDiff,List.drop_zero,us_take,us_drop,is_take,is_drop,List.take_zero,gn,if_true,if_false,Nat.reduceEqDiff,Int.reduceEq,reduceCtorEq,Nat.succ_ne_self,Nat.reduceAdd,Nat.zero_add,Nat.add_zero,Nat.reduceMul,Nat.mul_one,Nat.one_mul,Nat.zero_mul,Nat.sub_zero,decide_true,decide_false,Bool.and_self,Bool.and_true,Bool.true_and,Bool.false_and,Bool.and_false,Bool.not_true,Bool.not_false,List.length_cons,List.length_nil,us_len,is_len,tb_len,dl_len,us_set,is_set,tb_set,Nat.not_lt_zero,List.nil_append,us_rep,is_rep, k1, w1.eq, w2.eq, w3.eq, i1, i2, i3, p1, p2, p3, e1, e2, r1, l9, List.take_succ_cons, List.take_nil]
    · have e2 : decide ((n : Int) = 1) = false := decide_eq_false (by omega)
      obtain ⟨n2, hn2⟩ : ∃ z, z = n - 2 := ⟨_, rfl⟩
      obtain ⟨al, hal⟩ : ∃ z, z = a + n2 := ⟨_, rfl⟩
      have w4 : F (w64 ((n : Int) - 2)) (n2 : Int) := ⟨by unfold w64; omega⟩
      have w5 : F (w64 ((an : Int) - 2)) (al : Int) := ⟨by unfold w64; omega⟩
      have i4 := ixOf_nat (show n2 < 9 by omega)
      have i5 := ixOf_nat (show al < 19 by omega)
      have p4 := k2 n2 (by omega)
      have p5 := part_tb (w := 64) x al (show al < 19 by omega)
      obtain ⟨m2, hm2⟩ : ∃ z, d n2 = z := ⟨_, rfl⟩
      obtain ⟨u2, hu2⟩ : ∃ z, x al = z := ⟨_, rfl⟩
      have hml : m2 < 2 ^ 64 := by rw [← hm2]; exact hdl n2
      have hul : u2 < 2 ^ 64 := by rw [← hu2]; exact hxl al
      have hcmp : Wv / D * (top * 18446744073709551616 + m2) ≤ N * 18446744073709551616 + u2 := by
        have h1 := q_le (t := Wv / D) (D := D) (Wv := Wv) (P := 2 ^ (64 * n2)) (Nat.two_pow_pos _) (Nat.div_mul_le_self _ _)
        have h2 := two_parts Wv n2
        have h3 := two_parts D n2
        rw [show n2 + 1 = n1 by omega] at h2 h3
        rw [← hN, ← hxw, ← hal, hu2] at h2
        rw [← htop, ← hd, hm2] at h3
        rw [h2, h3] at h1
        exact h1
      rw [hm2] at p4
      rw [hu2] at p5
      obtain ⟨B, hB⟩ : ∃ B, B = 18446744073709551616 := ⟨_, rfl⟩
      obtain ⟨t, ht⟩ : ∃ t, t = Wv / D := ⟨_, rfl⟩
      rw [← ht] at tle hcmp
      rw [← ht]
      obtain ⟨q, r, K, hq, hr, hK, hst, hend, hrl⟩ := est64 (N := N) (u := u2) (y1 := top) (y0 := m2) (t := t) rfl (by omega) htl hul tle hcmp
      clear hcmp hN hhi hlw htop hX hx hd
      have e3 : N / top = q 0 := by rw [hq]; exact (Nat.sub_zero _).symm
      have e4 : N % top = r 0 := by rw [hr, Nat.zero_mul, Nat.add_zero]
      rw [e3, e4] at r1
      have hql : ∀ i, q i < 2 ^ 64 := fun i => by rw [hq]; omega
      have mulp : ∀ i, ∃ hh ll, Run T f_bits_Mul64 [.u 64 (q i), .u 64 m2] [] = some (.tup [.u 64 hh, .u 64 ll], []) ∧ (q i * m2 ≤ 18446744073709551616 * r i + u2 ↔ (hh < r i ∨ (hh = r i ∧ ll ≤ u2))) := fun i => ⟨_, _, r_Mul64 (hql i) hml, two_words hul⟩
      have stp : ∀ i, r (i + 1) < 2 ^ 64 → 1 ≤ q i → (q i + 2 ^ 64 - 1) % 2 ^ 64 = q (i + 1) ∧ (r i + top) % 2 ^ 64 = r (i + 1) ∧ ¬ (r (i + 1) < r i) := fun i h1 h2 => by
        rw [hq] at h2
        rw [hr] at h1
        rw [hq, hq, hr, hr]
        exact ⟨dec_lem64 h2 q0l, sum_small h1⟩
      refine ⟨if q K * m2 ≤ 18446744073709551616 * r K + u2 then q K else q (K + 1), by split <;> exact hql _, ?_, ?_⟩
      · split
        · rcases hend with ⟨g1, g2⟩ | ⟨g1, g2, g3, g4⟩
          · exact g2
          · omega
        · rcases hend with ⟨g1, g2⟩ | ⟨g1, g2, g3, g4⟩
          · omega
          · exact g4
      · have w6 := hK
        simp only [Qa,Qb,Qc,Qd,Qe,Qf,Qg,Qh,Qi,Qj,Qk,Ql,Qm,Qn,Qo,Qp,Qq,Qr,Qs,Qt,Qu,Qv,Qw,Qx,Qy,Qz,QA,QB,QC,QD,QE,QF,QG,QH,QI,QJ,QK,QL,QM,QN,QO,QP,QQ,QR,QS,QT,QU,QV,QW,QX,QY,QZ,Q0,Q1,Q2,Q3,Q4,Q5,Q6,Q7,Q8,Q9,Xa,Xb,Xc,Xd,Xe,Xf,Xg,Xh,Xi,Xj,Xk,Xl,Xm,Xn,Xo,Xp,Xq,Xr,Xs,Xt,Xu,Xv,Xw,Xx,Xy,Xz,XA,XB,XC,XD,XE,XF,XG,XH,XI,XJ,XK,XL,XM,XN,XO,XP,XQ,XR,XS,XT,XU,XV,XW,XX,XY,XZ,X0,X1,X2,X3,X4,X5,X6,X7,X8,X9,Ya,Yb,Yc,Yd,Ye,Yf,Yg,Yh,Yi,Yj,Yk,Yl,Ym,Yn,Yo,Yp,Yq,Yr,Ys,Yt,Yu,Yv,Yw,Yx,Yy,Yz,YA,YB,YC,YD,YE,YF,YG,YH,YI,YJ,YK,YL,YM,YN,YO,YP,YQ,YR,YS,YT,YU,YV,YW,YX,YY,YZ,Y0,Y1,Y2,Y3,Y4,Y5,Y6,Y7,Y8,Y9,Za,Zb,Zc,Zd,Ze,Zf,Zg,Zh,Zi,Zj,Zk,Zl,Zm,Zn,Zo,Zp,Zq,Zr,Zs,Zt,Zu,Zv,Zw,Zx,Zy,Zz,ZA,ZB,ZC,ZD,ZE,ZF,ZG,ZH,ZI,ZJ,ZK,ZL,ZM,ZN,ZO,ZP,ZQ,ZR,ZS,ZT,ZU,ZV,ZW,ZX,ZY,ZZ,Z0,Z1,Z2,Z3,Z4,Z5,Z6,Z7,Z8,Z9,Ja,Jb,Jc,Jd,Je,Jf,Jg,Jh,Ji,Jj,Jk,Jl,Jm,Jn,Jo,Jp,Jq,Jr,Js,Jt,Ju,Jv,Jw,Jx,Jy,Jz,JA,JB,JC,JD,JE,JF,JG,JH,JI,JJ,JK,JL,JM,JN,JO,JP,JQ,JR,JS,JT,JU,JV,JW,JX,JY,JZ,J0,J1,J2,J3,J4,J5,J6,J7,J8,J9,Ka,Kb,Kc,Kd,Ke,Kf,Kg,Kh,Ki,Kj,Kk,Kl,Km,Kn,Ko,Kp,Kq,Kr,Ks,Kt,Ku,Kv,Kw,Kx,Ky,Kz,KA,KB,KC,KD,KE,KF,KG,KH,KI,KJ,KK,KL,KM,KN,KO,KP,KQ,KR,KS,KT,KU,KV,KW,KX,KY,KZ,K0,K1,K2,K3,K4,K5,K6,K7,K8,K9,Ga,Gb,Gc,Gd,Ge,Gf,Gg,Gh,Gi,Gj,Gk,Gl,Gm,Gn,Gp,Gq,Gr,Gs,Gt,Gu,Gv,Gw,Gx,Gy,Gz,GA,GB,GC,GD,GE,GF,GG,GH,GI,GJ,GK,GL,GM,GN,GO,GP,GQ,GR,GS,GT,Nat.le_refl,Nat.reduceLeDiff,List.drop_zero,us_take,us_drop,is_take,is_drop,List.take_zero,gn,if_true,if_false,Nat.reduceEqDiff,Int.reduceEq,reduceCtorEq,Nat.succ_ne_self,Nat.reduceAdd,Nat.zero_add,Nat.add_zero,Nat.reduceMul,Nat.mul_one,Nat.one_mul,Nat.zero_mul,Nat.sub_zero,decide_true,decide_false,Bool.and_self,Bool.and_true,Bool.true_and,Bool.false_and,Bool.and_false,Bool.not_true,Bool.not_false,List.length_cons,List.length_nil,us_len,is_len,tb_len,dl_len,us_set,is_set,tb_set,Nat.not_lt_zero,List.nil_append,us_rep,is_rep, k1, w1.eq, w2.eq, w3.eq, i1, i2, i3, p1, p2, p3, e1, e2, r1]
        rw [loop_use T (fun i => ⟨[(0, .vr dd 0), (1, .hs 1 0 0 19 19), (2, .i (a : Int)), (7, .u 64 top), (10, .u 64 (q i)), (11, .u 64 (r i))], uH x⟩) K (.ret, ⟨[(6, .u 64 (if q K * m2 ≤ 18446744073709551616 * r K + u2 then q K else q (K + 1)))], uH x⟩) ?h0 (by simp) ?hs ?hn]
        · simp only [uH]
          simp only [Qa,Qb,Qc,Qd,Qe,Qf,Qg,Qh,Qi,Qj,Qk,Ql,Qm,Qn,Qo,Qp,Qq,Qr,Qs,Qt,Qu,Qv,Qw,Qx,Qy,Qz,QA,QB,QC,QD,QE,QF,QG,QH,QI,QJ,QK,QL,QM,QN,QO,QP,QQ,QR,QS,QT,QU,QV,QW,QX,QY,QZ,Q0,Q1,Q2,Q3,Q4,Q5,Q6,Q7,Q8,Q9,Xa,Xb,Xc,Xd,Xe,Xf,Xg,Xh,Xi,Xj,Xk,Xl,Xm,Xn,Xo,Xp,Xq,Xr,Xs,Xt,Xu,Xv,Xw,Xx,Xy,Xz,XA,XB,XC,XD,XE,XF,XG,XH,XI,XJ,XK,XL,XM,XN,XO,XP,XQ,XR,XS,XT,XU,XV,XW,XX,XY,XZ,X0,X1,X2,X3,X4,X5,X6,X7,X8,X9,Ya,Yb,Yc,Yd,Ye,Yf,Yg,Yh,Yi,Yj,Yk,Yl,Ym,Yn,Yo,Yp,Yq,Yr,Ys,Yt,Yu,Yv,Yw,Yx,Yy,Yz,YA,YB,YC,YD,YE,YF,YG,YH,YI,YJ,YK,YL,YM,YN,YO,YP,YQ,YR,YS,YT,YU,YV,YW,YX,YY,YZ,Y0,Y1,Y2,Y3,Y4,Y5,Y6,Y7,Y8,Y9,Za,Zb,Zc,Zd,Ze,Zf,Zg,Zh,Zi,Zj,Zk,Zl,Zm,Zn,Zo,Zp,Zq,Zr,Zs,Zt,Zu,Zv,Zw,Zx,Zy,Zz,ZA,ZB,ZC,ZD,ZE,ZF,ZG,ZH,ZI,ZJ,ZK,ZL,ZM,ZN,ZO,ZP,ZQ,ZR,ZS,ZT,ZU,ZV,ZW,ZX,ZY,ZZ,Z0,Z1,Z2,Z3,Z4,Z5,Z6,Z7,Z8,Z9,Ja,Jb,Jc,Jd,Je,Jf,Jg,Jh,Ji,Jj,Jk,Jl,Jm,Jn,Jo,Jp,Jq,Jr,Js,Jt,Ju,Jv,Jw,Jx,Jy,Jz,JA,JB,JC,JD,JE,JF,JG,JH,JI,JJ,JK,JL,JM,JN,JO,JP,JQ,JR,JS,JT,JU,JV,JW,JX,JY,JZ,J0,J1,J2,J3,J4,J5,J6,J7,J8,J9,Ka,Kb,Kc,Kd,Ke,Kf,Kg,Kh,Ki,Kj,Kk,Kl,Km,Kn,Ko,Kp,Kq,Kr,Ks,Kt,Ku,Kv,Kw,Kx,Ky,Kz,KA,KB,KC,KD,KE,KF,KG,KH,KI,KJ,KK,KL,KM,KN,KO,KP,KQ,KR,KS,KT,KU,KV,KW,KX,KY,KZ,K0,K1,K2,K3,K4,K5,K6,K7,K8,K9,Ga,Gb,Gc,Gd,Ge,Gf,Gg,Gh,Gi,Gj,Gk,Gl,Gm,Gn,Gp,Gq,Gr,Gs,Gt,Gu,Gv,Gw,Gx,Gy,Gz,GA,GB,GC,GD,GE,GF,GG,GH,GI,GJ,GK,GL,GM,GN,GO,GP,GQ,GR,GS,GT,Nat.le_refl,Nat.reduceLeDiff,List.drop_zero,us_take,us_drop,is_take,is_drop,List.take_zero,gn,if_true,if_false,Nat.reduceEqDiff,Int.reduceEq,reduceCtorEq,Nat.succ_ne_self,Nat.reduceAdd,Nat.zero_add,Nat.add_zero,Nat.reduceMul,Nat.mul_one,Nat.one_mul,Nat.zero_mul,Nat.sub_zero,decide_true,decide_false,Bool.and_self,Bool.and_true,Bool.true_and,Bool.false_and,Bool.and_false,Bool.not_true,Bool.not_false,List.length_cons,List.length_nil,us_len,is_len,tb_len,dl_len,us_set,is_set,tb_set,Nat.not_lt_zero,List.nil_append,us_rep,is_rep, l9, List.take_succ_cons, List.take_nil]
        · rfl
        · intro i hi
          simp only [uH]
          obtain ⟨g1, g2, g3⟩ := hst i hi
          obtain ⟨s1, s2, s3⟩ := stp i g1 g2
          have d4 : decide (r (i + 1) < r i) = false := decide_eq_false s3
          obtain ⟨hh, ll, m1, m2'⟩ := mulp i
          have m3 : ¬ (hh < r i ∨ (hh = r i ∧ ll ≤ u2)) := fun h => absurd (m2'.2 h) (by omega)
          have d1 : decide (hh < r i) = false := decide_eq_false fun h => m3 (.inl h)
          by_cases c3 : hh = r i
          · have d2 : decide (hh = r i) = true := decide_eq_true c3
            have d3 : decide (ll ≤ u2) = false := decide_eq_false fun h => m3 (.inr ⟨c3, h⟩)
            simp only [Qa,Qb,Qc,Qd,Qe,Qf,Qg,Qh,Qi,Qj,Qk,Ql,Qm,Qn,Qo,Qp,Qq,Qr,Qs,Qt,Qu,Qv,Qw,Qx,Qy,Qz,QA,QB,QC,QD,QE,QF,QG,QH,QI,QJ,QK,QL,QM,QN,QO,QP,QQ,QR,QS,QT,QU,QV,QW,QX,QY,QZ,Q0,Q1,Q2,Q3,Q4,Q5,Q6,Q7,Q8,Q9,Xa,Xb,Xc,Xd,Xe,Xf,Xg,Xh,Xi,Xj,Xk,Xl,Xm,Xn,Xo,Xp,Xq,Xr,Xs,Xt,Xu,Xv,Xw,Xx,Xy,Xz,XA,XB,XC,XD,XE,XF,XG,XH,XI,XJ,XK,XL,XM,XN,XO,XP,XQ,XR,XS,XT,XU,XV,XW,XX,XY,XZ,X0,X1,X2,X3,X4,X5,X6,X7,X8,X9,Ya,Yb,Yc,Yd,Ye,Yf,Yg,Yh,Yi,Yj,Yk,Yl,Ym,Yn,Yo,Yp,Yq,Yr,Ys,Yt,Yu,Yv,Yw,Yx,Yy,Yz,YA,YB,YC,YD,YE,YF,YG,YH,YI,YJ,YK,YL,YM,YN,YO,YP,YQ,YR,YS,YT,YU,YV,YW,YX,YY,YZ,Y0,Y1,Y2,Y3,Y4,Y5,Y6,Y7,Y8,Y9,Za,Zb,Zc,Zd,Ze,Zf,Zg,Zh,Zi,Zj,Zk,Zl,Zm,Zn,Zo,Zp,Zq,Zr,Zs,Zt,Zu,Zv,Zw,Zx,Zy,Zz,ZA,ZB,ZC,ZD,ZE,ZF,ZG,ZH,ZI,ZJ,ZK,ZL,ZM,ZN,ZO,ZP,ZQ,ZR,ZS,ZT,ZU,ZV,ZW,ZX,ZY,ZZ,Z0,Z1,Z2,Z3,Z4,Z5,Z6,Z7,Z8,Z9,Ja,Jb,Jc,Jd,Je,Jf,Jg,Jh,Ji,Jj,Jk,Jl,Jm,Jn,Jo,Jp,Jq,Jr,Js,Jt,Ju,Jv,Jw,Jx,Jy,Jz,JA,JB,JC,JD,JE,JF,JG,JH,JI,JJ,JK,JL,JM,JN,JO,JP,JQ,JR,JS,JT,JU,JV,JW,JX,JY,JZ,J0,J1,J2,J3,J4,J5,J6,J7,J8,J9,Ka,Kb,Kc,Kd,Ke,Kf,Kg,Kh,Ki,Kj,Kk,Kl,Km,Kn,Ko,Kp,Kq,Kr,Ks,Kt,Ku,Kv,Kw,Kx,Ky,Kz,KA,KB,KC,KD,KE,KF,KG,KH,KI,KJ,KK,KL,KM,KN,KO,KP,KQ,KR,KS,KT,KU,KV,KW,KX,KY,KZ,K0,K1,K2,K3,K4,K5,K6,K7,K8,K9,Ga,Gb,Gc,Gd,Ge,Gf,Gg,Gh,Gi,Gj,Gk,Gl,Gm,Gn,Gp,Gq,Gr,Gs,Gt,Gu,Gv,Gw,Gx,Gy,Gz,GA,GB,GC,GD,GE,GF,GG,GH,GI,GJ,GK,GL,GM,GN,GO,GP,GQ,GR,GS,GT,Nat.le_refl,Nat.reduceLeDiff,List.drop_zero,us_take,us_drop,is_take,is_drop,List.take_zero,gn,if_true,if_false,Nat.reduceEqDiff,Int.reduceEq,reduceCtorEq,Nat.succ_ne_self,Nat.reduceAdd,Nat.zero_add,Nat.add_zero,Nat.reduceMul,Nat.mul_one,Nat.one_mul,Nat.zero_mul,Nat.sub_zero,decide_true,decide_false,Bool.and_self,Bool.and_true,Bool.true_and,Bool.false_and,Bool.and_false,Bool.not_true,Bool.not_false,List.length_cons,List.length_nil,us_len,is_len,tb_len,dl_len,us_set,is_set,tb_set,Nat.not_lt_zero,List.nil_append,us_rep,is_rep, k1, w2.eq, w4.eq, w5.eq, i4, i5, p4, p5, m1, d1, d2, d3, s1, s2, d4]
          · have d2 : decide (hh = r i) = false := decide_eq_false c3
            simp only [Qa,Qb,Qc,Qd,Qe,Qf,Qg,Qh,Qi,Qj,Qk,Ql,Qm,Qn,Qo,Qp,Qq,Qr,Qs,Qt,Qu,Qv,Qw,Qx,Qy,Qz,QA,QB,QC,QD,QE,QF,QG,QH,QI,QJ,QK,QL,QM,QN,QO,QP,QQ,QR,QS,QT,QU,QV,QW,QX,QY,QZ,Q0,Q1,Q2,Q3,Q4,Q5,Q6,Q7,Q8,Q9,Xa,Xb,Xc,Xd,Xe,Xf,Xg,Xh,Xi,Xj,Xk,Xl,Xm,Xn,Xo,Xp,Xq,Xr,Xs,Xt,Xu,Xv,Xw,Xx,Xy,Xz,XA,XB,XC,XD,XE,XF,XG,XH,XI,XJ,XK,XL,XM,XN,XO,XP,XQ,XR,XS,XT,XU,XV,XW,XX,XY,XZ,X0,X1,X2,X3,X4,X5,X6,X7,X8,X9,Ya,Yb,Yc,Yd,Ye,Yf,Yg,Yh,Yi,Yj,Yk,Yl,Ym,Yn,Yo,Yp,Yq,Yr,Ys,Yt,Yu,Yv,Yw,Yx,Yy,Yz,YA,YB,YC,YD,YE,YF,YG,YH,YI,YJ,YK,YL,YM,YN,YO,YP,YQ,YR,YS,YT,YU,YV,YW,YX,YY,YZ,Y0,Y1,Y2,Y3,Y4,Y5,Y6,Y7,Y8,Y9,Za,Zb,Zc,Zd,Ze,Zf,Zg,Zh,Zi,Zj,Zk,Zl,Zm,Zn,Zo,Zp,Zq,Zr,Zs,Zt,Zu,Zv,Zw,Zx,Zy,Zz,ZA,ZB,ZC,ZD,ZE,ZF,ZG,ZH,ZI,ZJ,ZK,ZL,ZM,ZN,ZO,ZP,ZQ,ZR,ZS,ZT,ZU,ZV,ZW,ZX,ZY,ZZ,Z0,Z1,Z2,Z3,Z4,Z5,Z6,Z7,Z8,Z9,Ja,Jb,Jc,Jd,Je,Jf,Jg,Jh,Ji,Jj,Jk,Jl,Jm,Jn,Jo,Jp,Jq,Jr,Js,Jt,Ju,Jv,Jw,Jx,Jy,Jz,JA,JB,JC,JD,JE,JF,JG,JH,JI,JJ,JK,JL,JM,JN,JO,JP,JQ,JR,JS,JT,JU,JV,JW,JX,JY,JZ,J0,J1,J2,J3,J4,J5,J6,J7,J8,J9,Ka,Kb,Kc,Kd,Ke,Kf,Kg,Kh,Ki,Kj,Kk,Kl,Km,Kn,Ko,Kp,Kq,Kr,Ks,Kt,Ku,Kv,Kw,Kx,Ky,Kz,KA,KB,KC,KD,KE,KF,KG,KH,KI,KJ,KK,KL,KM,KN,KO,KP,KQ,KR,KS,KT,KU,KV,KW,KX,KY,KZ,K0,K1,K2,K3,K4,K5,K6,K7,K8,K9,Ga,Gb,Gc,Gd,Ge,Gf,Gg,Gh,Gi,Gj,Gk,Gl,Gm,Gn,Gp,Gq,Gr,Gs,Gt,Gu,Gv,Gw,Gx,Gy,Gz,GA,GB,GC,GD,GE,GF,GG,GH,GI,GJ,GK,GL,GM,GN,GO,GP,GQ,GR,GS,GT,Nat.le_refl,Nat.reduceLeDiff,List.drop_zero,us_take,us_drop,is_take,is_drop,List.take_zero,gn,if_true,if_false,Nat.reduceEqDiff,Int.reduceEq,reduceCtorEq,Nat.succ_ne_self,Nat.reduceAdd,Nat.zero_add,Nat.add_zero,Nat.reduceMul,Nat.mul_one,Nat.one_mul,Nat.zero_mul,Nat.sub_zero,decide_true,decide_false,Bool.and_self,Bool.and_true,Bool.true_and,Bool.false_and,Bool.and_false,Bool.not_true,Bool.not_false,List.length_cons,List.length_nil,us_len,is_len,tb_len,dl_len,us_set,is_set,tb_set,Nat.not_lt_zero,List.nil_append,us_rep,is_rep, k1, w2.eq, w4.eq, w5.eq, i4, i5, p4, p5, m1, d1, d2, s1, s2, d4]
        · simp only [uH]
          rcases hend with ⟨g1, g2⟩ | ⟨g1, g2, g3, g4⟩
          · rw [if_pos g1]
            obtain ⟨hh, ll, m1, m2'⟩ := mulp K
            rcases m2'.1 g1 with h | ⟨h1, h2⟩
            · have d1 : decide (hh < r K) = true := decide_eq_true h
              simp only [Qa,Qb,Qc,Qd,Qe,Qf,Qg,Qh,Qi,Qj,Qk,Ql,Qm,Qn,Qo,Qp,Qq,Qr,Qs,Qt,Qu,Qv,Qw,Qx,Qy,Qz,QA,QB,QC,QD,QE,QF,QG,QH,QI,QJ,QK,QL,QM,QN,QO,QP,QQ,QR,QS,QT,QU,QV,QW,QX,QY,QZ,Q0,Q1,Q2,Q3,Q4,Q5,Q6,Q7,Q8,Q9,Xa,Xb,Xc,Xd,Xe,Xf,Xg,Xh,Xi,Xj,Xk,Xl,Xm,Xn,Xo,Xp,Xq,Xr,Xs,Xt,Xu,Xv,Xw,Xx,Xy,Xz,XA,XB,XC,XD,XE,XF,XG,XH,XI,XJ,XK,XL,XM,XN,XO,XP,XQ,XR,XS,XT,XU,XV,XW,XX,XY,XZ,X0,X1,X2,X3,X4,X5,X6,X7,X8,X9,Ya,Yb,Yc,Yd,Ye,Yf,Yg,Yh,Yi,Yj,Yk,Yl,Ym,Yn,Yo,Yp,Yq,Yr,Ys,Yt,Yu,Yv,Yw,Yx,Yy,Yz,YA,YB,YC,YD,YE,YF,YG,YH,YI,YJ,YK,YL,YM,YN,YO,YP,YQ,YR,YS,YT,YU,YV,YW,YX,YY,YZ,Y0,Y1,Y2,Y3,Y4,Y5,Y6,Y7,Y8,Y9,Za,Zb,Zc,Zd,Ze,Zf,Zg,Zh,Zi,Zj,Zk,Zl,Zm,Zn,Zo,Zp,Zq,Zr,Zs,Zt,Zu,Zv,Zw,Zx,Zy,Zz,ZA,ZB,ZC,ZD,ZE,ZF,ZG,ZH,ZI,ZJ,ZK,ZL,ZM,ZN,ZO,ZP,ZQ,ZR,ZS,ZT,ZU,ZV,ZW,ZX,ZY,ZZ,Z0,Z1,Z2,Z3,Z4,Z5,Z6,Z7,Z8,Z9,Ja,Jb,Jc,Jd,Je,Jf,Jg,Jh,Ji,Jj,Jk,Jl,Jm,Jn,Jo,Jp,Jq,Jr,Js,Jt,Ju,Jv,Jw,Jx,Jy,Jz,JA,JB,JC,JD,JE,JF,JG,JH,JI,JJ,JK,JL,JM,JN,JO,JP,JQ,JR,JS,JT,JU,JV,JW,JX,JY,JZ,J0,J1,J2,J3,J4,J5,J6,J7,J8,J9,Ka,Kb,Kc,Kd,Ke,Kf,Kg,Kh,Ki,Kj,Kk,Kl,Km,Kn,Ko,Kp,Kq,Kr,Ks,Kt,Ku,Kv,Kw,Kx,Ky,Kz,KA,KB,KC,KD,KE,KF,KG,KH,KI,KJ,KK,KL,KM,KN,KO,KP,KQ,KR,KS,KT,KU,KV,KW,KX,KY,KZ,K0,K1,K2,K3,K4,K5,K6,K7,K8,K9,Ga,Gb,Gc,Gd,Ge,Gf,Gg,Gh,Gi,Gj,Gk,Gl,Gm,Gn,Gp,Gq,Gr,Gs,Gt,Gu,Gv,Gw,Gx,Gy,Gz,GA,GB,GC,GD,GE,GF,GG,GH,GI,GJ,GK,GL,GM,GN,GO,GP,GQ,GR,GS,GT,Nat.le_refl,Nat.reduceLeDiff,List.drop_zero,us_take,us_drop,is_take,is_drop,List.take_zero,gn,if_true,if_false,Nat.reduceEqDiff,Int.reduceEq,reduceCtorEq,Nat.succ_ne_self,Nat.reduceAdd,Nat.zero_add,Nat.add_zero,Nat.reduceMul,Nat.mul_one,Nat.one_mul,Nat.zero_mul,Nat.sub_zero,decide_true,decide_false,Bool.and_self,Bool.and_true,Bool.true_and,Bool.false_and,Bool.and_false,Bool.not_true,Bool.not_false,List.length_cons,List.length_nil,us_len,is_len,tb_len,dl_len,us_set,is_set,tb_set,Nat.not_lt_zero,List.nil_append,us_rep,is_rep, k1, w2.eq, w4.eq, w5.eq, i4, i5, p4, p5, m1, d1]
            · have d1 : decide (hh < r K) = false := decide_eq_false (by omega)
              have d2 : decide (hh = r K) = true := decide_eq_true h1
              have d3 : decide (ll ≤ u2) = true := decide_eq_true h2
              simp only [Qa,Qb,Qc,Qd,Qe,Qf,Qg,Qh,Qi,Qj,Qk,Ql,Qm,Qn,Qo,Qp,Qq,Qr,Qs,Qt,Qu,Qv,Qw,Qx,Qy,Qz,QA,QB,QC,QD,QE,QF,QG,QH,QI,QJ,QK,QL,QM,QN,QO,QP,QQ,QR,QS,QT,QU,QV,QW,QX,QY,QZ,Q0,Q1,Q2,Q3,Q4,Q5,Q6,Q7,Q8,Q9,Xa,Xb,Xc,Xd,Xe,Xf,Xg,Xh,Xi,Xj,Xk,Xl,Xm,Xn,Xo,Xp,Xq,Xr,Xs,Xt,Xu,Xv,Xw,Xx,Xy,Xz,XA,XB,XC,XD,XE,XF,XG,XH,XI,XJ,XK,XL,XM,XN,XO,XP,XQ,XR,XS,XT,XU,XV,XW,XX,XY,XZ,X0,X1,X2,X3,X4,X5,X6,X7,X8,X9,Ya,Yb,Yc,Yd,Ye,Yf,Yg,Yh,Yi,Yj,Yk,Yl,Ym,Yn,Yo,Yp,Yq,Yr,Ys,Yt,Yu,Yv,Yw,Yx,Yy,Yz,YA,YB,YC,YD,YE,YF,YG,YH,YI,YJ,YK,YL,YM,YN,YO,YP,YQ,YR,YS,YT,YU,YV,YW,YX,YY,YZ,Y0,Y1,Y2,Y3,Y4,Y5,Y6,Y7,Y8,Y9,Za,Zb,Zc,Zd,Ze,Zf,Zg,Zh,Zi,Zj,Zk,Zl,Zm,Zn,Zo,Zp,Zq,Zr,Zs,Zt,Zu,Zv,Zw,Zx,Zy,Zz,ZA,ZB,ZC,ZD,ZE,ZF,ZG,ZH,ZI,ZJ,ZK,ZL,ZM,ZN,ZO,ZP,ZQ,ZR,ZS,ZT,ZU,ZV,ZW,ZX,ZY,ZZ,Z0,Z1,Z2,Z3,Z4,Z5,Z6,Z7,Z8,Z9,Ja,Jb,Jc,Jd,Je,Jf,Jg,Jh,Ji,Jj,Jk,Jl,Jm,Jn,Jo,Jp,Jq,Jr,Js,Jt,Ju,Jv,Jw,Jx,Jy,Jz,JA,JB,JC,JD,JE,JF,JG,JH,JI,JJ,JK,JL,JM,JN,JO,JP,JQ,JR,JS,JT,JU,JV,JW,JX,JY,JZ,J0,J1,J2,J3,J4,J5,J6,J7,J8,J9,Ka,Kb,Kc,Kd,Ke,Kf,Kg,Kh,Ki,Kj,Kk,Kl,Km,Kn,Ko,Kp,Kq,Kr,Ks,Kt,Ku,Kv,Kw,Kx,Ky,Kz,KA,KB,KC,KD,KE,KF,KG,KH,KI,KJ,KK,KL,KM,KN,KO,KP,KQ,KR,KS,KT,KU,KV,KW,KX,KY,KZ,K0,K1,K2,K3,K4,K5,K6,K7,K8,K9,Ga,Gb,Gc,Gd,Ge,Gf,Gg,Gh,Gi,Gj,Gk,Gl,Gm,Gn,Gp,Gq,Gr,Gs,Gt,Gu,Gv,Gw,Gx,Gy,Gz,GA,GB,GC,GD,GE,GF,GG,GH,GI,GJ,GK,GL,GM,GN,GO,GP,GQ,GR,GS,GT,Nat.le_refl,Nat.reduceLeDiff,List.drop_zero,us_take,us_drop,is_take,is_drop,List.take_zero,gn,if_true,if_false,Nat.reduceEqDiff,Int.reduceEq,reduceCtorEq,Nat.succ_ne_self,Nat.reduceAdd,Nat.zero_add,Nat.add_zero,Nat.reduceMul,Nat.mul_one,Nat.one_mul,Nat.zero_mul,Nat.sub_zero,decide_true,decide_false,Bool.and_self,Bool.and_true,Bool.true_and,Bool.false_and,Bool.and_false,Bool.not_true,Bool.not_false,List.length_cons,List.length_nil,us_len,is_len,tb_len,dl_len,us_set,is_set,tb_set,Nat.not_lt_zero,List.nil_append,us_rep,is_rep, k1, w2.eq, w4.eq, w5.eq, i4, i5, p4, p5, m1, d1, d2, d3]
          · rw [if_neg (by omega)]
            have s1 : (q K + 2 ^ 64 - 1) % 2 ^ 64 = q (K + 1) := by rw [hq] at g2; rw [hq, hq]; exact dec_lem64 g2 q0l
            have s2 : (r K + top) % 2 ^ 64 < r K := by
              have h := hrl K (Nat.le_refl _)
              rw [hr] at h g1
              rw [hr]
              exact sum_great g1 h htl
            have d4 : decide ((r K + top) % 2 ^ 64 < r K) = true := decide_eq_true s2
            obtain ⟨hh, ll, m1, m2'⟩ := mulp K
            have m3 : ¬ (hh < r K ∨ (hh = r K ∧ ll ≤ u2)) := fun h => absurd (m2'.2 h) (by omega)
            have d1 : decide (hh < r K) = false := decide_eq_false fun h => m3 (.inl h)
            by_cases c3 : hh = r K
            · have d2 : decide (hh = r K) = true := decide_eq_true c3
              have d3 : decide (ll ≤ u2) = false := decide_eq_false fun h => m3 (.inr ⟨c3, h⟩)
              simp only [Qa,Qb,Qc,Qd,Qe,Qf,Qg,Qh,Qi,Qj,Qk,Ql,Qm,Qn,Qo,Qp,Qq,Qr,Qs,Qt,Qu,Qv,Qw,Qx,Qy,Qz,QA,QB,QC,QD,QE,QF,QG,QH,QI,QJ,QK,QL,QM,QN,QO,QP,QQ,QR,QS,QT,QU,QV,QW,QX,QY,QZ,Q0,Q1,Q2,Q3,Q4,Q5,Q6,Q7,Q8,Q9,Xa,Xb,Xc,Xd,Xe,Xf,Xg,Xh,Xi,Xj,Xk,Xl,Xm,Xn,Xo,Xp,Xq,Xr,Xs,Xt,Xu,Xv,Xw,Xx,Xy,Xz,XA,XB,XC,XD,XE,XF,XG,XH,XI,XJ,XK,XL,XM,XN,XO,XP,XQ,XR,XS,XT,XU,XV,XW,XX,XY,XZ,X0,X1,X2,X3,X4,X5,X6,X7,X8,X9,Ya,Yb,Yc,Yd,Ye,Yf,Yg,Yh,Yi,Yj,Yk,Yl,Ym,Yn,Yo,Yp,Yq,Yr,Ys,Yt,Yu,Yv,Yw,Yx,Yy,Yz,YA,YB,YC,YD,YE,YF,YG,YH,YI,YJ,YK,YL,YM,YN,YO,YP,YQ,YR,YS,YT,YU,YV,YW,YX,YY,YZ,Y0,Y1,Y2,Y3,Y4,Y5,Y6,Y7,Y8,Y9,Za,Zb,Zc,Zd,Ze,Zf,Zg,Zh,Zi,Zj,Zk,Zl,Zm,Zn,Zo,Zp,Zq,Zr,Zs,Zt,Zu,Zv,Zw,Zx,Zy,Zz,ZA,ZB,ZC,ZD,ZE,ZF,ZG,ZH,ZI,ZJ,ZK,ZL,ZM,ZN,ZO,ZP,ZQ,ZR,ZS,ZT,ZU,ZV,ZW,ZX,ZY,ZZ,Z0,Z1,Z2,Z3,Z4,Z5,Z6,Z7,Z8,Z9,Ja,Jb,Jc,Jd,Je,Jf,Jg,Jh,Ji,Jj,Jk,Jl,Jm,Jn,Jo,Jp,Jq,Jr,Js,Jt,Ju,Jv,Jw,Jx,Jy,Jz,JA,JB,JC,JD,JE,JF,JG,JH,JI,JJ,JK,JL,JM,JN,JO,JP,JQ,JR,JS,JT,JU,JV,JW,JX,JY,JZ,J0,J1,J2,J3,J4,J5,J6,J7,J8,J9,Ka,Kb,Kc,Kd,Ke,Kf,Kg,Kh,Ki,Kj,Kk,Kl,Km,Kn,Ko,Kp,Kq,Kr,Ks,Kt,Ku,Kv,Kw,Kx,Ky,Kz,KA,KB,KC,KD,KE,KF,KG,KH,KI,KJ,KK,KL,KM,KN,KO,KP,KQ,KR,KS,KT,KU,KV,KW,KX,KY,KZ,K0,K1,K2,K3,K4,K5,K6,K7,K8,K9,Ga,Gb,Gc,Gd,Ge,Gf,Gg,Gh,Gi,Gj,Gk,Gl,Gm,Gn,Gp,Gq,Gr,Gs,Gt,Gu,Gv,Gw,Gx,Gy,Gz,GA,GB,GC,GD,GE,GF,GG,GH,GI,GJ,GK,GL,GM,GN,GO,GP,GQ,GR,GS,GT,Nat.le_refl,Nat.reduceLeDiff,List.drop_zero,us_take,us_drop,is_take,is_drop,List.take_zero,gn,if_true,if_false,Nat.reduceEqDiff,Int.reduceEq,reduceCtorEq,Nat.succ_ne_self,Nat.reduceAdd,Nat.zero_add,Nat.add_zero,Nat.reduceMul,Nat.mul_one,Nat.one_mul,Nat.zero_mul,Nat.sub_zero,decide_true,decide_false,Bool.and_self,Bool.and_true,Bool.true_and,Bool.false_and,Bool.and_false,Bool.not_true,Bool.not_false,List.length_cons,List.length_nil,us_len,is_len,tb_len,dl_len,us_set,is_set,tb_set,Nat.not_lt_zero,List.nil_append,us_rep,is_rep, k1, w2.eq, w4.eq, w5.eq, i4, i5, p4, p5, m1, d1, d2, d3, s1, d4]
            · have d2 : decide (hh = r K) = false := decide_eq_false c3
              simp only [Qa,Qb,Qc,Qd,Qe,Qf,Qg,Qh,Qi,Qj,Qk,Ql,Qm,Qn,Qo,Qp,Qq,Qr,Qs,Qt,Qu,Qv,Qw,Qx,Qy,Qz,QA,QB,QC,QD,QE,QF,QG,QH,QI,QJ,QK,QL,QM,QN,QO,QP,QQ,QR,QS,QT,QU,QV,QW,QX,QY,QZ,Q0,Q1,Q2,Q3,Q4,Q5,Q6,Q7,Q8,Q9,Xa,Xb,Xc,Xd,Xe,Xf,Xg,Xh,Xi,Xj,Xk,Xl,Xm,Xn,Xo,Xp,Xq,Xr,Xs,Xt,Xu,Xv,Xw,Xx,Xy,Xz,XA,XB,XC,XD,XE,XF,XG,XH,XI,XJ,XK,XL,XM,XN,XO,XP,XQ,XR,XS,XT,XU,XV,XW,XX,XY,XZ,X0,X1,X2,X3,X4,X5,X6,X7,X8,X9,Ya,Yb,Yc,Yd,Ye,Yf,Yg,Yh,Yi,Yj,Yk,Yl,Ym,Yn,Yo,Yp,Yq,Yr,Ys,Yt,Yu,Yv,Yw,Yx,Yy,Yz,YA,YB,YC,YD,YE,YF,YG,YH,YI,YJ,YK,YL,YM,YN,YO,YP,YQ,YR,YS,YT,YU,YV,YW,YX,YY,YZ,Y0,Y1,Y2,Y3,Y4,Y5,Y6,Y7,Y8,Y9,Za,Zb,Zc,Zd,Ze,Zf,Zg,Zh,Zi,Zj,Zk,Zl,Zm,Zn,Zo,Zp,Zq,Zr,Zs,Zt,Zu,Zv,Zw,Zx,Zy,Zz,ZA,ZB,ZC,ZD,ZE,ZF,ZG,ZH,ZI,ZJ,ZK,ZL,ZM,ZN,ZO,ZP,ZQ,ZR,ZS,ZT,ZU,ZV,ZW,ZX,ZY,ZZ,Z0,Z1,Z2,Z3,Z4,Z5,Z6,Z7,Z8,Z9,Ja,Jb,Jc,Jd,Je,Jf,Jg,Jh,Ji,Jj,Jk,Jl,Jm,Jn,Jo,Jp,Jq,Jr,Js,Jt,Ju,Jv,Jw,Jx,Jy,Jz,JA,JB,JC,JD,JE,JF,JG,JH,JI,JJ,JK,JL,JM,JN,JO,JP,JQ,JR,JS,JT,JU,JV,JW,JX,JY,JZ,J0,J1,J2,J3,J4,J5,J6,J7,J8,J9,Ka,Kb,Kc,Kd,Ke,Kf,Kg,Kh,Ki,Kj,Kk,Kl,Km,Kn,Ko,Kp,Kq,Kr,Ks,Kt,Ku,Kv,Kw,Kx,Ky,Kz,KA,KB,KC,KD,KE,KF,KG,KH,KI,KJ,KK,KL,KM,KN,KO,KP,KQ,KR,KS,KT,KU,KV,KW,KX,KY,KZ,K0,K1,K2,K3,K4,K5,K6,K7,K8,K9,Ga,Gb,Gc,Gd,Ge,Gf,Gg,Gh,Gi,Gj,Gk,Gl,Gm,Gn,Gp,Gq,Gr,Gs,Gt,Gu,Gv,Gw,Gx,Gy,Gz,GA,GB,GC,GD,GE,GF,GG,GH,GI,GJ,GK,GL,GM,GN,GO,GP,GQ,GR,GS,GT,Nat.le_refl,Nat.reduceLeDiff,List.drop_zero,us_take,us_drop,is_take,is_drop,List.take_zero,gn,if_true,if_false,Nat.reduceEqDiff,Int.reduceEq,reduceCtorEq,Nat.succ_ne_self,Nat.reduceAdd,Nat.zero_add,Nat.add_zero,Nat.reduceMul,Nat.mul_one,Nat.one_mul,Nat.zero_mul,Nat.sub_zero,decide_true,decide_false,Bool.and_self,Bool.and_true,Bool.true_and,Bool.false_and,Bool.and_false,Bool.not_true,Bool.not_false,List.length_cons,List.length_nil,us_len,is_len,tb_len,dl_len,us_set,is_set,tb_set,Nat.not_lt_zero,List.nil_append,us_rep,is_rep, k1, w2.eq, w4.eq, w5.eq, i4, i5, p4, p5, m1, d1, d2, s1, d4]

end Mir
