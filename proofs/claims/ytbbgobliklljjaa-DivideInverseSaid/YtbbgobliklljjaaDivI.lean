/- Package divide: Inverse. Conditions: none. -/
import Derived.Test.YtbbgobliklljjaaDivH
import Derived.Test.YtbbgobliklljjaaAllN
set_option linter.unusedVariables false
set_option linter.unusedSimpArgs false
set_option exponentiation.threshold 5000
set_option maxRecDepth 20000
namespace Mir

/-- Euclid's steps: both rests, both numbers that a is taken times. -/
structure Eu where
  o : Nat
  w : Nat
  s : Nat
  t : Nat
def euLess (m : Nat) (v : Eu) : Nat := v.o / v.w * v.t % m
def euNext (m : Nat) (v : Eu) : Nat := if v.s < euLess m v then v.s + m - euLess m v else v.s - euLess m v
def euStep (m : Nat) (v : Eu) : Eu := ⟨v.w, v.o % v.w, v.t, euNext m v⟩
def euAt (m : Nat) (v : Eu) : Nat → Eu
  | 0 => v
  | k + 1 => euStep m (euAt m v k)
theorem euAt_next (m : Nat) (v : Eu) (k : Nat) : euAt m v (k + 1) = euAt m (euStep m v) k := by
  induction k with
  | zero => rfl
  | succ k ih => show euStep m (euAt m v (k + 1)) = euStep m (euAt m (euStep m v) k); rw [ih]

/-- What holds of each step. -/
structure EuOk (a m : Nat) (v : Eu) : Prop where
  s : v.s < m
  t : v.t < m
  o : v.o ≤ m
  w : v.w < m
  ws : v.s * a % m = v.o % m
  wt : v.t * a % m = v.w % m
  g : Nat.gcd v.o v.w = Nat.gcd m a

theorem next_lt {m : Nat} {v : Eu} (hs : v.s < m) : euNext m v < m := by
  have h : euLess m v < m := Nat.mod_lt _ (by omega)
  unfold euNext
  split <;> omega
theorem next_mod {m : Nat} {v : Eu} (hs : v.s < m) : (euNext m v + v.o / v.w * v.t) % m = v.s := by
  have h : euLess m v < m := Nat.mod_lt _ (by omega)
  have h1 : (euNext m v + v.o / v.w * v.t) % m = (euNext m v + euLess m v) % m := by
    rw [Nat.add_mod, euLess, Nat.add_mod (euNext m v) (v.o / v.w * v.t % m), Nat.mod_mod]
  rw [h1]
  unfold euNext
  split
  · rw [show v.s + m - euLess m v + euLess m v = v.s + m by omega, Nat.add_mod_right, Nat.mod_eq_of_lt hs]
  · rw [show v.s - euLess m v + euLess m v = v.s by omega, Nat.mod_eq_of_lt hs]

theorem mod_cancel {x y c m : Nat} (h : (x + c) % m = (y + c) % m) : x % m = y % m := by
  have h1 : (x + c + (m * c - c)) % m = (y + c + (m * c - c)) % m := by rw [Nat.add_mod, h, ← Nat.add_mod]
  rcases Nat.eq_zero_or_pos m with h0 | h0
  · subst h0; simp at h; rw [h]
  · have h2 : c ≤ m * c := Nat.le_mul_of_pos_left c h0
    rw [show x + c + (m * c - c) = x + m * c by omega, show y + c + (m * c - c) = y + m * c by omega, Nat.add_mul_mod_self_left, Nat.add_mul_mod_self_left] at h1
    exact h1

theorem eu_step {a m : Nat} {v : Eu} (h : EuOk a m v) (hw : v.w ≠ 0) : EuOk a m (euStep m v) := by
  have hwp : 0 < v.w := Nat.pos_of_ne_zero hw
  have hr : v.o % v.w < v.w := Nat.mod_lt _ hwp
  refine ⟨h.t, next_lt h.s, Nat.le_of_lt h.w, Nat.lt_trans hr h.w, h.wt, ?_, ?_⟩
  · show euNext m v * a % m = v.o % v.w % m
    apply mod_cancel (c := v.o / v.w * v.w)
    have e1 : v.o % v.w + v.o / v.w * v.w = v.o := by rw [Nat.mul_comm]; exact Nat.mod_add_div _ _
    rw [e1, ← h.ws]
    have e2 : (v.o / v.w * v.w) % m = (v.o / v.w * v.t * a) % m := by
      rw [Nat.mul_mod, ← h.wt, ← Nat.mul_mod, Nat.mul_assoc]
    rw [Nat.add_mod, e2, ← Nat.add_mod, ← Nat.add_mul, Nat.mul_mod, next_mod h.s]
    rw [Nat.mul_mod v.s a, Nat.mod_eq_of_lt h.s]
  · show Nat.gcd v.w (v.o % v.w) = _
    rw [← h.g, Nat.gcd_comm v.w, ← Nat.gcd_rec, Nat.gcd_comm]

theorem eu_stop (m : Nat) : ∀ (k : Nat) (v : Eu), v.w ≤ k → ∃ n, (∀ i, i < n → (euAt m v i).w ≠ 0) ∧ (euAt m v n).w = 0 := by
  intro k
  induction k with
  | zero => intro v hv; exact ⟨0, fun i hi => absurd hi (by omega), by show v.w = 0; omega⟩
  | succ k ih =>
    intro v hv
    by_cases h0 : v.w = 0
    · exact ⟨0, fun i hi => absurd hi (by omega), h0⟩
    · have h1 : (euStep m v).w ≤ k := by
        show v.o % v.w ≤ k
        have := Nat.mod_lt v.o (Nat.pos_of_ne_zero h0)
        omega
      obtain ⟨n, hn, he⟩ := ih (euStep m v) h1
      refine ⟨n + 1, fun i hi => ?_, by rw [euAt_next]; exact he⟩
      cases i with
      | zero => exact h0
      | succ i => rw [euAt_next]; exact hn i (by omega)
theorem eu_ok {a m : Nat} {v : Eu} {n : Nat} (h : EuOk a m v) (hn : ∀ i, i < n → (euAt m v i).w ≠ 0) : ∀ i, i ≤ n → EuOk a m (euAt m v i) := by
  intro i
  induction i with
  | zero => intro _; exact h
  | succ i ih => intro hi; exact eu_step (ih (by omega)) (hn i (by omega))

theorem lend10 {e : Env} {f : Nat} {L : List V} {b : Bool} (h : get e 10 = .loc L) (hn : L.all (noHp 2) = true) (hrun : Run T f [.vr L 0] [] = some (.b b, [])) :
    callO T e [] f [10] [.t 10] = some (.b b, []) := by
  have e1 : lendAll e [10] [ea e (.t 10)] = some [.vr L 0] := by
    rw [Qq, h, XO]
    simp [lendAll, lend, h]
  show cM T [] f (lendAll e [10] [ea e (.t 10)]) = _
  rw [e1]
  have n1 : noHp 3 (.vr L 0) = true := hn
  simp only [cM, List.all_cons, List.all_nil, n1, hrun, cL, noPtr, flat1, flat, Bool.and_self, if_true]

/-- The number that Euclid's steps leave. -/
theorem r_InverseRun {a m n : Nat} (ha : a < M) (hm : m < M) (h0 : m ≠ 0) {u : Nat → Eu} (hu : u = euAt m ⟨m, a % m, 0, 1⟩) (hw : ∀ i, i < n → (u i).w ≠ 0) (hn : (u n).w = 0) (hok : ∀ i, i < n → EuOk a m (u i)) (hoM : (u n).o < M) :
    Run T f_divide_Inverse [natv a, natv m] [] = some (if (u n).o ≠ 1 ∨ m = 1 then .tup [natv 0, .i 401] else .tup [natv (u n).s, .i 0], []) := by
  rw [Run_at T _ (show T f_divide_Inverse = some m_divide_Inverse from rfl)]
  simp only [c_divide_Inverse]
  simp only [zero9]
  have hmp := Nat.pos_of_ne_zero h0
  have k1 := r_zero hm
  have k2 : decide (m = 0) = false := decide_eq_false h0
  rw [k2] at k1
  have k3 := r_Div ha hm h0
  have k4 := r_natSmall 1 (by omega)
  rw [show (1 : Int).toNat = 1 from rfl] at k4
  have k5 := r_By hm h0
  have k6 : ∀ x y, x < M → y < M → _ := fun x y hx hy => r_ModMul hx hy hm h0
  obtain ⟨dd, hdd⟩ : ∃ l, l = dvl (m * 2 ^ shf m) (nw m) (shf m) := ⟨_, rfl⟩
  have n1 : noHp 8 (.agg [.vr dd 0]) = true := by
    have : dd.all (noHp 6) = true := by rw [hdd, dvl, List.all_append, us_noHp]; rfl
    show (dd.all (noHp 6) && true) = true
    rw [this]; rfl
  simp only [dvm, dv, ← hdd] at k5 k6
  have u0 : u 0 = ⟨m, a % m, 0, 1⟩ := by rw [hu]; rfl
  have us' : ∀ i, u (i + 1) = euStep m (u i) := fun i => by rw [hu]; rfl
  obtain ⟨g0, hg0⟩ : ∃ z, z = a / m := ⟨_, rfl⟩
  obtain ⟨r0, hr0⟩ : ∃ z, z = a % m := ⟨_, rfl⟩
  rw [← hg0, ← hr0] at k3
  rw [← hr0] at u0
  simp only [Qa,Qb,Qc,Qd,Qe,Qf,Qg,Qh,Qi,Qj,Qk,Ql,Qm,Qn,Qo,Qp,Qq,Qr,Qs,Qt,Qu,Qv,Qw,Qx,Qy,Qz,QA,QB,QC,QD,QE,QF,QG,QH,QI,QJ,QK,QL,QM,QN,QO,QP,QQ,QR,QS,QT,QU,QV,QW,QX,QY,QZ,Q0,Q1,Q2,Q3,Q4,Q5,Q6,Q7,Q8,Q9,Xa,Xb,Xc,Xd,Xe,Xf,Xg,Xh,Xi,Xj,Xk,Xl,Xm,Xn,Xo,Xp,Xq,Xr,Xs,Xt,Xu,Xv,Xw,Xx,Xy,Xz,XA,XB,XC,XD,XE,XF,XG,XH,XI,XJ,XK,XL,XM,XN,XO,XP,XQ,XR,XS,XT,XU,XV,XW,XX,XY,XZ,X0,X1,X2,X3,X4,X5,X6,X7,X8,X9,Ya,Yb,Yc,Yd,Ye,Yf,Yg,Yh,Yi,Yj,Yk,Yl,Ym,Yn,Yo,Yp,Yq,Yr,Ys,Yt,Yu,Yv,Yw,Yx,Yy,Yz,YA,YB,YC,YD,YE,YF,YG,YH,YI,YJ,YK,YL,YM,YN,YO,YP,YQ,YR,YS,YT,YU,YV,YW,YX,YY,YZ,Y0,Y1,Y2,Y3,Y4,Y5,Y6,Y7,Y8,Y9,Za,Zb,Zc,Zd,Ze,Zf,Zg,Zh,Zi,Zj,Zk,Zl,Zm,Zn,Zo,Zp,Zq,Zr,Zs,Zt,Zu,Zv,Zw,Zx,Zy,Zz,ZA,ZB,ZC,ZD,ZE,ZF,ZG,ZH,ZI,ZJ,ZK,ZL,ZM,ZN,ZO,ZP,ZQ,ZR,ZS,ZT,ZU,ZV,ZW,ZX,ZY,ZZ,Z0,Z1,Z2,Z3,Z4,Z5,Z6,Z7,Z8,Z9,Ja,Jb,Jc,Jd,Je,Jf,Jg,Jh,Ji,Jj,Jk,Jl,Jm,Jn,Jo,Jp,Jq,Jr,Js,Jt,Ju,Jv,Jw,Jx,Jy,Jz,JA,JB,JC,JD,JE,JF,JG,JH,JI,JJ,JK,JL,JM,JN,JO,JP,JQ,JR,JS,JT,JU,JV,JW,JX,JY,JZ,J0,J1,J2,J3,J4,J5,J6,J7,J8,J9,Ka,Kb,Kc,Kd,Ke,Kf,Kg,Kh,Ki,Kj,Kk,Kl,Km,Kn,Ko,Kp,Kq,Kr,Ks,Kt,Ku,Kv,Kw,Kx,Ky,Kz,KA,KB,KC,KD,KE,KF,KG,KH,KI,KJ,KK,KL,KM,KN,KO,KP,KQ,KR,KS,KT,KU,KV,KW,KX,KY,KZ,K0,K1,K2,K3,K4,K5,K6,K7,K8,K9,Ga,Gb,Gc,Gd,Ge,Gf,Gg,Gh,Gi,Gj,Gk,Gl,Gm,Gn,Gp,Gq,Gr,Gs,Gt,Gu,Gv,Gw,Gx,Gy,Gz,GA,GB,GC,GD,GE,GF,GG,GH,GI,GJ,GK,GL,GM,GN,GO,GP,GQ,GR,GS,GT,Nat.le_refl,Nat.reduceLeDiff,List.drop_zero,us_take,us_drop,is_take,is_drop,List.take_zero,gn,if_true,if_false,Nat.reduceEqDiff,Int.reduceEq,reduceCtorEq,Nat.succ_ne_self,Nat.reduceAdd,Nat.zero_add,Nat.add_zero,Nat.reduceMul,Nat.mul_one,Nat.one_mul,Nat.zero_mul,Nat.sub_zero,decide_true,decide_false,Bool.and_self,Bool.and_true,Bool.true_and,Bool.false_and,Bool.and_false,Bool.not_true,Bool.not_false,List.length_cons,List.length_nil,us_len,is_len,tb_len,dl_len,us_set,is_set,tb_set,Nat.not_lt_zero,List.nil_append,us_rep,is_rep, n1, one_part, List.set_cons_zero, k1, k3, k4, k5]
  have lz : ∀ x : Nat, x < M → ∀ e : Env, get e 10 = .loc (us 64 (dl 64 9 x)) → callO T e [] f_divide_zero [10] [.t 10] = some (.b (decide (x = 0)), []) := fun x hx e h => lend10 h (us_noHp 64 1 _) (r_zero hx)
  rw [loop_use T (fun i => ⟨[(3, .vr (us 64 (dl 64 9 m)) 0), (4, .loc (us 64 (dl 64 9 0))), (9, .loc (us 64 (dl 64 9 (u i).o))), (10, .loc (us 64 (dl 64 9 (u i).w))), (11, .loc (us 64 (dl 64 9 (u i).s))), (12, .loc (us 64 (dl 64 9 (u i).t))), (13, .loc [.vr dd 0])], []⟩) n
    (.exit 0, ⟨[(3, .vr (us 64 (dl 64 9 m)) 0), (4, .loc (us 64 (dl 64 9 0))), (9, .loc (us 64 (dl 64 9 (u n).o))), (11, .loc (us 64 (dl 64 9 (u n).s)))], []⟩) ?h0 (by simp) ?hs ?hn]
  · obtain ⟨o, ho⟩ : ∃ o, (u n).o = o := ⟨_, rfl⟩
    obtain ⟨x, hx⟩ : ∃ o, (u n).s = o := ⟨_, rfl⟩
    rw [ho] at hoM
    rw [ho, hx]
    have c1 := eq9 hoM (show 1 < M by unfold M; exact Nat.one_lt_two_pow (by omega))
    have c2 := eq9 hm (show 1 < M by unfold M; exact Nat.one_lt_two_pow (by omega))
    by_cases h1 : o = 1
    · have d1 : decide (o = 1) = true := decide_eq_true h1
      rw [d1] at c1
      by_cases h2 : m = 1
      · have d2 : decide (m = 1) = true := decide_eq_true h2
        rw [d2] at c2
        rw [if_pos (.inr h2)]
        simp only [Qa,Qb,Qc,Qd,Qe,Qf,Qg,Qh,Qi,Qj,Qk,Ql,Qm,Qn,Qo,Qp,Qq,Qr,Qs,Qt,Qu,Qv,Qw,Qx,Qy,Qz,QA,QB,QC,QD,QE,QF,QG,QH,QI,QJ,QK,QL,QM,QN,QO,QP,QQ,QR,QS,QT,QU,QV,QW,QX,QY,QZ,Q0,Q1,Q2,Q3,Q4,Q5,Q6,Q7,Q8,Q9,Xa,Xb,Xc,Xd,Xe,Xf,Xg,Xh,Xi,Xj,Xk,Xl,Xm,Xn,Xo,Xp,Xq,Xr,Xs,Xt,Xu,Xv,Xw,Xx,Xy,Xz,XA,XB,XC,XD,XE,XF,XG,XH,XI,XJ,XK,XL,XM,XN,XO,XP,XQ,XR,XS,XT,XU,XV,XW,XX,XY,XZ,X0,X1,X2,X3,X4,X5,X6,X7,X8,X9,Ya,Yb,Yc,Yd,Ye,Yf,Yg,Yh,Yi,Yj,Yk,Yl,Ym,Yn,Yo,Yp,Yq,Yr,Ys,Yt,Yu,Yv,Yw,Yx,Yy,Yz,YA,YB,YC,YD,YE,YF,YG,YH,YI,YJ,YK,YL,YM,YN,YO,YP,YQ,YR,YS,YT,YU,YV,YW,YX,YY,YZ,Y0,Y1,Y2,Y3,Y4,Y5,Y6,Y7,Y8,Y9,Za,Zb,Zc,Zd,Ze,Zf,Zg,Zh,Zi,Zj,Zk,Zl,Zm,Zn,Zo,Zp,Zq,Zr,Zs,Zt,Zu,Zv,Zw,Zx,Zy,Zz,ZA,ZB,ZC,ZD,ZE,ZF,ZG,ZH,ZI,ZJ,ZK,ZL,ZM,ZN,ZO,ZP,ZQ,ZR,ZS,ZT,ZU,ZV,ZW,ZX,ZY,ZZ,Z0,Z1,Z2,Z3,Z4,Z5,Z6,Z7,Z8,Z9,Ja,Jb,Jc,Jd,Je,Jf,Jg,Jh,Ji,Jj,Jk,Jl,Jm,Jn,Jo,Jp,Jq,Jr,Js,Jt,Ju,Jv,Jw,Jx,Jy,Jz,JA,JB,JC,JD,JE,JF,JG,JH,JI,JJ,JK,JL,JM,JN,JO,JP,JQ,JR,JS,JT,JU,JV,JW,JX,JY,JZ,J0,J1,J2,J3,J4,J5,J6,J7,J8,J9,Ka,Kb,Kc,Kd,Ke,Kf,Kg,Kh,Ki,Kj,Kk,Kl,Km,Kn,Ko,Kp,Kq,Kr,Ks,Kt,Ku,Kv,Kw,Kx,Ky,Kz,KA,KB,KC,KD,KE,KF,KG,KH,KI,KJ,KK,KL,KM,KN,KO,KP,KQ,KR,KS,KT,KU,KV,KW,KX,KY,KZ,K0,K1,K2,K3,K4,K5,K6,K7,K8,K9,Ga,Gb,Gc,Gd,Ge,Gf,Gg,Gh,Gi,Gj,Gk,Gl,Gm,Gn,Gp,Gq,Gr,Gs,Gt,Gu,Gv,Gw,Gx,Gy,Gz,GA,GB,GC,GD,GE,GF,GG,GH,GI,GJ,GK,GL,GM,GN,GO,GP,GQ,GR,GS,GT,Nat.le_refl,Nat.reduceLeDiff,List.drop_zero,us_take,us_drop,is_take,is_drop,List.take_zero,gn,if_true,if_false,Nat.reduceEqDiff,Int.reduceEq,reduceCtorEq,Nat.succ_ne_self,Nat.reduceAdd,Nat.zero_add,Nat.add_zero,Nat.reduceMul,Nat.mul_one,Nat.one_mul,Nat.zero_mul,Nat.sub_zero,decide_true,decide_false,Bool.and_self,Bool.and_true,Bool.true_and,Bool.false_and,Bool.and_false,Bool.not_true,Bool.not_false,List.length_cons,List.length_nil,us_len,is_len,tb_len,dl_len,us_set,is_set,tb_set,Nat.not_lt_zero,List.nil_append,us_rep,is_rep, k4, c1, c2, Bool.not_true, Bool.not_false]
      · have d2 : decide (m = 1) = false := decide_eq_false h2
        rw [d2] at c2
        rw [if_neg (by omega)]
        simp only [Qa,Qb,Qc,Qd,Qe,Qf,Qg,Qh,Qi,Qj,Qk,Ql,Qm,Qn,Qo,Qp,Qq,Qr,Qs,Qt,Qu,Qv,Qw,Qx,Qy,Qz,QA,QB,QC,QD,QE,QF,QG,QH,QI,QJ,QK,QL,QM,QN,QO,QP,QQ,QR,QS,QT,QU,QV,QW,QX,QY,QZ,Q0,Q1,Q2,Q3,Q4,Q5,Q6,Q7,Q8,Q9,Xa,Xb,Xc,Xd,Xe,Xf,Xg,Xh,Xi,Xj,Xk,Xl,Xm,Xn,Xo,Xp,Xq,Xr,Xs,Xt,Xu,Xv,Xw,Xx,Xy,Xz,XA,XB,XC,XD,XE,XF,XG,XH,XI,XJ,XK,XL,XM,XN,XO,XP,XQ,XR,XS,XT,XU,XV,XW,XX,XY,XZ,X0,X1,X2,X3,X4,X5,X6,X7,X8,X9,Ya,Yb,Yc,Yd,Ye,Yf,Yg,Yh,Yi,Yj,Yk,Yl,Ym,Yn,Yo,Yp,Yq,Yr,Ys,Yt,Yu,Yv,Yw,Yx,Yy,Yz,YA,YB,YC,YD,YE,YF,YG,YH,YI,YJ,YK,YL,YM,YN,YO,YP,YQ,YR,YS,YT,YU,YV,YW,YX,YY,YZ,Y0,Y1,Y2,Y3,Y4,Y5,Y6,Y7,Y8,Y9,Za,Zb,Zc,Zd,Ze,Zf,Zg,Zh,Zi,Zj,Zk,Zl,Zm,Zn,Zo,Zp,Zq,Zr,Zs,Zt,Zu,Zv,Zw,Zx,Zy,Zz,ZA,ZB,ZC,ZD,ZE,ZF,ZG,ZH,ZI,ZJ,ZK,ZL,ZM,ZN,ZO,ZP,ZQ,ZR,ZS,ZT,ZU,ZV,ZW,ZX,ZY,ZZ,Z0,Z1,Z2,Z3,Z4,Z5,Z6,Z7,Z8,Z9,Ja,Jb,Jc,Jd,Je,Jf,Jg,Jh,Ji,Jj,Jk,Jl,Jm,Jn,Jo,Jp,Jq,Jr,Js,Jt,Ju,Jv,Jw,Jx,Jy,Jz,JA,JB,JC,JD,JE,JF,JG,JH,JI,JJ,JK,JL,JM,JN,JO,JP,JQ,JR,JS,JT,JU,JV,JW,JX,JY,JZ,J0,J1,J2,J3,J4,J5,J6,J7,J8,J9,Ka,Kb,Kc,Kd,Ke,Kf,Kg,Kh,Ki,Kj,Kk,Kl,Km,Kn,Ko,Kp,Kq,Kr,Ks,Kt,Ku,Kv,Kw,Kx,Ky,Kz,KA,KB,KC,KD,KE,KF,KG,KH,KI,KJ,KK,KL,KM,KN,KO,KP,KQ,KR,KS,KT,KU,KV,KW,KX,KY,KZ,K0,K1,K2,K3,K4,K5,K6,K7,K8,K9,Ga,Gb,Gc,Gd,Ge,Gf,Gg,Gh,Gi,Gj,Gk,Gl,Gm,Gn,Gp,Gq,Gr,Gs,Gt,Gu,Gv,Gw,Gx,Gy,Gz,GA,GB,GC,GD,GE,GF,GG,GH,GI,GJ,GK,GL,GM,GN,GO,GP,GQ,GR,GS,GT,Nat.le_refl,Nat.reduceLeDiff,List.drop_zero,us_take,us_drop,is_take,is_drop,List.take_zero,gn,if_true,if_false,Nat.reduceEqDiff,Int.reduceEq,reduceCtorEq,Nat.succ_ne_self,Nat.reduceAdd,Nat.zero_add,Nat.add_zero,Nat.reduceMul,Nat.mul_one,Nat.one_mul,Nat.zero_mul,Nat.sub_zero,decide_true,decide_false,Bool.and_self,Bool.and_true,Bool.true_and,Bool.false_and,Bool.and_false,Bool.not_true,Bool.not_false,List.length_cons,List.length_nil,us_len,is_len,tb_len,dl_len,us_set,is_set,tb_set,Nat.not_lt_zero,List.nil_append,us_rep,is_rep, k4, c1, c2, Bool.not_true, Bool.not_false]
    · have d1 : decide (o = 1) = false := decide_eq_false h1
      rw [d1] at c1
      rw [if_pos (.inl h1)]
      simp only [Qa,Qb,Qc,Qd,Qe,Qf,Qg,Qh,Qi,Qj,Qk,Ql,Qm,Qn,Qo,Qp,Qq,Qr,Qs,Qt,Qu,Qv,Qw,Qx,Qy,Qz,QA,QB,QC,QD,QE,QF,QG,QH,QI,QJ,QK,QL,QM,QN,QO,QP,QQ,QR,QS,QT,QU,QV,QW,QX,QY,QZ,Q0,Q1,Q2,Q3,Q4,Q5,Q6,Q7,Q8,Q9,Xa,Xb,Xc,Xd,Xe,Xf,Xg,Xh,Xi,Xj,Xk,Xl,Xm,Xn,Xo,Xp,Xq,Xr,Xs,Xt,Xu,Xv,Xw,Xx,Xy,Xz,XA,XB,XC,XD,XE,XF,XG,XH,XI,XJ,XK,XL,XM,XN,XO,XP,XQ,XR,XS,XT,XU,XV,XW,XX,XY,XZ,X0,X1,X2,X3,X4,X5,X6,X7,X8,X9,Ya,Yb,Yc,Yd,Ye,Yf,Yg,Yh,Yi,Yj,Yk,Yl,Ym,Yn,Yo,Yp,Yq,Yr,Ys,Yt,Yu,Yv,Yw,Yx,Yy,Yz,YA,YB,YC,YD,YE,YF,YG,YH,YI,YJ,YK,YL,YM,YN,YO,YP,YQ,YR,YS,YT,YU,YV,YW,YX,YY,YZ,Y0,Y1,Y2,Y3,Y4,Y5,Y6,Y7,Y8,Y9,Za,Zb,Zc,Zd,Ze,Zf,Zg,Zh,Zi,Zj,Zk,Zl,Zm,Zn,Zo,Zp,Zq,Zr,Zs,Zt,Zu,Zv,Zw,Zx,Zy,Zz,ZA,ZB,ZC,ZD,ZE,ZF,ZG,ZH,ZI,ZJ,ZK,ZL,ZM,ZN,ZO,ZP,ZQ,ZR,ZS,ZT,ZU,ZV,ZW,ZX,ZY,ZZ,Z0,Z1,Z2,Z3,Z4,Z5,Z6,Z7,Z8,Z9,Ja,Jb,Jc,Jd,Je,Jf,Jg,Jh,Ji,Jj,Jk,Jl,Jm,Jn,Jo,Jp,Jq,Jr,Js,Jt,Ju,Jv,Jw,Jx,Jy,Jz,JA,JB,JC,JD,JE,JF,JG,JH,JI,JJ,JK,JL,JM,JN,JO,JP,JQ,JR,JS,JT,JU,JV,JW,JX,JY,JZ,J0,J1,J2,J3,J4,J5,J6,J7,J8,J9,Ka,Kb,Kc,Kd,Ke,Kf,Kg,Kh,Ki,Kj,Kk,Kl,Km,Kn,Ko,Kp,Kq,Kr,Ks,Kt,Ku,Kv,Kw,Kx,Ky,Kz,KA,KB,KC,KD,KE,KF,KG,KH,KI,KJ,KK,KL,KM,KN,KO,KP,KQ,KR,KS,KT,KU,KV,KW,KX,KY,KZ,K0,K1,K2,K3,K4,K5,K6,K7,K8,K9,Ga,Gb,Gc,Gd,Ge,Gf,Gg,Gh,Gi,Gj,Gk,Gl,Gm,Gn,Gp,Gq,Gr,Gs,Gt,Gu,Gv,Gw,Gx,Gy,Gz,GA,GB,GC,GD,GE,GF,GG,GH,GI,GJ,GK,GL,GM,GN,GO,GP,GQ,GR,GS,GT,Nat.le_refl,Nat.reduceLeDiff,List.drop_zero,us_take,us_drop,is_take,is_drop,List.take_zero,gn,if_true,if_false,Nat.reduceEqDiff,Int.reduceEq,reduceCtorEq,Nat.succ_ne_self,Nat.reduceAdd,Nat.zero_add,Nat.add_zero,Nat.reduceMul,Nat.mul_one,Nat.one_mul,Nat.zero_mul,Nat.sub_zero,decide_true,decide_false,Bool.and_self,Bool.and_true,Bool.true_and,Bool.false_and,Bool.and_false,Bool.not_true,Bool.not_false,List.length_cons,List.length_nil,us_len,is_len,tb_len,dl_len,us_set,is_set,tb_set,Nat.not_lt_zero,List.nil_append,us_rep,is_rep, k4, c1, Bool.not_true, Bool.not_false]
  · rw [u0]
  · intro i hi
    have hk := hok i hi
    have hw' := hw i hi
    obtain ⟨v, hv⟩ : ∃ v, v = u i := ⟨_, rfl⟩
    rw [us' i, ← hv]
    rw [← hv] at hk hw'
    have e1 : (euStep m v).o = v.w := rfl
    have e2 : (euStep m v).w = v.o % v.w := rfl
    have e3 : (euStep m v).s = v.t := rfl
    have e4 : (euStep m v).t = euNext m v := rfl
    rw [e1, e2, e3, e4]
    have hoM' : v.o < M := Nat.lt_of_le_of_lt hk.o hm
    have hwM : v.w < M := Nat.lt_trans hk.w hm
    have hsM : v.s < M := Nat.lt_trans hk.s hm
    have htM : v.t < M := Nat.lt_trans hk.t hm
    have l1 := lz v.w hwM
    have d1 : decide (v.w = 0) = false := decide_eq_false hw'
    rw [d1] at l1
    have l2 := r_Div hoM' hwM hw'
    have hqM : v.o / v.w < M := Nat.lt_of_le_of_lt (Nat.div_le_self _ _) hoM'
    have l3 := k6 (v.o / v.w) v.t hqM htM
    have hle : v.o / v.w * v.t % m = euLess m v := rfl
    rw [hle] at l3
    have hlm : euLess m v < m := Nat.mod_lt _ hmp
    have l4 := r_natSub (x := v.s) (y := euLess m v) hsM (Nat.lt_trans hlm hm)
    have hss := hk.s
    obtain ⟨nx, hnx⟩ : ∃ z, z = euNext m v := ⟨_, rfl⟩
    have hnx' : nx = if v.s < euLess m v then v.s + m - euLess m v else v.s - euLess m v := hnx
    rw [← hnx]
    obtain ⟨le, hle'⟩ : ∃ z, z = euLess m v := ⟨_, rfl⟩
    rw [← hle'] at l3 l4 hlm hnx'
    obtain ⟨q, hq⟩ : ∃ z, z = v.o / v.w := ⟨_, rfl⟩
    obtain ⟨rr, hrr⟩ : ∃ z, z = v.o % v.w := ⟨_, rfl⟩
    rw [← hq, ← hrr] at l2
    rw [← hq] at l3
    rw [← hrr]
    obtain ⟨vo, hvo⟩ : ∃ z, z = v.o := ⟨_, rfl⟩
    obtain ⟨vw, hvw⟩ : ∃ z, z = v.w := ⟨_, rfl⟩
    obtain ⟨vs, hvs⟩ : ∃ z, z = v.s := ⟨_, rfl⟩
    obtain ⟨vt, hvt⟩ : ∃ z, z = v.t := ⟨_, rfl⟩
    rw [← hvw] at l1 l2
    rw [← hvo] at l2
    rw [← hvt] at l3
    rw [← hvs] at l4 hsM hss hnx'
    rw [← hvo, ← hvw, ← hvs, ← hvt]
    by_cases hlt : vs < le
    · have d2 : decide (vs < le) = true := decide_eq_true hlt
      rw [if_pos hlt] at hnx'
      rw [d2, Nat.mod_eq_of_lt (show vs + M - le < M by omega)] at l4
      have l5 := r_natAdd (x := vs + M - le) (y := m) (by omega) hm
      have e5 : (vs + M - le + m) % M = nx := by
        rw [show vs + M - le + m = nx + M by omega, Nat.add_mod_right, Nat.mod_eq_of_lt (by omega)]
      rw [e5] at l5
      obtain ⟨y, hy⟩ : ∃ y, y = vs + M - le := ⟨_, rfl⟩
      rw [← hy] at l4 l5
      simp only [Qa,Qb,Qc,Qd,Qe,Qf,Qg,Qh,Qi,Qj,Qk,Ql,Qm,Qn,Qo,Qp,Qq,Qr,Qs,Qt,Qu,Qv,Qw,Qx,Qy,Qz,QA,QB,QC,QD,QE,QF,QG,QH,QI,QJ,QK,QL,QM,QN,QO,QP,QQ,QR,QS,QT,QU,QV,QW,QX,QY,QZ,Q0,Q1,Q2,Q3,Q4,Q5,Q6,Q7,Q8,Q9,Xa,Xb,Xc,Xd,Xe,Xf,Xg,Xh,Xi,Xj,Xk,Xl,Xm,Xn,Xo,Xp,Xq,Xr,Xs,Xt,Xu,Xv,Xw,Xx,Xy,Xz,XA,XB,XC,XD,XE,XF,XG,XH,XI,XJ,XK,XL,XM,XN,XO,XP,XQ,XR,XS,XT,XU,XV,XW,XX,XY,XZ,X0,X1,X2,X3,X4,X5,X6,X7,X8,X9,Ya,Yb,Yc,Yd,Ye,Yf,Yg,Yh,Yi,Yj,Yk,Yl,Ym,Yn,Yo,Yp,Yq,Yr,Ys,Yt,Yu,Yv,Yw,Yx,Yy,Yz,YA,YB,YC,YD,YE,YF,YG,YH,YI,YJ,YK,YL,YM,YN,YO,YP,YQ,YR,YS,YT,YU,YV,YW,YX,YY,YZ,Y0,Y1,Y2,Y3,Y4,Y5,Y6,Y7,Y8,Y9,Za,Zb,Zc,Zd,Ze,Zf,Zg,Zh,Zi,Zj,Zk,Zl,Zm,Zn,Zo,Zp,Zq,Zr,Zs,Zt,Zu,Zv,Zw,Zx,Zy,Zz,ZA,ZB,ZC,ZD,ZE,ZF,ZG,ZH,ZI,ZJ,ZK,ZL,ZM,ZN,ZO,ZP,ZQ,ZR,ZS,ZT,ZU,ZV,ZW,ZX,ZY,ZZ,Z0,Z1,Z2,Z3,Z4,Z5,Z6,Z7,Z8,Z9,Ja,Jb,Jc,Jd,Je,Jf,Jg,Jh,Ji,Jj,Jk,Jl,Jm,Jn,Jo,Jp,Jq,Jr,Js,Jt,Ju,Jv,Jw,Jx,Jy,Jz,JA,JB,JC,JD,JE,JF,JG,JH,JI,JJ,JK,JL,JM,JN,JO,JP,JQ,JR,JS,JT,JU,JV,JW,JX,JY,JZ,J0,J1,J2,J3,J4,J5,J6,J7,J8,J9,Ka,Kb,Kc,Kd,Ke,Kf,Kg,Kh,Ki,Kj,Kk,Kl,Km,Kn,Ko,Kp,Kq,Kr,Ks,Kt,Ku,Kv,Kw,Kx,Ky,Kz,KA,KB,KC,KD,KE,KF,KG,KH,KI,KJ,KK,KL,KM,KN,KO,KP,KQ,KR,KS,KT,KU,KV,KW,KX,KY,KZ,K0,K1,K2,K3,K4,K5,K6,K7,K8,K9,Ga,Gb,Gc,Gd,Ge,Gf,Gg,Gh,Gi,Gj,Gk,Gl,Gm,Gn,Gp,Gq,Gr,Gs,Gt,Gu,Gv,Gw,Gx,Gy,Gz,GA,GB,GC,GD,GE,GF,GG,GH,GI,GJ,GK,GL,GM,GN,GO,GP,GQ,GR,GS,GT,Nat.le_refl,Nat.reduceLeDiff,List.drop_zero,us_take,us_drop,is_take,is_drop,List.take_zero,gn,if_true,if_false,Nat.reduceEqDiff,Int.reduceEq,reduceCtorEq,Nat.succ_ne_self,Nat.reduceAdd,Nat.zero_add,Nat.add_zero,Nat.reduceMul,Nat.mul_one,Nat.one_mul,Nat.zero_mul,Nat.sub_zero,decide_true,decide_false,Bool.and_self,Bool.and_true,Bool.true_and,Bool.false_and,Bool.and_false,Bool.not_true,Bool.not_false,List.length_cons,List.length_nil,us_len,is_len,tb_len,dl_len,us_set,is_set,tb_set,Nat.not_lt_zero,List.nil_append,us_rep,is_rep, n1, one_part, l1, l2, l3, l4, l5, Bool.not_false, natv_noHp]
    · have d2 : decide (vs < le) = false := decide_eq_false hlt
      rw [if_neg hlt] at hnx'
      rw [d2, show vs + M - le = nx + M by omega, Nat.add_mod_right, Nat.mod_eq_of_lt (show nx < M by omega)] at l4
      simp only [Qa,Qb,Qc,Qd,Qe,Qf,Qg,Qh,Qi,Qj,Qk,Ql,Qm,Qn,Qo,Qp,Qq,Qr,Qs,Qt,Qu,Qv,Qw,Qx,Qy,Qz,QA,QB,QC,QD,QE,QF,QG,QH,QI,QJ,QK,QL,QM,QN,QO,QP,QQ,QR,QS,QT,QU,QV,QW,QX,QY,QZ,Q0,Q1,Q2,Q3,Q4,Q5,Q6,Q7,Q8,Q9,Xa,Xb,Xc,Xd,Xe,Xf,Xg,Xh,Xi,Xj,Xk,Xl,Xm,Xn,Xo,Xp,Xq,Xr,Xs,Xt,Xu,Xv,Xw,Xx,Xy,Xz,XA,XB,XC,XD,XE,XF,XG,XH,XI,XJ,XK,XL,XM,XN,XO,XP,XQ,XR,XS,XT,XU,XV,XW,XX,XY,XZ,X0,X1,X2,X3,X4,X5,X6,X7,X8,X9,Ya,Yb,Yc,Yd,Ye,Yf,Yg,Yh,Yi,Yj,Yk,Yl,Ym,Yn,Yo,Yp,Yq,Yr,Ys,Yt,Yu,Yv,Yw,Yx,Yy,Yz,YA,YB,YC,YD,YE,YF,YG,YH,YI,YJ,YK,YL,YM,YN,YO,YP,YQ,YR,YS,YT,YU,YV,YW,YX,YY,YZ,Y0,Y1,Y2,Y3,Y4,Y5,Y6,Y7,Y8,Y9,Za,Zb,Zc,Zd,Ze,Zf,Zg,Zh,Zi,Zj,Zk,Zl,Zm,Zn,Zo,Zp,Zq,Zr,Zs,Zt,Zu,Zv,Zw,Zx,Zy,Zz,ZA,ZB,ZC,ZD,ZE,ZF,ZG,ZH,ZI,ZJ,ZK,ZL,ZM,ZN,ZO,ZP,ZQ,ZR,ZS,ZT,ZU,ZV,ZW,ZX,ZY,ZZ,Z0,Z1,Z2,Z3,Z4,Z5,Z6,Z7,Z8,Z9,Ja,Jb,Jc,Jd,Je,Jf,Jg,Jh,Ji,Jj,Jk,Jl,Jm,Jn,Jo,Jp,Jq,Jr,Js,Jt,Ju,Jv,Jw,Jx,Jy,Jz,JA,JB,JC,JD,JE,JF,JG,JH,JI,JJ,JK,JL,JM,JN,JO,JP,JQ,JR,JS,JT,JU,JV,JW,JX,JY,JZ,J0,J1,J2,J3,J4,J5,J6,J7,J8,J9,Ka,Kb,Kc,Kd,Ke,Kf,Kg,Kh,Ki,Kj,Kk,Kl,Km,Kn,Ko,Kp,Kq,Kr,Ks,Kt,Ku,Kv,Kw,Kx,Ky,Kz,KA,KB,KC,KD,KE,KF,KG,KH,KI,KJ,KK,KL,KM,KN,KO,KP,KQ,KR,KS,KT,KU,KV,KW,KX,KY,KZ,K0,K1,K2,K3,K4,K5,K6,K7,K8,K9,Ga,Gb,Gc,Gd,Ge,Gf,Gg,Gh,Gi,Gj,Gk,Gl,Gm,Gn,Gp,Gq,Gr,Gs,Gt,Gu,Gv,Gw,Gx,Gy,Gz,GA,GB,GC,GD,GE,GF,GG,GH,GI,GJ,GK,GL,GM,GN,GO,GP,GQ,GR,GS,GT,Nat.le_refl,Nat.reduceLeDiff,List.drop_zero,us_take,us_drop,is_take,is_drop,List.take_zero,gn,if_true,if_false,Nat.reduceEqDiff,Int.reduceEq,reduceCtorEq,Nat.succ_ne_self,Nat.reduceAdd,Nat.zero_add,Nat.add_zero,Nat.reduceMul,Nat.mul_one,Nat.one_mul,Nat.zero_mul,Nat.sub_zero,decide_true,decide_false,Bool.and_self,Bool.and_true,Bool.true_and,Bool.false_and,Bool.and_false,Bool.not_true,Bool.not_false,List.length_cons,List.length_nil,us_len,is_len,tb_len,dl_len,us_set,is_set,tb_set,Nat.not_lt_zero,List.nil_append,us_rep,is_rep, n1, one_part, l1, l2, l3, l4, Bool.not_false, natv_noHp]
  · have l1 := lz 0 (by unfold M; exact Nat.two_pow_pos _)
    rw [show decide ((0 : Nat) = 0) = true from rfl] at l1
    rw [hn]
    simp only [Qa,Qb,Qc,Qd,Qe,Qf,Qg,Qh,Qi,Qj,Qk,Ql,Qm,Qn,Qo,Qp,Qq,Qr,Qs,Qt,Qu,Qv,Qw,Qx,Qy,Qz,QA,QB,QC,QD,QE,QF,QG,QH,QI,QJ,QK,QL,QM,QN,QO,QP,QQ,QR,QS,QT,QU,QV,QW,QX,QY,QZ,Q0,Q1,Q2,Q3,Q4,Q5,Q6,Q7,Q8,Q9,Xa,Xb,Xc,Xd,Xe,Xf,Xg,Xh,Xi,Xj,Xk,Xl,Xm,Xn,Xo,Xp,Xq,Xr,Xs,Xt,Xu,Xv,Xw,Xx,Xy,Xz,XA,XB,XC,XD,XE,XF,XG,XH,XI,XJ,XK,XL,XM,XN,XO,XP,XQ,XR,XS,XT,XU,XV,XW,XX,XY,XZ,X0,X1,X2,X3,X4,X5,X6,X7,X8,X9,Ya,Yb,Yc,Yd,Ye,Yf,Yg,Yh,Yi,Yj,Yk,Yl,Ym,Yn,Yo,Yp,Yq,Yr,Ys,Yt,Yu,Yv,Yw,Yx,Yy,Yz,YA,YB,YC,YD,YE,YF,YG,YH,YI,YJ,YK,YL,YM,YN,YO,YP,YQ,YR,YS,YT,YU,YV,YW,YX,YY,YZ,Y0,Y1,Y2,Y3,Y4,Y5,Y6,Y7,Y8,Y9,Za,Zb,Zc,Zd,Ze,Zf,Zg,Zh,Zi,Zj,Zk,Zl,Zm,Zn,Zo,Zp,Zq,Zr,Zs,Zt,Zu,Zv,Zw,Zx,Zy,Zz,ZA,ZB,ZC,ZD,ZE,ZF,ZG,ZH,ZI,ZJ,ZK,ZL,ZM,ZN,ZO,ZP,ZQ,ZR,ZS,ZT,ZU,ZV,ZW,ZX,ZY,ZZ,Z0,Z1,Z2,Z3,Z4,Z5,Z6,Z7,Z8,Z9,Ja,Jb,Jc,Jd,Je,Jf,Jg,Jh,Ji,Jj,Jk,Jl,Jm,Jn,Jo,Jp,Jq,Jr,Js,Jt,Ju,Jv,Jw,Jx,Jy,Jz,JA,JB,JC,JD,JE,JF,JG,JH,JI,JJ,JK,JL,JM,JN,JO,JP,JQ,JR,JS,JT,JU,JV,JW,JX,JY,JZ,J0,J1,J2,J3,J4,J5,J6,J7,J8,J9,Ka,Kb,Kc,Kd,Ke,Kf,Kg,Kh,Ki,Kj,Kk,Kl,Km,Kn,Ko,Kp,Kq,Kr,Ks,Kt,Ku,Kv,Kw,Kx,Ky,Kz,KA,KB,KC,KD,KE,KF,KG,KH,KI,KJ,KK,KL,KM,KN,KO,KP,KQ,KR,KS,KT,KU,KV,KW,KX,KY,KZ,K0,K1,K2,K3,K4,K5,K6,K7,K8,K9,Ga,Gb,Gc,Gd,Ge,Gf,Gg,Gh,Gi,Gj,Gk,Gl,Gm,Gn,Gp,Gq,Gr,Gs,Gt,Gu,Gv,Gw,Gx,Gy,Gz,GA,GB,GC,GD,GE,GF,GG,GH,GI,GJ,GK,GL,GM,GN,GO,GP,GQ,GR,GS,GT,Nat.le_refl,Nat.reduceLeDiff,List.drop_zero,us_take,us_drop,is_take,is_drop,List.take_zero,gn,if_true,if_false,Nat.reduceEqDiff,Int.reduceEq,reduceCtorEq,Nat.succ_ne_self,Nat.reduceAdd,Nat.zero_add,Nat.add_zero,Nat.reduceMul,Nat.mul_one,Nat.one_mul,Nat.zero_mul,Nat.sub_zero,decide_true,decide_false,Bool.and_self,Bool.and_true,Bool.true_and,Bool.false_and,Bool.and_false,Bool.not_true,Bool.not_false,List.length_cons,List.length_nil,us_len,is_len,tb_len,dl_len,us_set,is_set,tb_set,Nat.not_lt_zero,List.nil_append,us_rep,is_rep, l1, Bool.not_true]

theorem gcd_zero_r (x : Nat) : Nat.gcd x 0 = x := Nat.gcd_zero_right x
/-- A number that has an inverse: what is given back. -/
theorem r_Inverse {a m : Nat} (ha : a < M) (hm : m < M) (h0 : m ≠ 0) (h1 : m ≠ 1) (hg : Nat.gcd m a = 1) : ∃ i, i < m ∧ i * a % m = 1 ∧ Run T f_divide_Inverse [natv a, natv m] [] = some (.tup [natv i, .i 0], []) := by
  have hmp := Nat.pos_of_ne_zero h0
  have e0 : EuOk a m ⟨m, a % m, 0, 1⟩ := ⟨by simp only; omega, by simp only; omega, by simp only; omega, Nat.mod_lt _ hmp, by simp, by simp, by rw [Nat.gcd_comm]; exact (Nat.gcd_rec m a).symm⟩
  obtain ⟨n, hw, hn⟩ := eu_stop m (a % m) ⟨m, a % m, 0, 1⟩ (Nat.le_refl _)
  have hok := eu_ok e0 hw
  have he := hok n (Nat.le_refl n)
  have ho : (euAt m ⟨m, a % m, 0, 1⟩ n).o = 1 := by
    have := he.g
    rw [hn, Nat.gcd_zero_right, hg] at this
    exact this
  refine ⟨_, he.s, ?_, ?_⟩
  · rw [he.ws, ho]; exact Nat.mod_eq_of_lt (by omega)
  · rw [r_InverseRun ha hm h0 rfl hw hn (fun i hi => hok i (by omega)) (by rw [ho]; unfold M; exact Nat.one_lt_two_pow (by omega)), if_neg (by omega)]
theorem r_Inverse_none {a m : Nat} (ha : a < M) (hm : m < M) (h0 : m ≠ 0) (h : m = 1 ∨ Nat.gcd m a ≠ 1) : Run T f_divide_Inverse [natv a, natv m] [] = some (.tup [natv 0, .i 401], []) := by
  have hmp := Nat.pos_of_ne_zero h0
  by_cases h1 : m = 1
  · have hw : (euAt m ⟨m, a % m, 0, 1⟩ 0).w = 0 := by show a % m = 0; rw [h1, Nat.mod_one]
    rw [r_InverseRun (n := 0) ha hm h0 rfl (fun i hi => absurd hi (by omega)) hw (fun i hi => absurd hi (by omega)) hm, if_pos (.inr h1)]
  · have e0 : EuOk a m ⟨m, a % m, 0, 1⟩ := ⟨by simp only; omega, by simp only; omega, by simp only; omega, Nat.mod_lt _ hmp, by simp, by simp, by rw [Nat.gcd_comm]; exact (Nat.gcd_rec m a).symm⟩
    obtain ⟨n, hw, hn⟩ := eu_stop m (a % m) ⟨m, a % m, 0, 1⟩ (Nat.le_refl _)
    have hok := eu_ok e0 hw
    have he := hok n (Nat.le_refl n)
    have ho : (euAt m ⟨m, a % m, 0, 1⟩ n).o ≠ 1 := by
      have := he.g
      rw [hn, Nat.gcd_zero_right] at this
      rw [this]; omega
    rw [r_InverseRun ha hm h0 rfl hw hn (fun i hi => hok i (by omega)) (Nat.lt_of_le_of_lt he.o hm), if_pos (.inl ho)]
theorem r_Inverse_zero {a : Nat} : Run T f_divide_Inverse [natv a, natv 0] [] = some (.tup [natv 0, .i 400], []) := by
  rw [Run_at T _ (show T f_divide_Inverse = some m_divide_Inverse from rfl)]
  simp only [c_divide_Inverse]
  simp only [zero9]
  have k1 := r_zero (x := 0) (by unfold M; exact Nat.two_pow_pos _)
  rw [show decide ((0 : Nat) = 0) = true from rfl] at k1
  simp only [Qa,Qb,Qc,Qd,Qe,Qf,Qg,Qh,Qi,Qj,Qk,Ql,Qm,Qn,Qo,Qp,Qq,Qr,Qs,Qt,Qu,Qv,Qw,Qx,Qy,Qz,QA,QB,QC,QD,QE,QF,QG,QH,QI,QJ,QK,QL,QM,QN,QO,QP,QQ,QR,QS,QT,QU,QV,QW,QX,QY,QZ,Q0,Q1,Q2,Q3,Q4,Q5,Q6,Q7,Q8,Q9,Xa,Xb,Xc,Xd,Xe,Xf,Xg,Xh,Xi,Xj,Xk,Xl,Xm,Xn,Xo,Xp,Xq,Xr,Xs,Xt,Xu,Xv,Xw,Xx,Xy,Xz,XA,XB,XC,XD,XE,XF,XG,XH,XI,XJ,XK,XL,XM,XN,XO,XP,XQ,XR,XS,XT,XU,XV,XW,XX,XY,XZ,X0,X1,X2,X3,X4,X5,X6,X7,X8,X9,Ya,Yb,Yc,Yd,Ye,Yf,Yg,Yh,Yi,Yj,Yk,Yl,Ym,Yn,Yo,Yp,Yq,Yr,Ys,Yt,Yu,Yv,Yw,Yx,Yy,Yz,YA,YB,YC,YD,YE,YF,YG,YH,YI,YJ,YK,YL,YM,YN,YO,YP,YQ,YR,YS,YT,YU,YV,YW,YX,YY,YZ,Y0,Y1,Y2,Y3,Y4,Y5,Y6,Y7,Y8,Y9,Za,Zb,Zc,Zd,Ze,Zf,Zg,Zh,Zi,Zj,Zk,Zl,Zm,Zn,Zo,Zp,Zq,Zr,Zs,Zt,Zu,Zv,Zw,Zx,Zy,Zz,ZA,ZB,ZC,ZD,ZE,ZF,ZG,ZH,ZI,ZJ,ZK,ZL,ZM,ZN,ZO,ZP,ZQ,ZR,ZS,ZT,ZU,ZV,ZW,ZX,ZY,ZZ,Z0,Z1,Z2,Z3,Z4,Z5,Z6,Z7,Z8,Z9,Ja,Jb,Jc,Jd,Je,Jf,Jg,Jh,Ji,Jj,Jk,Jl,Jm,Jn,Jo,Jp,Jq,Jr,Js,Jt,Ju,Jv,Jw,Jx,Jy,Jz,JA,JB,JC,JD,JE,JF,JG,JH,JI,JJ,JK,JL,JM,JN,JO,JP,JQ,JR,JS,JT,JU,JV,JW,JX,JY,JZ,J0,J1,J2,J3,J4,J5,J6,J7,J8,J9,Ka,Kb,Kc,Kd,Ke,Kf,Kg,Kh,Ki,Kj,Kk,Kl,Km,Kn,Ko,Kp,Kq,Kr,Ks,Kt,Ku,Kv,Kw,Kx,Ky,Kz,KA,KB,KC,KD,KE,KF,KG,KH,KI,KJ,KK,KL,KM,KN,KO,KP,KQ,KR,KS,KT,KU,KV,KW,KX,KY,KZ,K0,K1,K2,K3,K4,K5,K6,K7,K8,K9,Ga,Gb,Gc,Gd,Ge,Gf,Gg,Gh,Gi,Gj,Gk,Gl,Gm,Gn,Gp,Gq,Gr,Gs,Gt,Gu,Gv,Gw,Gx,Gy,Gz,GA,GB,GC,GD,GE,GF,GG,GH,GI,GJ,GK,GL,GM,GN,GO,GP,GQ,GR,GS,GT,Nat.le_refl,Nat.reduceLeDiff,List.drop_zero,us_take,us_drop,is_take,is_drop,List.take_zero,gn,if_true,if_false,Nat.reduceEqDiff,Int.reduceEq,reduceCtorEq,Nat.succ_ne_self,Nat.reduceAdd,Nat.zero_add,Nat.add_zero,Nat.reduceMul,Nat.mul_one,Nat.one_mul,Nat.zero_mul,Nat.sub_zero,decide_true,decide_false,Bool.and_self,Bool.and_true,Bool.true_and,Bool.false_and,Bool.and_false,Bool.not_true,Bool.not_false,List.length_cons,List.length_nil,us_len,is_len,tb_len,dl_len,us_set,is_set,tb_set,Nat.not_lt_zero,List.nil_append,us_rep,is_rep, k1]

end Mir
