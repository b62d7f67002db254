/- Chapter 17: digits as a scalar. Conditions: none. -/
import Derived.Test.YtgefbjnbmdhakaaWinB
set_option linter.unusedVariables false
set_option linter.unusedSimpArgs false
set_option exponentiation.threshold 5000
set_option maxRecDepth 20000
namespace Mir

/-- So many digits of w bits as a number, the highest first. -/
def vv (w : Nat) (f : Nat → Nat) : Nat → Nat
  | 0 => 0
  | i + 1 => vv w f i * 2 ^ w + f i

theorem vv_mono (w : Nat) (f : Nat → Nat) (i k : Nat) : vv w f i ≤ vv w f (i + k) := by
  induction k with
  | zero => exact Nat.le_refl _
  | succ k ih =>
    refine Nat.le_trans ih ?_
    show _ ≤ vv w f (i + k) * 2 ^ w + f (i + k)
    have := Nat.le_mul_of_pos_right (vv w f (i + k)) (Nat.two_pow_pos w)
    omega
theorem vv_le (w : Nat) (f : Nat → Nat) {i n : Nat} (h : i ≤ n) : vv w f i ≤ vv w f n := by
  obtain ⟨k, rfl⟩ : ∃ k, n = i + k := ⟨n - i, by omega⟩
  exact vv_mono w f i k

theorem or_low {y d w : Nat} (hd : d < 2 ^ w) (hw : w ≤ 6) : us 64 (dl 64 9 (y * 2 ^ w % M)) = us 64 (dl 64 9 (y * 2 ^ w % M)) := rfl

/-- A digit put in below. -/
theorem or_dl {y d w : Nat} (hd : d < 2 ^ w) (hw : w ≤ 64) : tb 9 (fun j => if j = 0 then (y * 2 ^ w) % 2 ^ 64 ||| d else (y * 2 ^ w) / 2 ^ (64 * j) % 2 ^ 64) = dl 64 9 (y * 2 ^ w + d) := tb_congr fun j hj => by
  have h1 : (y * 2 ^ w + d) / 2 ^ w = y := by rw [Nat.mul_comm, Nat.mul_add_div (Nat.two_pow_pos w), Nat.div_eq_of_lt hd, Nat.add_zero]
  have h2 : y * 2 ^ w / 2 ^ w = y := Nat.mul_div_cancel _ (Nat.two_pow_pos w)
  have e64 : (2:Nat) ^ 64 = 2 ^ w * 2 ^ (64 - w) := by rw [← Nat.pow_add]; congr 1; omega
  by_cases h : j = 0
  · rw [if_pos h, h, Nat.mul_zero, Nat.pow_zero, Nat.div_one]
    have h3 : y * 2 ^ w % 2 ^ 64 = 2 ^ w * (y % 2 ^ (64 - w)) := by rw [e64, Nat.mul_comm y, Nat.mul_mod_mul_left]
    rw [h3, ← Nat.two_pow_add_eq_or_of_lt hd, Nat.mul_comm y]
    rw [e64, Nat.mod_mul, Nat.mul_add_mod, Nat.mod_eq_of_lt hd, Nat.mul_add_div (Nat.two_pow_pos w), Nat.div_eq_of_lt hd, Nat.add_zero, Nat.add_comm]
  · rw [if_neg h]
    have e : 2 ^ (64 * j) = 2 ^ w * 2 ^ (64 * j - w) := by rw [← Nat.pow_add]; congr 1; omega
    rw [e, ← Nat.div_div_eq_div_mul, ← Nat.div_div_eq_div_mul, h1, h2]

theorem r_Value {w n : Nat} {f : Nat → Nat} {v : V} {H : Heap} {p : Nat → V} (hw1 : 1 ≤ w) (hw : w ≤ 6) (hf : ∀ i, i < n → f i < 2 ^ w) (hn : n < 1000000) (hv : vv w f n < M)
    (h1 : lenV v = some n) (h2 : ∀ i, i < n → idxsV 1 v (.i (i : Int)) = some (p i)) (h3 : ∀ i, i < n → ldV false H none (p i) = some (.i ((f i : Nat) : Int))) (h3e : ∀ i, i < n → evV (p i) = p i)
    (h4 : evV v = v) (h5 : san v = v) (h5a : eaV 14 v = v) (h6 : (H.take H.length).all (lowR H.length) = true) :
    Run T f_window_Value [v, .i (w : Int)] H = some (.tup [natv (vv w f n), .i 0], H) := by
  rw [Run_at T _ (show T f_window_Value = some m_window_Value from rfl)]
  simp only [c_window_Value, zero9]
  have c1 := r_wide (w : Int)
  have c2 : decide (1 ≤ (w : Int) ∧ (w : Int) ≤ 6) = true := by simp; omega
  rw [c2] at c1
  have g1 : decide (n < 9223372036854775808) = true := by simp; omega
  obtain ⟨w2, hw2⟩ : ∃ a : Nat, a = 576 - w := ⟨_, rfl⟩
  have g2 : F (w64 (576 - (w : Int))) (w2 : Int) := ⟨by unfold w64; omega⟩
  have g3 : F (min w 64) w := ⟨by omega⟩
  obtain ⟨pw, hpw⟩ : ∃ a : Nat, a = 2 ^ w := ⟨_, rfl⟩
  have hpw64 : pw ≤ 64 := by rw [hpw]; exact Nat.pow_le_pow_right (n := 2) (by omega) hw
  have g4 : F (w64 (1 * 2 ^ w)) (pw : Int) := ⟨by
    rw [Int.one_mul, show ((2 : Int) ^ w) = ((2 ^ w : Nat) : Int) by simp, ← hpw]; exact w64_of (by omega) (by omega)⟩
  have hvi : ∀ i, i ≤ n → vv w f i < M := fun i hi => Nat.lt_of_le_of_lt (vv_le w f hi) hv
  simp only [Y_reg, rg_nil, rv_some, rh_some, rl_some, put_s, put_n, S_gd, gd_tt, gd_ff, gd_tf, gd_ft, gd_n, g_c, ev_t, ev_c, ea_t, ea_c, kp_nil, kp_cons, evs_nil, evs_cons, pt_nil, pt_cons, zp_nil, zp_cons, ev_i, ea_i, san_i, cells_i, cv_i, ev_u, ea_u, san_u, cells_u, cv_u, ev_b, ea_b, san_b, cells_b, cv_b, ev_s, ea_s, san_s, cells_s, cv_s, ev_agg, ea_agg, san_agg, cells_agg, ev_tup, ea_tup, san_tup, cells_tup, ev_nilp, ea_nilp, san_nilp, cells_nilp, cv_nilp, ev_vr, ea_vr, san_vr, cells_vr, cv_vr, ev_hp, ea_hp, san_hp, cells_hp, cv_hp, ev_nils, ea_nils, san_nils, cells_nils, cv_nils, ev_vs, ea_vs, san_vs, cells_vs, cv_vs, ev_hs, ea_hs, san_hs, cells_hs, cv_hs, ev_fn, ea_fn, san_fn, cells_fn, cv_fn, ev_lp, ea_lp, san_lp, cells_lp, ev_ls, ea_ls, san_ls, cells_ls, ev_undef, ea_undef, san_undef, cells_undef, ev_loc, ea_loc, san_loc, Y_seq, sq_n, sq_e, sq_r, Y_cond, cd_t, cd_f, Y_block, bk_n, bk_e, bk_x, bk_r, Y_loop, Y_exit, Y_ret, fin_r, fin_n, cellR_l, ro_t, ro_c, rcons_s, rl_nil, rl_cons, tupO_s, rs_1, rs_0, rs_2, fv_s, h0_s, rt_0, rt_2, take_nil, take_zero, all_nil, allv_nil, allv_cons, len_nil, len_cons, san_map_nil, san_map_cons, tt, tupM_s, z_i, z_u, z_b, z_s, z_nilp, z_nils, z_tup, z_ml, z_mc, hsC_s, hsR_us, hsR_is, hsB_t, hsB_f, z_hs, S_mov, S_pick, S_bin, S_eqv, S_un, S_cvi, S_cvu, S_s2b, S_b2s, S_build, S_box, S_boxv, S_boxh, S_lit, S_mks, S_off, S_idx, S_idxs, S_ld, S_ldl, S_st, S_nck, S_fld, S_idxv, S_idxb, S_sls, S_slv, S_sla, S_s2a, S_ext, S_call, S_callp, S_prim, S_len, S_lens, S_mn, S_mx, S_app, S_cpy, S_stl, pk_t, pk_f, er_f, er_t, bi_add, bi_sub, bi_mul, bi_eql, bi_neq, bi_lss, bi_leq, bi_gtr, bi_geq, bi_quo, bi_rem, qI_f, rI_f, bu_add, bu_sub, bu_mul, bu_and, bu_or, bu_xor, bu_quo, bu_rem, qU_f, rU_f, bu_eql, bu_neq, bu_lss, bu_leq, bu_gtr, bu_geq, sh_s, bu_shl, bu_shr, bi_shl, bi_shr, shlU_e, shrU_e, shlJ_e, shrJ_e, cnt_u, cnt_n, cnt_l, cnt_0, cnt_1, bs_eql, bs_neq, un_neg, un_not, un_xor, un_negu, ti_i, ti_u, tu_i, tu_u, aggO_s, bx_i, bv_i, bh_i, bx_u, bv_u, bh_u, bx_b, bv_b, bh_b, bx_s, bv_s, bh_s, bx_agg, bv_agg, bh_agg, bx_nilp, bv_nilp, bh_nilp, bx_vr, bv_vr, bh_vr, bx_hp, bv_hp, bh_hp, bx_nils, bv_nils, bh_nils, bx_vs, bv_vs, bh_vs, bx_hs, bv_hs, bh_hs, bx_fn, bv_fn, bh_fn, lit_t, lit_f, mk_o, mk_q, mk_r, ix_o, of_vr, of_hp, of_lp, ivO_s, ihO_s, ilO_s, is_vs, is_hs, is_ls, ld_vr, ld_hp, ldR_s, ldl_lp, st_hp, stR_s, stT_t, okc_1, okc_us, okc_is, sl_lp, slT_t, nc_vr, nc_hp, nc_lp, fld_a, iv_f, iv_t, ib_s, byJ_s, byR_s, bdL_s, bo_n, bo_s, bd_n, bd_s, sls_s, slsR_s, slvR_s, slhR_s, slv_vs, slv_hs, sla_lp, slaT_t, sla_vr, ex_0, ex_1, ex_2, ca_n, cR_t, cR_f, cS_s, cp_t, sc_i, sc_u, sc_b, sc_s, pa_e, ps_e, paT_t, psT_t, le_n, le_vs, le_hs, le_ls, lO_s, lT_t, lS_s, mn_i, mx_i, ap_nils, apA_t, apA_f, ap_hs, apB_s, apD_t, okA_us, okA_is, sc_n, sc_vs, sc_hs, scR_us, scR_is, nhp_i, nhp_u, nhp_b, nhp_s, nhp_nilp, nhp_nils, nhp_us, nhp_is, nhp_ag, nhp_vr, nhp_hs, nhp_hp, zm_us, zm_is, zm_ag, pt_1, fi_nil, fi_cons, fiT_t, row_0, row_1, row_2, sr_0, sr_1, sr_2, happ_n, happ_c, hset_0, hset_1, hset_2, p9, p18, spl9, spl18, Nat.le_refl, Nat.reduceLeDiff, List.drop_zero, us_take, us_drop, is_take, is_drop, List.take_zero, gn, if_true, if_false, Nat.reduceEqDiff, Int.reduceEq, reduceCtorEq, Nat.succ_ne_self, Nat.reduceAdd, Nat.zero_add, Nat.add_zero, Nat.reduceMul, Nat.mul_one, Nat.one_mul, Nat.zero_mul, Nat.sub_zero, decide_true, decide_false, Bool.and_self, Bool.and_true, Bool.true_and, Bool.false_and, Bool.and_false, Bool.not_true, Bool.not_false, List.length_cons, List.length_nil, us_len, is_len, tb_len, dl_len, us_set, is_set, tb_set, Nat.not_lt_zero, List.nil_append, us_rep, is_rep, c1, g1, h1, h4, h5]
  rw [loop_use T (fun i => ⟨[(1, .i (w : Int)), (4, .loc (us 64 (dl 64 9 0))), (6, .loc (us 64 (dl 64 9 (vv w f i)))), (7, .b true), (14, v), (15, .i (n : Int)), (16, .i (i : Int))], H⟩) n
    (.exit 0, ⟨[(4, .loc (us 64 (dl 64 9 0))), (6, .loc (us 64 (dl 64 9 (vv w f n)))), (7, .b true)], H⟩) ?h0 (by simp) ?hs ?hn]
  · rw [List.take_length] at h6
    simp only [Y_reg, rg_nil, rv_some, rh_some, rl_some, put_s, put_n, S_gd, gd_tt, gd_ff, gd_tf, gd_ft, gd_n, g_c, ev_t, ev_c, ea_t, ea_c, kp_nil, kp_cons, evs_nil, evs_cons, pt_nil, pt_cons, zp_nil, zp_cons, ev_i, ea_i, san_i, cells_i, cv_i, ev_u, ea_u, san_u, cells_u, cv_u, ev_b, ea_b, san_b, cells_b, cv_b, ev_s, ea_s, san_s, cells_s, cv_s, ev_agg, ea_agg, san_agg, cells_agg, ev_tup, ea_tup, san_tup, cells_tup, ev_nilp, ea_nilp, san_nilp, cells_nilp, cv_nilp, ev_vr, ea_vr, san_vr, cells_vr, cv_vr, ev_hp, ea_hp, san_hp, cells_hp, cv_hp, ev_nils, ea_nils, san_nils, cells_nils, cv_nils, ev_vs, ea_vs, san_vs, cells_vs, cv_vs, ev_hs, ea_hs, san_hs, cells_hs, cv_hs, ev_fn, ea_fn, san_fn, cells_fn, cv_fn, ev_lp, ea_lp, san_lp, cells_lp, ev_ls, ea_ls, san_ls, cells_ls, ev_undef, ea_undef, san_undef, cells_undef, ev_loc, ea_loc, san_loc, Y_seq, sq_n, sq_e, sq_r, Y_cond, cd_t, cd_f, Y_block, bk_n, bk_e, bk_x, bk_r, Y_loop, Y_exit, Y_ret, fin_r, fin_n, cellR_l, ro_t, ro_c, rcons_s, rl_nil, rl_cons, tupO_s, rs_1, rs_0, rs_2, fv_s, h0_s, rt_0, rt_2, take_nil, take_zero, all_nil, allv_nil, allv_cons, len_nil, len_cons, san_map_nil, san_map_cons, tt, tupM_s, z_i, z_u, z_b, z_s, z_nilp, z_nils, z_tup, z_ml, z_mc, hsC_s, hsR_us, hsR_is, hsB_t, hsB_f, z_hs, S_mov, S_pick, S_bin, S_eqv, S_un, S_cvi, S_cvu, S_s2b, S_b2s, S_build, S_box, S_boxv, S_boxh, S_lit, S_mks, S_off, S_idx, S_idxs, S_ld, S_ldl, S_st, S_nck, S_fld, S_idxv, S_idxb, S_sls, S_slv, S_sla, S_s2a, S_ext, S_call, S_callp, S_prim, S_len, S_lens, S_mn, S_mx, S_app, S_cpy, S_stl, pk_t, pk_f, er_f, er_t, bi_add, bi_sub, bi_mul, bi_eql, bi_neq, bi_lss, bi_leq, bi_gtr, bi_geq, bi_quo, bi_rem, qI_f, rI_f, bu_add, bu_sub, bu_mul, bu_and, bu_or, bu_xor, bu_quo, bu_rem, qU_f, rU_f, bu_eql, bu_neq, bu_lss, bu_leq, bu_gtr, bu_geq, sh_s, bu_shl, bu_shr, bi_shl, bi_shr, shlU_e, shrU_e, shlJ_e, shrJ_e, cnt_u, cnt_n, cnt_l, cnt_0, cnt_1, bs_eql, bs_neq, un_neg, un_not, un_xor, un_negu, ti_i, ti_u, tu_i, tu_u, aggO_s, bx_i, bv_i, bh_i, bx_u, bv_u, bh_u, bx_b, bv_b, bh_b, bx_s, bv_s, bh_s, bx_agg, bv_agg, bh_agg, bx_nilp, bv_nilp, bh_nilp, bx_vr, bv_vr, bh_vr, bx_hp, bv_hp, bh_hp, bx_nils, bv_nils, bh_nils, bx_vs, bv_vs, bh_vs, bx_hs, bv_hs, bh_hs, bx_fn, bv_fn, bh_fn, lit_t, lit_f, mk_o, mk_q, mk_r, ix_o, of_vr, of_hp, of_lp, ivO_s, ihO_s, ilO_s, is_vs, is_hs, is_ls, ld_vr, ld_hp, ldR_s, ldl_lp, st_hp, stR_s, stT_t, okc_1, okc_us, okc_is, sl_lp, slT_t, nc_vr, nc_hp, nc_lp, fld_a, iv_f, iv_t, ib_s, byJ_s, byR_s, bdL_s, bo_n, bo_s, bd_n, bd_s, sls_s, slsR_s, slvR_s, slhR_s, slv_vs, slv_hs, sla_lp, slaT_t, sla_vr, ex_0, ex_1, ex_2, ca_n, cR_t, cR_f, cS_s, cp_t, sc_i, sc_u, sc_b, sc_s, pa_e, ps_e, paT_t, psT_t, le_n, le_vs, le_hs, le_ls, lO_s, lT_t, lS_s, mn_i, mx_i, ap_nils, apA_t, apA_f, ap_hs, apB_s, apD_t, okA_us, okA_is, sc_n, sc_vs, sc_hs, scR_us, scR_is, nhp_i, nhp_u, nhp_b, nhp_s, nhp_nilp, nhp_nils, nhp_us, nhp_is, nhp_ag, nhp_vr, nhp_hs, nhp_hp, zm_us, zm_is, zm_ag, pt_1, fi_nil, fi_cons, fiT_t, row_0, row_1, row_2, sr_0, sr_1, sr_2, happ_n, happ_c, hset_0, hset_1, hset_2, p9, p18, spl9, spl18, Nat.le_refl, Nat.reduceLeDiff, List.drop_zero, us_take, us_drop, is_take, is_drop, List.take_zero, gn, if_true, if_false, Nat.reduceEqDiff, Int.reduceEq, reduceCtorEq, Nat.succ_ne_self, Nat.reduceAdd, Nat.zero_add, Nat.add_zero, Nat.reduceMul, Nat.mul_one, Nat.one_mul, Nat.zero_mul, Nat.sub_zero, decide_true, decide_false, Bool.and_self, Bool.and_true, Bool.true_and, Bool.false_and, Bool.and_false, Bool.not_true, Bool.not_false, List.length_cons, List.length_nil, us_len, is_len, tb_len, dl_len, us_set, is_set, tb_set, Nat.not_lt_zero, List.nil_append, us_rep, is_rep, h6, List.take_length]
  · simp only [vv]; rfl
  · intro i hi
    obtain ⟨y, hy⟩ : ∃ y, y = vv w f i := ⟨_, rfl⟩
    have hyM : y < M := by rw [hy]; exact hvi i (by omega)
    have hstep : vv w f (i + 1) = y * 2 ^ w + f i := by rw [hy]; rfl
    have hb : bl y ≤ 576 - w := by
      rw [bl_le_iff]
      have h := hvi (i + 1) (by omega)
      rw [hstep] at h
      have h7 : y * 2 ^ w < 2 ^ (576 - w) * 2 ^ w := by
        rw [← Nat.pow_add, show 576 - w + w = 576 by omega]
        exact Nat.lt_of_le_of_lt (Nat.le_add_right _ _) h
      exact Nat.lt_of_mul_lt_mul_right h7
    have hyw : y * 2 ^ w < M := by
      have h := hvi (i + 1) (by omega)
      rw [hstep] at h
      omega
    have hfi := hf i hi
    have hor := or_dl (y := y) hfi (by omega : w ≤ 64)
    rw [← hy, hstep]
    have k1 : decide ((i : Int) < (n : Int)) = true := by simp; omega
    have k2 := h2 i hi
    have k3 := h3 i hi
    have k3e := h3e i hi
    have k4 : decide (((f i : Nat) : Int) < 0) = false := by simp
    have k5 : decide ((pw : Int) ≤ ((f i : Nat) : Int)) = false := by simp; omega
    have k6 := r_natBits hyM
    have k7 : decide (((bl y : Nat) : Int) ≤ (w2 : Int)) = true := by simp; omega
    have k8 := r_natShl hyM (k := w) (by omega)
    rw [Nat.mod_eq_of_lt hyw] at k8
    have k9 : F (w64 ((i : Int) + 1)) ((i + 1 : Nat) : Int) := ⟨by unfold w64; omega⟩
    have k10 := ixOf_nat (n := 9) (k := 0) (by omega)
    rw [Int.natCast_zero] at k10
    have k11 := dl_part (x := y * 2 ^ w) (i := 0) (by omega)
    rw [Nat.mul_zero, Nat.pow_zero, Nat.div_one] at k11
    obtain ⟨d, hd⟩ : ∃ d, d = f i := ⟨_, rfl⟩
    rw [← hd] at k3 k4 k5 hor hfi ⊢
    have k12 : F ((((d : Nat) : Int) % 2 ^ 64).toNat) d := ⟨by
      have : d < 64 := by omega
      omega⟩
    obtain ⟨z, hz⟩ : ∃ z, z = y * 2 ^ w := ⟨_, rfl⟩
    rw [← hz] at k8 k11 hor ⊢
    have k13 : (us 64 (dl 64 9 z)).set 0 (.u 64 (z % 2 ^ 64 ||| d)) = us 64 (dl 64 9 (z + d)) := by
      rw [us_set, ← hor, dl, tb_set]
    simp only [Y_reg, rg_nil, rv_some, rh_some, rl_some, put_s, put_n, S_gd, gd_tt, gd_ff, gd_tf, gd_ft, gd_n, g_c, ev_t, ev_c, ea_t, ea_c, kp_nil, kp_cons, evs_nil, evs_cons, pt_nil, pt_cons, zp_nil, zp_cons, ev_i, ea_i, san_i, cells_i, cv_i, ev_u, ea_u, san_u, cells_u, cv_u, ev_b, ea_b, san_b, cells_b, cv_b, ev_s, ea_s, san_s, cells_s, cv_s, ev_agg, ea_agg, san_agg, cells_agg, ev_tup, ea_tup, san_tup, cells_tup, ev_nilp, ea_nilp, san_nilp, cells_nilp, cv_nilp, ev_vr, ea_vr, san_vr, cells_vr, cv_vr, ev_hp, ea_hp, san_hp, cells_hp, cv_hp, ev_nils, ea_nils, san_nils, cells_nils, cv_nils, ev_vs, ea_vs, san_vs, cells_vs, cv_vs, ev_hs, ea_hs, san_hs, cells_hs, cv_hs, ev_fn, ea_fn, san_fn, cells_fn, cv_fn, ev_lp, ea_lp, san_lp, cells_lp, ev_ls, ea_ls, san_ls, cells_ls, ev_undef, ea_undef, san_undef, cells_undef, ev_loc, ea_loc, san_loc, Y_seq, sq_n, sq_e, sq_r, Y_cond, cd_t, cd_f, Y_block, bk_n, bk_e, bk_x, bk_r, Y_loop, Y_exit, Y_ret, fin_r, fin_n, cellR_l, ro_t, ro_c, rcons_s, rl_nil, rl_cons, tupO_s, rs_1, rs_0, rs_2, fv_s, h0_s, rt_0, rt_2, take_nil, take_zero, all_nil, allv_nil, allv_cons, len_nil, len_cons, san_map_nil, san_map_cons, tt, tupM_s, z_i, z_u, z_b, z_s, z_nilp, z_nils, z_tup, z_ml, z_mc, hsC_s, hsR_us, hsR_is, hsB_t, hsB_f, z_hs, S_mov, S_pick, S_bin, S_eqv, S_un, S_cvi, S_cvu, S_s2b, S_b2s, S_build, S_box, S_boxv, S_boxh, S_lit, S_mks, S_off, S_idx, S_idxs, S_ld, S_ldl, S_st, S_nck, S_fld, S_idxv, S_idxb, S_sls, S_slv, S_sla, S_s2a, S_ext, S_call, S_callp, S_prim, S_len, S_lens, S_mn, S_mx, S_app, S_cpy, S_stl, pk_t, pk_f, er_f, er_t, bi_add, bi_sub, bi_mul, bi_eql, bi_neq, bi_lss, bi_leq, bi_gtr, bi_geq, bi_quo, bi_rem, qI_f, rI_f, bu_add, bu_sub, bu_mul, bu_and, bu_or, bu_xor, bu_quo, bu_rem, qU_f, rU_f, bu_eql, bu_neq, bu_lss, bu_leq, bu_gtr, bu_geq, sh_s, bu_shl, bu_shr, bi_shl, bi_shr, shlU_e, shrU_e, shlJ_e, shrJ_e, cnt_u, cnt_n, cnt_l, cnt_0, cnt_1, bs_eql, bs_neq, un_neg, un_not, un_xor, un_negu, ti_i, ti_u, tu_i, tu_u, aggO_s, bx_i, bv_i, bh_i, bx_u, bv_u, bh_u, bx_b, bv_b, bh_b, bx_s, bv_s, bh_s, bx_agg, bv_agg, bh_agg, bx_nilp, bv_nilp, bh_nilp, bx_vr, bv_vr, bh_vr, bx_hp, bv_hp, bh_hp, bx_nils, bv_nils, bh_nils, bx_vs, bv_vs, bh_vs, bx_hs, bv_hs, bh_hs, bx_fn, bv_fn, bh_fn, lit_t, lit_f, mk_o, mk_q, mk_r, ix_o, of_vr, of_hp, of_lp, ivO_s, ihO_s, ilO_s, is_vs, is_hs, is_ls, ld_vr, ld_hp, ldR_s, ldl_lp, st_hp, stR_s, stT_t, okc_1, okc_us, okc_is, sl_lp, slT_t, nc_vr, nc_hp, nc_lp, fld_a, iv_f, iv_t, ib_s, byJ_s, byR_s, bdL_s, bo_n, bo_s, bd_n, bd_s, sls_s, slsR_s, slvR_s, slhR_s, slv_vs, slv_hs, sla_lp, slaT_t, sla_vr, ex_0, ex_1, ex_2, ca_n, cR_t, cR_f, cS_s, cp_t, sc_i, sc_u, sc_b, sc_s, pa_e, ps_e, paT_t, psT_t, le_n, le_vs, le_hs, le_ls, lO_s, lT_t, lS_s, mn_i, mx_i, ap_nils, apA_t, apA_f, ap_hs, apB_s, apD_t, okA_us, okA_is, sc_n, sc_vs, sc_hs, scR_us, scR_is, nhp_i, nhp_u, nhp_b, nhp_s, nhp_nilp, nhp_nils, nhp_us, nhp_is, nhp_ag, nhp_vr, nhp_hs, nhp_hp, zm_us, zm_is, zm_ag, pt_1, fi_nil, fi_cons, fiT_t, row_0, row_1, row_2, sr_0, sr_1, sr_2, happ_n, happ_c, hset_0, hset_1, hset_2, p9, p18, spl9, spl18, Nat.le_refl, Nat.reduceLeDiff, List.drop_zero, us_take, us_drop, is_take, is_drop, List.take_zero, gn, if_true, if_false, Nat.reduceEqDiff, Int.reduceEq, reduceCtorEq, Nat.succ_ne_self, Nat.reduceAdd, Nat.zero_add, Nat.add_zero, Nat.reduceMul, Nat.mul_one, Nat.one_mul, Nat.zero_mul, Nat.sub_zero, decide_true, decide_false, Bool.and_self, Bool.and_true, Bool.true_and, Bool.false_and, Bool.and_false, Bool.not_true, Bool.not_false, List.length_cons, List.length_nil, us_len, is_len, tb_len, dl_len, us_set, is_set, tb_set, Nat.not_lt_zero, List.nil_append, us_rep, is_rep, k1, k2, k3, k3e, k4, k5, k6, k7, k8, k9.eq, k10, k11, k12.eq, k13, g2.eq, g3.eq, g4.eq, natv_noHp, h5, h5a]
  · have k1 : decide ((n : Int) < (n : Int)) = false := by simp
    simp only [Y_reg, rg_nil, rv_some, rh_some, rl_some, put_s, put_n, S_gd, gd_tt, gd_ff, gd_tf, gd_ft, gd_n, g_c, ev_t, ev_c, ea_t, ea_c, kp_nil, kp_cons, evs_nil, evs_cons, pt_nil, pt_cons, zp_nil, zp_cons, ev_i, ea_i, san_i, cells_i, cv_i, ev_u, ea_u, san_u, cells_u, cv_u, ev_b, ea_b, san_b, cells_b, cv_b, ev_s, ea_s, san_s, cells_s, cv_s, ev_agg, ea_agg, san_agg, cells_agg, ev_tup, ea_tup, san_tup, cells_tup, ev_nilp, ea_nilp, san_nilp, cells_nilp, cv_nilp, ev_vr, ea_vr, san_vr, cells_vr, cv_vr, ev_hp, ea_hp, san_hp, cells_hp, cv_hp, ev_nils, ea_nils, san_nils, cells_nils, cv_nils, ev_vs, ea_vs, san_vs, cells_vs, cv_vs, ev_hs, ea_hs, san_hs, cells_hs, cv_hs, ev_fn, ea_fn, san_fn, cells_fn, cv_fn, ev_lp, ea_lp, san_lp, cells_lp, ev_ls, ea_ls, san_ls, cells_ls, ev_undef, ea_undef, san_undef, cells_undef, ev_loc, ea_loc, san_loc, Y_seq, sq_n, sq_e, sq_r, Y_cond, cd_t, cd_f, Y_block, bk_n, bk_e, bk_x, bk_r, Y_loop, Y_exit, Y_ret, fin_r, fin_n, cellR_l, ro_t, ro_c, rcons_s, rl_nil, rl_cons, tupO_s, rs_1, rs_0, rs_2, fv_s, h0_s, rt_0, rt_2, take_nil, take_zero, all_nil, allv_nil, allv_cons, len_nil, len_cons, san_map_nil, san_map_cons, tt, tupM_s, z_i, z_u, z_b, z_s, z_nilp, z_nils, z_tup, z_ml, z_mc, hsC_s, hsR_us, hsR_is, hsB_t, hsB_f, z_hs, S_mov, S_pick, S_bin, S_eqv, S_un, S_cvi, S_cvu, S_s2b, S_b2s, S_build, S_box, S_boxv, S_boxh, S_lit, S_mks, S_off, S_idx, S_idxs, S_ld, S_ldl, S_st, S_nck, S_fld, S_idxv, S_idxb, S_sls, S_slv, S_sla, S_s2a, S_ext, S_call, S_callp, S_prim, S_len, S_lens, S_mn, S_mx, S_app, S_cpy, S_stl, pk_t, pk_f, er_f, er_t, bi_add, bi_sub, bi_mul, bi_eql, bi_neq, bi_lss, bi_leq, bi_gtr, bi_geq, bi_quo, bi_rem, qI_f, rI_f, bu_add, bu_sub, bu_mul, bu_and, bu_or, bu_xor, bu_quo, bu_rem, qU_f, rU_f, bu_eql, bu_neq, bu_lss, bu_leq, bu_gtr, bu_geq, sh_s, bu_shl, bu_shr, bi_shl, bi_shr, shlU_e, shrU_e, shlJ_e, shrJ_e, cnt_u, cnt_n, cnt_l, cnt_0, cnt_1, bs_eql, bs_neq, un_neg, un_not, un_xor, un_negu, ti_i, ti_u, tu_i, tu_u, aggO_s, bx_i, bv_i, bh_i, bx_u, bv_u, bh_u, bx_b, bv_b, bh_b, bx_s, bv_s, bh_s, bx_agg, bv_agg, bh_agg, bx_nilp, bv_nilp, bh_nilp, bx_vr, bv_vr, bh_vr, bx_hp, bv_hp, bh_hp, bx_nils, bv_nils, bh_nils, bx_vs, bv_vs, bh_vs, bx_hs, bv_hs, bh_hs, bx_fn, bv_fn, bh_fn, lit_t, lit_f, mk_o, mk_q, mk_r, ix_o, of_vr, of_hp, of_lp, ivO_s, ihO_s, ilO_s, is_vs, is_hs, is_ls, ld_vr, ld_hp, ldR_s, ldl_lp, st_hp, stR_s, stT_t, okc_1, okc_us, okc_is, sl_lp, slT_t, nc_vr, nc_hp, nc_lp, fld_a, iv_f, iv_t, ib_s, byJ_s, byR_s, bdL_s, bo_n, bo_s, bd_n, bd_s, sls_s, slsR_s, slvR_s, slhR_s, slv_vs, slv_hs, sla_lp, slaT_t, sla_vr, ex_0, ex_1, ex_2, ca_n, cR_t, cR_f, cS_s, cp_t, sc_i, sc_u, sc_b, sc_s, pa_e, ps_e, paT_t, psT_t, le_n, le_vs, le_hs, le_ls, lO_s, lT_t, lS_s, mn_i, mx_i, ap_nils, apA_t, apA_f, ap_hs, apB_s, apD_t, okA_us, okA_is, sc_n, sc_vs, sc_hs, scR_us, scR_is, nhp_i, nhp_u, nhp_b, nhp_s, nhp_nilp, nhp_nils, nhp_us, nhp_is, nhp_ag, nhp_vr, nhp_hs, nhp_hp, zm_us, zm_is, zm_ag, pt_1, fi_nil, fi_cons, fiT_t, row_0, row_1, row_2, sr_0, sr_1, sr_2, happ_n, happ_c, hset_0, hset_1, hset_2, p9, p18, spl9, spl18, Nat.le_refl, Nat.reduceLeDiff, List.drop_zero, us_take, us_drop, is_take, is_drop, List.take_zero, gn, if_true, if_false, Nat.reduceEqDiff, Int.reduceEq, reduceCtorEq, Nat.succ_ne_self, Nat.reduceAdd, Nat.zero_add, Nat.add_zero, Nat.reduceMul, Nat.mul_one, Nat.one_mul, Nat.zero_mul, Nat.sub_zero, decide_true, decide_false, Bool.and_self, Bool.and_true, Bool.true_and, Bool.false_and, Bool.and_false, Bool.not_true, Bool.not_false, List.length_cons, List.length_nil, us_len, is_len, tb_len, dl_len, us_set, is_set, tb_set, Nat.not_lt_zero, List.nil_append, us_rep, is_rep, k1]

end Mir
