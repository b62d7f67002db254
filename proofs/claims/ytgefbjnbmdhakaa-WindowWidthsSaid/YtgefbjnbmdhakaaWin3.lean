/- Chapter 17, the law WindowWidths as the small language runs it: true of all arguments. Conditions: none. -/
import Derived.Test.YtgefbjnbmdhakaaWinD
import Derived.Test.YtgefbjnbmdhakaaAwake17
set_option linter.unusedVariables false
set_option linter.unusedSimpArgs false
set_option exponentiation.threshold 5000
set_option maxRecDepth 20000
namespace Mir

theorem dgt_pair (x w k i : Nat) (hi : i < k) : dgt x (2 * w) k i = dgt x w (2 * k) (2 * i) * 2 ^ w + dgt x w (2 * k) (2 * i + 1) := by
  have e1 : (2 * k - 1 - (2 * i + 1)) * w = (k - 1 - i) * (2 * w) := by
    rw [← Nat.mul_assoc]; congr 1; omega
  have e2 : (2 * k - 1 - 2 * i) * w = (k - 1 - i) * (2 * w) + w := by
    rw [← Nat.mul_assoc, ← Nat.succ_mul]; congr 1; omega
  simp only [dgt]
  rw [e1, e2, Nat.pow_add, ← Nat.div_div_eq_div_mul, show 2 * w = w + w by omega, Nat.pow_add 2 w w]
  generalize x / 2 ^ ((k - 1 - i) * (w + w)) = y
  rw [Nat.mod_mul, Nat.add_comm, Nat.mul_comm]

theorem law_WindowWidths {x : Nat} (hx : x < M) {width many : Int} (_ : -9223372036854775808 ≤ width) (_ : width < 9223372036854775808) (_ : -9223372036854775808 ≤ many) (_ : many < 9223372036854775808) :
    Run T f_curvetlaw17_WindowWidths [natv x, .i width, .i many] [] = some (.b true, []) := by
  rw [Run_at T _ (show T f_curvetlaw17_WindowWidths = some m_curvetlaw17_WindowWidths from rfl)]
  simp only [c_curvetlaw17_WindowWidths, zero9]
  have c0 := r_awake
  obtain ⟨u, hu⟩ : ∃ u, u = (width % 2 ^ 64).toNat := ⟨_, rfl⟩
  obtain ⟨u3, hu3⟩ : ∃ u3, u3 = u % 3 := ⟨_, rfl⟩
  have hu3l : u3 < 3 := by rw [hu3]; exact Nat.mod_lt _ (by omega)
  obtain ⟨v, hv⟩ : ∃ v, v = (many % 2 ^ 64).toNat := ⟨_, rfl⟩
  obtain ⟨v40, hv40⟩ : ∃ v40, v40 = v % 40 := ⟨_, rfl⟩
  have hv40l : v40 < 40 := by rw [hv40]; exact Nat.mod_lt _ (by omega)
  obtain ⟨w, hw⟩ : ∃ w, w = 1 + u3 := ⟨_, rfl⟩
  obtain ⟨k, hk⟩ : ∃ k, k = 1 + v40 := ⟨_, rfl⟩
  obtain ⟨w2, hw2⟩ : ∃ w2, w2 = 2 * w := ⟨_, rfl⟩
  obtain ⟨b, hb⟩ : ∃ b, b = w2 * k := ⟨_, rfl⟩
  have hbl : b ≤ 6 * 40 := by rw [hb]; exact Nat.mul_le_mul (by omega) (by omega)
  have hbp : 1 * 1 ≤ b := by rw [hb]; exact Nat.mul_le_mul (by omega) (by omega)
  have g1 : F (w64 ((u3 : Nat) : Int)) (u3 : Int) := ⟨w64_of (by omega) (by omega)⟩
  have g2 : F (w64 (1 + (u3 : Int))) (w : Int) := ⟨by rw [hw]; unfold w64; omega⟩
  have g3 : F (w64 ((v40 : Nat) : Int)) (v40 : Int) := ⟨w64_of (by omega) (by omega)⟩
  have g4 : F (w64 (1 + (v40 : Int))) (k : Int) := ⟨by rw [hk]; unfold w64; omega⟩
  have g5 : F (w64 (2 * (w : Int))) (w2 : Int) := ⟨by rw [hw2]; unfold w64; omega⟩
  have g6 : F (w64 ((w2 : Int) * (k : Int))) (b : Int) := ⟨by rw [← Int.natCast_mul, ← hb]; exact w64_of (by omega) (by omega)⟩
  have g7 : decide ((3 : Nat) = 0) = false := by simp
  have g8 : decide ((40 : Nat) = 0) = false := by simp
  have c1 := r_lawNat hx (b := b) (by omega)
  obtain ⟨y, hy⟩ : ∃ y, y = x % 2 ^ b := ⟨_, rfl⟩
  rw [← hy] at c1
  have hyb : y < 2 ^ b := by rw [hy]; exact Nat.mod_lt _ (Nat.two_pow_pos b)
  have hyM : y < M := Nat.lt_of_lt_of_le hyb (Nat.pow_le_pow_right (by omega) (by omega))
  have c2 := r_Digits hyM (b := b) (w := w) (by omega) (by omega) (by omega) (by omega) (bl_le_iff.2 hyb)
  have c3 := r_Digits hyM (b := b) (w := w2) (by omega) (by omega) (by omega) (by omega) (bl_le_iff.2 hyb)
  have n1 : (b + w - 1) / w = 2 * k := by
    rw [hb, hw2]
    have : 2 * w * k + w - 1 = (w - 1) + w * (2 * k) := by rw [Nat.mul_comm 2 w, Nat.mul_assoc]; omega
    rw [this, Nat.add_mul_div_left _ _ (by omega), Nat.div_eq_of_lt (by omega), Nat.zero_add]
  have n2 : (b + w2 - 1) / w2 = k := by
    rw [hb]
    have : w2 * k + w2 - 1 = (w2 - 1) + w2 * k := by omega
    rw [this, Nat.add_mul_div_left _ _ (by omega), Nat.div_eq_of_lt (by omega), Nat.zero_add]
  rw [n1] at c2
  rw [n2] at c3
  obtain ⟨k2, hk2⟩ : ∃ k2, k2 = 2 * k := ⟨_, rfl⟩
  obtain ⟨f, hf⟩ : ∃ f : Nat → Nat, f = dgt y w (2 * k) := ⟨_, rfl⟩
  obtain ⟨g, hg⟩ : ∃ g : Nat → Nat, g = dgt y w2 k := ⟨_, rfl⟩
  have hpair : ∀ i, i < k → g i = f (2 * i) * 2 ^ w + f (2 * i + 1) := fun i hi => by rw [hg, hf, hw2]; exact dgt_pair y w k i hi
  have hfl : ∀ i, f i < 2 ^ 3 := fun i => by
    rw [hf]; exact Nat.lt_of_lt_of_le (dgt_lt y w (2 * k) i) (Nat.pow_le_pow_right (by omega) (by omega))
  rw [← hf, ← hk2] at c2
  rw [← hg] at c3
  have c4 := r_Num 0
  have g9 : decide ((0 : Int) = 0) = true := by simp
  have g10 : decide (k < 9223372036854775808) = true := by simp; omega
  have g11 : decide (k2 < 9223372036854775808) = true := by simp; omega
  have g12 : F (w64 (2 * (k : Int))) (k2 : Int) := ⟨by rw [hk2]; unfold w64; omega⟩
  have g13 : decide ((k2 : Int) = (k2 : Int)) = true := by simp
  have g14 : F (min w 64) w := ⟨by omega⟩
  simp only [Y_reg, rg_nil, rv_some, rh_some, rl_some, put_s, put_n, S_gd, gd_tt, gd_ff, gd_tf, gd_ft, gd_n, g_c, ev_t, ev_c, ea_t, ea_c, kp_nil, kp_cons, evs_nil, evs_cons, pt_nil, pt_cons, zp_nil, zp_cons, ev_i, ea_i, san_i, cells_i, cv_i, ev_u, ea_u, san_u, cells_u, cv_u, ev_b, ea_b, san_b, cells_b, cv_b, ev_s, ea_s, san_s, cells_s, cv_s, ev_agg, ea_agg, san_agg, cells_agg, ev_tup, ea_tup, san_tup, cells_tup, ev_nilp, ea_nilp, san_nilp, cells_nilp, cv_nilp, ev_vr, ea_vr, san_vr, cells_vr, cv_vr, ev_hp, ea_hp, san_hp, cells_hp, cv_hp, ev_nils, ea_nils, san_nils, cells_nils, cv_nils, ev_vs, ea_vs, san_vs, cells_vs, cv_vs, ev_hs, ea_hs, san_hs, cells_hs, cv_hs, ev_fn, ea_fn, san_fn, cells_fn, cv_fn, ev_lp, ea_lp, san_lp, cells_lp, ev_ls, ea_ls, san_ls, cells_ls, ev_undef, ea_undef, san_undef, cells_undef, ev_loc, ea_loc, san_loc, Y_seq, sq_n, sq_e, sq_r, Y_cond, cd_t, cd_f, Y_block, bk_n, bk_e, bk_x, bk_r, Y_loop, Y_exit, Y_ret, fin_r, fin_n, cellR_l, ro_t, ro_c, rcons_s, rl_nil, rl_cons, tupO_s, rs_1, rs_0, rs_2, fv_s, h0_s, rt_0, rt_2, take_nil, take_zero, all_nil, allv_nil, allv_cons, len_nil, len_cons, san_map_nil, san_map_cons, tt, tupM_s, z_i, z_u, z_b, z_s, z_nilp, z_nils, z_tup, z_ml, z_mc, hsC_s, hsR_us, hsR_is, hsB_t, hsB_f, z_hs, S_mov, S_pick, S_bin, S_eqv, S_un, S_cvi, S_cvu, S_s2b, S_b2s, S_build, S_box, S_boxv, S_boxh, S_lit, S_mks, S_off, S_idx, S_idxs, S_ld, S_ldl, S_st, S_nck, S_fld, S_idxv, S_idxb, S_sls, S_slv, S_sla, S_s2a, S_ext, S_call, S_callp, S_prim, S_len, S_lens, S_mn, S_mx, S_app, S_cpy, S_stl, pk_t, pk_f, er_f, er_t, bi_add, bi_sub, bi_mul, bi_eql, bi_neq, bi_lss, bi_leq, bi_gtr, bi_geq, bi_quo, bi_rem, qI_f, rI_f, bu_add, bu_sub, bu_mul, bu_and, bu_or, bu_xor, bu_quo, bu_rem, qU_f, rU_f, bu_eql, bu_neq, bu_lss, bu_leq, bu_gtr, bu_geq, sh_s, bu_shl, bu_shr, bi_shl, bi_shr, shlU_e, shrU_e, shlJ_e, shrJ_e, cnt_u, cnt_n, cnt_l, cnt_0, cnt_1, bs_eql, bs_neq, un_neg, un_not, un_xor, un_negu, ti_i, ti_u, tu_i, tu_u, aggO_s, bx_i, bv_i, bh_i, bx_u, bv_u, bh_u, bx_b, bv_b, bh_b, bx_s, bv_s, bh_s, bx_agg, bv_agg, bh_agg, bx_nilp, bv_nilp, bh_nilp, bx_vr, bv_vr, bh_vr, bx_hp, bv_hp, bh_hp, bx_nils, bv_nils, bh_nils, bx_vs, bv_vs, bh_vs, bx_hs, bv_hs, bh_hs, bx_fn, bv_fn, bh_fn, lit_t, lit_f, mk_o, mk_q, mk_r, ix_o, of_vr, of_hp, of_lp, ivO_s, ihO_s, ilO_s, is_vs, is_hs, is_ls, ld_vr, ld_hp, ldR_s, ldl_lp, st_hp, stR_s, stT_t, okc_1, okc_us, okc_is, sl_lp, slT_t, nc_vr, nc_hp, nc_lp, fld_a, iv_f, iv_t, ib_s, byJ_s, byR_s, bdL_s, bo_n, bo_s, bd_n, bd_s, sls_s, slsR_s, slvR_s, slhR_s, slv_vs, slv_hs, sla_lp, slaT_t, sla_vr, ex_0, ex_1, ex_2, ca_n, cR_t, cR_f, cS_s, cp_t, sc_i, sc_u, sc_b, sc_s, pa_e, ps_e, paT_t, psT_t, le_n, le_vs, le_hs, le_ls, lO_s, lT_t, lS_s, mn_i, mx_i, ap_nils, apA_t, apA_f, ap_hs, apB_s, apD_t, okA_us, okA_is, sc_n, sc_vs, sc_hs, scR_us, scR_is, nhp_i, nhp_u, nhp_b, nhp_s, nhp_nilp, nhp_nils, nhp_us, nhp_is, nhp_ag, nhp_vr, nhp_hs, nhp_hp, zm_us, zm_is, zm_ag, pt_1, fi_nil, fi_cons, fiT_t, row_0, row_1, row_2, sr_0, sr_1, sr_2, happ_n, happ_c, hset_0, hset_1, hset_2, p9, p18, spl9, spl18, Nat.le_refl, Nat.reduceLeDiff, List.drop_zero, us_take, us_drop, is_take, is_drop, List.take_zero, gn, if_true, if_false, Nat.reduceEqDiff, Int.reduceEq, reduceCtorEq, Nat.succ_ne_self, Nat.reduceAdd, Nat.zero_add, Nat.add_zero, Nat.reduceMul, Nat.mul_one, Nat.one_mul, Nat.zero_mul, Nat.sub_zero, decide_true, decide_false, Bool.and_self, Bool.and_true, Bool.true_and, Bool.false_and, Bool.and_false, Bool.not_true, Bool.not_false, List.length_cons, List.length_nil, us_len, is_len, tb_len, dl_len, us_set, is_set, tb_set, Nat.not_lt_zero, List.nil_append, us_rep, is_rep, c0, ← hu, ← hu3, ← hv, ← hv40, g1.eq, g2.eq, g3.eq, g4.eq, g5.eq, g6.eq, g7, g8, c1, c2, c3, c4, g9, g10, g11, g12.eq, g13, natv_noHp, ints_noHp]
  rw [loop_use T (fun i => ⟨[(7, .i (w : Int)), (10, .vs k2 (ints k2 f)), (12, .vs k (ints k g)), (14, .i (i : Int))], []⟩) k
    (.exit 0, ⟨[], []⟩) ?h0 (by simp) ?hs ?hn]
  · simp only [Y_reg, rg_nil, rv_some, rh_some, rl_some, put_s, put_n, S_gd, gd_tt, gd_ff, gd_tf, gd_ft, gd_n, g_c, ev_t, ev_c, ea_t, ea_c, kp_nil, kp_cons, evs_nil, evs_cons, pt_nil, pt_cons, zp_nil, zp_cons, ev_i, ea_i, san_i, cells_i, cv_i, ev_u, ea_u, san_u, cells_u, cv_u, ev_b, ea_b, san_b, cells_b, cv_b, ev_s, ea_s, san_s, cells_s, cv_s, ev_agg, ea_agg, san_agg, cells_agg, ev_tup, ea_tup, san_tup, cells_tup, ev_nilp, ea_nilp, san_nilp, cells_nilp, cv_nilp, ev_vr, ea_vr, san_vr, cells_vr, cv_vr, ev_hp, ea_hp, san_hp, cells_hp, cv_hp, ev_nils, ea_nils, san_nils, cells_nils, cv_nils, ev_vs, ea_vs, san_vs, cells_vs, cv_vs, ev_hs, ea_hs, san_hs, cells_hs, cv_hs, ev_fn, ea_fn, san_fn, cells_fn, cv_fn, ev_lp, ea_lp, san_lp, cells_lp, ev_ls, ea_ls, san_ls, cells_ls, ev_undef, ea_undef, san_undef, cells_undef, ev_loc, ea_loc, san_loc, Y_seq, sq_n, sq_e, sq_r, Y_cond, cd_t, cd_f, Y_block, bk_n, bk_e, bk_x, bk_r, Y_loop, Y_exit, Y_ret, fin_r, fin_n, cellR_l, ro_t, ro_c, rcons_s, rl_nil, rl_cons, tupO_s, rs_1, rs_0, rs_2, fv_s, h0_s, rt_0, rt_2, take_nil, take_zero, all_nil, allv_nil, allv_cons, len_nil, len_cons, san_map_nil, san_map_cons, tt, tupM_s, z_i, z_u, z_b, z_s, z_nilp, z_nils, z_tup, z_ml, z_mc, hsC_s, hsR_us, hsR_is, hsB_t, hsB_f, z_hs, S_mov, S_pick, S_bin, S_eqv, S_un, S_cvi, S_cvu, S_s2b, S_b2s, S_build, S_box, S_boxv, S_boxh, S_lit, S_mks, S_off, S_idx, S_idxs, S_ld, S_ldl, S_st, S_nck, S_fld, S_idxv, S_idxb, S_sls, S_slv, S_sla, S_s2a, S_ext, S_call, S_callp, S_prim, S_len, S_lens, S_mn, S_mx, S_app, S_cpy, S_stl, pk_t, pk_f, er_f, er_t, bi_add, bi_sub, bi_mul, bi_eql, bi_neq, bi_lss, bi_leq, bi_gtr, bi_geq, bi_quo, bi_rem, qI_f, rI_f, bu_add, bu_sub, bu_mul, bu_and, bu_or, bu_xor, bu_quo, bu_rem, qU_f, rU_f, bu_eql, bu_neq, bu_lss, bu_leq, bu_gtr, bu_geq, sh_s, bu_shl, bu_shr, bi_shl, bi_shr, shlU_e, shrU_e, shlJ_e, shrJ_e, cnt_u, cnt_n, cnt_l, cnt_0, cnt_1, bs_eql, bs_neq, un_neg, un_not, un_xor, un_negu, ti_i, ti_u, tu_i, tu_u, aggO_s, bx_i, bv_i, bh_i, bx_u, bv_u, bh_u, bx_b, bv_b, bh_b, bx_s, bv_s, bh_s, bx_agg, bv_agg, bh_agg, bx_nilp, bv_nilp, bh_nilp, bx_vr, bv_vr, bh_vr, bx_hp, bv_hp, bh_hp, bx_nils, bv_nils, bh_nils, bx_vs, bv_vs, bh_vs, bx_hs, bv_hs, bh_hs, bx_fn, bv_fn, bh_fn, lit_t, lit_f, mk_o, mk_q, mk_r, ix_o, of_vr, of_hp, of_lp, ivO_s, ihO_s, ilO_s, is_vs, is_hs, is_ls, ld_vr, ld_hp, ldR_s, ldl_lp, st_hp, stR_s, stT_t, okc_1, okc_us, okc_is, sl_lp, slT_t, nc_vr, nc_hp, nc_lp, fld_a, iv_f, iv_t, ib_s, byJ_s, byR_s, bdL_s, bo_n, bo_s, bd_n, bd_s, sls_s, slsR_s, slvR_s, slhR_s, slv_vs, slv_hs, sla_lp, slaT_t, sla_vr, ex_0, ex_1, ex_2, ca_n, cR_t, cR_f, cS_s, cp_t, sc_i, sc_u, sc_b, sc_s, pa_e, ps_e, paT_t, psT_t, le_n, le_vs, le_hs, le_ls, lO_s, lT_t, lS_s, mn_i, mx_i, ap_nils, apA_t, apA_f, ap_hs, apB_s, apD_t, okA_us, okA_is, sc_n, sc_vs, sc_hs, scR_us, scR_is, nhp_i, nhp_u, nhp_b, nhp_s, nhp_nilp, nhp_nils, nhp_us, nhp_is, nhp_ag, nhp_vr, nhp_hs, nhp_hp, zm_us, zm_is, zm_ag, pt_1, fi_nil, fi_cons, fiT_t, row_0, row_1, row_2, sr_0, sr_1, sr_2, happ_n, happ_c, hset_0, hset_1, hset_2, p9, p18, spl9, spl18, Nat.le_refl, Nat.reduceLeDiff, List.drop_zero, us_take, us_drop, is_take, is_drop, List.take_zero, gn, if_true, if_false, Nat.reduceEqDiff, Int.reduceEq, reduceCtorEq, Nat.succ_ne_self, Nat.reduceAdd, Nat.zero_add, Nat.add_zero, Nat.reduceMul, Nat.mul_one, Nat.one_mul, Nat.zero_mul, Nat.sub_zero, decide_true, decide_false, Bool.and_self, Bool.and_true, Bool.true_and, Bool.false_and, Bool.and_false, Bool.not_true, Bool.not_false, List.length_cons, List.length_nil, us_len, is_len, tb_len, dl_len, us_set, is_set, tb_set, Nat.not_lt_zero, List.nil_append, us_rep, is_rep]
  · rfl
  · intro i hi
    obtain ⟨i2, hi2⟩ : ∃ i2, i2 = 2 * i := ⟨_, rfl⟩
    obtain ⟨i3, hi3⟩ : ∃ i3, i3 = 2 * i + 1 := ⟨_, rfl⟩
    have k1 : decide ((i : Int) < (k : Int)) = true := by simp; omega
    have k2' : F (w64 (2 * (i : Int))) (i2 : Int) := ⟨by rw [hi2]; unfold w64; omega⟩
    have k3 : F (w64 ((i2 : Int) + 1)) (i3 : Int) := ⟨by rw [hi2, hi3]; unfold w64; omega⟩
    have k4 := ixOf_nat hi
    have k5 := ints_get (f := g) hi
    have l2 : i2 < k2 := by omega
    have l3 : i3 < k2 := by omega
    have k6 := ixOf_nat l2
    have k7 := ints_get (f := f) l2
    have k8 := ixOf_nat l3
    have k9 := ints_get (f := f) l3
    have hp := hpair i hi
    rw [← hi3, ← hi2] at hp
    obtain ⟨a, ha⟩ : ∃ a, a = f i2 := ⟨_, rfl⟩
    obtain ⟨c, hc⟩ : ∃ c, c = f i3 := ⟨_, rfl⟩
    have hal : a < 2 ^ 3 := by rw [ha]; exact hfl i2
    have hcl : c < 2 ^ 3 := by rw [hc]; exact hfl i3
    rw [← ha] at k7 hp
    rw [← hc] at k9 hp
    obtain ⟨d, hd⟩ : ∃ d, d = a * 2 ^ w := ⟨_, rfl⟩
    have hdl : d ≤ 8 * 8 := by
      rw [hd]
      exact Nat.mul_le_mul (by omega) (Nat.pow_le_pow_right (n := 2) (by omega) (by omega : w ≤ 3))
    have k10 : F (w64 ((a : Int) * 2 ^ w)) (d : Int) := ⟨by
      rw [show ((2 : Int) ^ w) = ((2 ^ w : Nat) : Int) by simp, ← Int.natCast_mul, ← hd]; exact w64_of (by omega) (by omega)⟩
    have k11 : F (w64 ((d : Int) + (c : Int))) ((g i : Nat) : Int) := ⟨by rw [hp, ← hd]; unfold w64; omega⟩
    have k12 : decide (((g i : Nat) : Int) = ((g i : Nat) : Int)) = true := by simp
    have k13 : F (w64 ((i : Int) + 1)) ((i + 1 : Nat) : Int) := ⟨by unfold w64; omega⟩
    simp only [Y_reg, rg_nil, rv_some, rh_some, rl_some, put_s, put_n, S_gd, gd_tt, gd_ff, gd_tf, gd_ft, gd_n, g_c, ev_t, ev_c, ea_t, ea_c, kp_nil, kp_cons, evs_nil, evs_cons, pt_nil, pt_cons, zp_nil, zp_cons, ev_i, ea_i, san_i, cells_i, cv_i, ev_u, ea_u, san_u, cells_u, cv_u, ev_b, ea_b, san_b, cells_b, cv_b, ev_s, ea_s, san_s, cells_s, cv_s, ev_agg, ea_agg, san_agg, cells_agg, ev_tup, ea_tup, san_tup, cells_tup, ev_nilp, ea_nilp, san_nilp, cells_nilp, cv_nilp, ev_vr, ea_vr, san_vr, cells_vr, cv_vr, ev_hp, ea_hp, san_hp, cells_hp, cv_hp, ev_nils, ea_nils, san_nils, cells_nils, cv_nils, ev_vs, ea_vs, san_vs, cells_vs, cv_vs, ev_hs, ea_hs, san_hs, cells_hs, cv_hs, ev_fn, ea_fn, san_fn, cells_fn, cv_fn, ev_lp, ea_lp, san_lp, cells_lp, ev_ls, ea_ls, san_ls, cells_ls, ev_undef, ea_undef, san_undef, cells_undef, ev_loc, ea_loc, san_loc, Y_seq, sq_n, sq_e, sq_r, Y_cond, cd_t, cd_f, Y_block, bk_n, bk_e, bk_x, bk_r, Y_loop, Y_exit, Y_ret, fin_r, fin_n, cellR_l, ro_t, ro_c, rcons_s, rl_nil, rl_cons, tupO_s, rs_1, rs_0, rs_2, fv_s, h0_s, rt_0, rt_2, take_nil, take_zero, all_nil, allv_nil, allv_cons, len_nil, len_cons, san_map_nil, san_map_cons, tt, tupM_s, z_i, z_u, z_b, z_s, z_nilp, z_nils, z_tup, z_ml, z_mc, hsC_s, hsR_us, hsR_is, hsB_t, hsB_f, z_hs, S_mov, S_pick, S_bin, S_eqv, S_un, S_cvi, S_cvu, S_s2b, S_b2s, S_build, S_box, S_boxv, S_boxh, S_lit, S_mks, S_off, S_idx, S_idxs, S_ld, S_ldl, S_st, S_nck, S_fld, S_idxv, S_idxb, S_sls, S_slv, S_sla, S_s2a, S_ext, S_call, S_callp, S_prim, S_len, S_lens, S_mn, S_mx, S_app, S_cpy, S_stl, pk_t, pk_f, er_f, er_t, bi_add, bi_sub, bi_mul, bi_eql, bi_neq, bi_lss, bi_leq, bi_gtr, bi_geq, bi_quo, bi_rem, qI_f, rI_f, bu_add, bu_sub, bu_mul, bu_and, bu_or, bu_xor, bu_quo, bu_rem, qU_f, rU_f, bu_eql, bu_neq, bu_lss, bu_leq, bu_gtr, bu_geq, sh_s, bu_shl, bu_shr, bi_shl, bi_shr, shlU_e, shrU_e, shlJ_e, shrJ_e, cnt_u, cnt_n, cnt_l, cnt_0, cnt_1, bs_eql, bs_neq, un_neg, un_not, un_xor, un_negu, ti_i, ti_u, tu_i, tu_u, aggO_s, bx_i, bv_i, bh_i, bx_u, bv_u, bh_u, bx_b, bv_b, bh_b, bx_s, bv_s, bh_s, bx_agg, bv_agg, bh_agg, bx_nilp, bv_nilp, bh_nilp, bx_vr, bv_vr, bh_vr, bx_hp, bv_hp, bh_hp, bx_nils, bv_nils, bh_nils, bx_vs, bv_vs, bh_vs, bx_hs, bv_hs, bh_hs, bx_fn, bv_fn, bh_fn, lit_t, lit_f, mk_o, mk_q, mk_r, ix_o, of_vr, of_hp, of_lp, ivO_s, ihO_s, ilO_s, is_vs, is_hs, is_ls, ld_vr, ld_hp, ldR_s, ldl_lp, st_hp, stR_s, stT_t, okc_1, okc_us, okc_is, sl_lp, slT_t, nc_vr, nc_hp, nc_lp, fld_a, iv_f, iv_t, ib_s, byJ_s, byR_s, bdL_s, bo_n, bo_s, bd_n, bd_s, sls_s, slsR_s, slvR_s, slhR_s, slv_vs, slv_hs, sla_lp, slaT_t, sla_vr, ex_0, ex_1, ex_2, ca_n, cR_t, cR_f, cS_s, cp_t, sc_i, sc_u, sc_b, sc_s, pa_e, ps_e, paT_t, psT_t, le_n, le_vs, le_hs, le_ls, lO_s, lT_t, lS_s, mn_i, mx_i, ap_nils, apA_t, apA_f, ap_hs, apB_s, apD_t, okA_us, okA_is, sc_n, sc_vs, sc_hs, scR_us, scR_is, nhp_i, nhp_u, nhp_b, nhp_s, nhp_nilp, nhp_nils, nhp_us, nhp_is, nhp_ag, nhp_vr, nhp_hs, nhp_hp, zm_us, zm_is, zm_ag, pt_1, fi_nil, fi_cons, fiT_t, row_0, row_1, row_2, sr_0, sr_1, sr_2, happ_n, happ_c, hset_0, hset_1, hset_2, p9, p18, spl9, spl18, Nat.le_refl, Nat.reduceLeDiff, List.drop_zero, us_take, us_drop, is_take, is_drop, List.take_zero, gn, if_true, if_false, Nat.reduceEqDiff, Int.reduceEq, reduceCtorEq, Nat.succ_ne_self, Nat.reduceAdd, Nat.zero_add, Nat.add_zero, Nat.reduceMul, Nat.mul_one, Nat.one_mul, Nat.zero_mul, Nat.sub_zero, decide_true, decide_false, Bool.and_self, Bool.and_true, Bool.true_and, Bool.false_and, Bool.and_false, Bool.not_true, Bool.not_false, List.length_cons, List.length_nil, us_len, is_len, tb_len, dl_len, us_set, is_set, tb_set, Nat.not_lt_zero, List.nil_append, us_rep, is_rep, k1, k2'.eq, k3.eq, k4, k5, k6, k7, k8, k9, k10.eq, k11.eq, k12, k13.eq, g10, g14.eq]
  · have k1 : decide ((k : Int) < (k : Int)) = false := by simp
    simp only [Y_reg, rg_nil, rv_some, rh_some, rl_some, put_s, put_n, S_gd, gd_tt, gd_ff, gd_tf, gd_ft, gd_n, g_c, ev_t, ev_c, ea_t, ea_c, kp_nil, kp_cons, evs_nil, evs_cons, pt_nil, pt_cons, zp_nil, zp_cons, ev_i, ea_i, san_i, cells_i, cv_i, ev_u, ea_u, san_u, cells_u, cv_u, ev_b, ea_b, san_b, cells_b, cv_b, ev_s, ea_s, san_s, cells_s, cv_s, ev_agg, ea_agg, san_agg, cells_agg, ev_tup, ea_tup, san_tup, cells_tup, ev_nilp, ea_nilp, san_nilp, cells_nilp, cv_nilp, ev_vr, ea_vr, san_vr, cells_vr, cv_vr, ev_hp, ea_hp, san_hp, cells_hp, cv_hp, ev_nils, ea_nils, san_nils, cells_nils, cv_nils, ev_vs, ea_vs, san_vs, cells_vs, cv_vs, ev_hs, ea_hs, san_hs, cells_hs, cv_hs, ev_fn, ea_fn, san_fn, cells_fn, cv_fn, ev_lp, ea_lp, san_lp, cells_lp, ev_ls, ea_ls, san_ls, cells_ls, ev_undef, ea_undef, san_undef, cells_undef, ev_loc, ea_loc, san_loc, Y_seq, sq_n, sq_e, sq_r, Y_cond, cd_t, cd_f, Y_block, bk_n, bk_e, bk_x, bk_r, Y_loop, Y_exit, Y_ret, fin_r, fin_n, cellR_l, ro_t, ro_c, rcons_s, rl_nil, rl_cons, tupO_s, rs_1, rs_0, rs_2, fv_s, h0_s, rt_0, rt_2, take_nil, take_zero, all_nil, allv_nil, allv_cons, len_nil, len_cons, san_map_nil, san_map_cons, tt, tupM_s, z_i, z_u, z_b, z_s, z_nilp, z_nils, z_tup, z_ml, z_mc, hsC_s, hsR_us, hsR_is, hsB_t, hsB_f, z_hs, S_mov, S_pick, S_bin, S_eqv, S_un, S_cvi, S_cvu, S_s2b, S_b2s, S_build, S_box, S_boxv, S_boxh, S_lit, S_mks, S_off, S_idx, S_idxs, S_ld, S_ldl, S_st, S_nck, S_fld, S_idxv, S_idxb, S_sls, S_slv, S_sla, S_s2a, S_ext, S_call, S_callp, S_prim, S_len, S_lens, S_mn, S_mx, S_app, S_cpy, S_stl, pk_t, pk_f, er_f, er_t, bi_add, bi_sub, bi_mul, bi_eql, bi_neq, bi_lss, bi_leq, bi_gtr, bi_geq, bi_quo, bi_rem, qI_f, rI_f, bu_add, bu_sub, bu_mul, bu_and, bu_or, bu_xor, bu_quo, bu_rem, qU_f, rU_f, bu_eql, bu_neq, bu_lss, bu_leq, bu_gtr, bu_geq, sh_s, bu_shl, bu_shr, bi_shl, bi_shr, shlU_e, shrU_e, shlJ_e, shrJ_e, cnt_u, cnt_n, cnt_l, cnt_0, cnt_1, bs_eql, bs_neq, un_neg, un_not, un_xor, un_negu, ti_i, ti_u, tu_i, tu_u, aggO_s, bx_i, bv_i, bh_i, bx_u, bv_u, bh_u, bx_b, bv_b, bh_b, bx_s, bv_s, bh_s, bx_agg, bv_agg, bh_agg, bx_nilp, bv_nilp, bh_nilp, bx_vr, bv_vr, bh_vr, bx_hp, bv_hp, bh_hp, bx_nils, bv_nils, bh_nils, bx_vs, bv_vs, bh_vs, bx_hs, bv_hs, bh_hs, bx_fn, bv_fn, bh_fn, lit_t, lit_f, mk_o, mk_q, mk_r, ix_o, of_vr, of_hp, of_lp, ivO_s, ihO_s, ilO_s, is_vs, is_hs, is_ls, ld_vr, ld_hp, ldR_s, ldl_lp, st_hp, stR_s, stT_t, okc_1, okc_us, okc_is, sl_lp, slT_t, nc_vr, nc_hp, nc_lp, fld_a, iv_f, iv_t, ib_s, byJ_s, byR_s, bdL_s, bo_n, bo_s, bd_n, bd_s, sls_s, slsR_s, slvR_s, slhR_s, slv_vs, slv_hs, sla_lp, slaT_t, sla_vr, ex_0, ex_1, ex_2, ca_n, cR_t, cR_f, cS_s, cp_t, sc_i, sc_u, sc_b, sc_s, pa_e, ps_e, paT_t, psT_t, le_n, le_vs, le_hs, le_ls, lO_s, lT_t, lS_s, mn_i, mx_i, ap_nils, apA_t, apA_f, ap_hs, apB_s, apD_t, okA_us, okA_is, sc_n, sc_vs, sc_hs, scR_us, scR_is, nhp_i, nhp_u, nhp_b, nhp_s, nhp_nilp, nhp_nils, nhp_us, nhp_is, nhp_ag, nhp_vr, nhp_hs, nhp_hp, zm_us, zm_is, zm_ag, pt_1, fi_nil, fi_cons, fiT_t, row_0, row_1, row_2, sr_0, sr_1, sr_2, happ_n, happ_c, hset_0, hset_1, hset_2, p9, p18, spl9, spl18, Nat.le_refl, Nat.reduceLeDiff, List.drop_zero, us_take, us_drop, is_take, is_drop, List.take_zero, gn, if_true, if_false, Nat.reduceEqDiff, Int.reduceEq, reduceCtorEq, Nat.succ_ne_self, Nat.reduceAdd, Nat.zero_add, Nat.add_zero, Nat.reduceMul, Nat.mul_one, Nat.one_mul, Nat.zero_mul, Nat.sub_zero, decide_true, decide_false, Bool.and_self, Bool.and_true, Bool.true_and, Bool.false_and, Bool.and_false, Bool.not_true, Bool.not_false, List.length_cons, List.length_nil, us_len, is_len, tb_len, dl_len, us_set, is_set, tb_set, Nat.not_lt_zero, List.nil_append, us_rep, is_rep, k1, g10]

end Mir
