/- Chapter 1, laws as the small language runs them: bytes come back, each byte of a number. Conditions: none. -/
import Derived.Test.YtgeeonanodgmiaaNatE
import Derived.Test.YtgeeonanodgmiaaAwake1
set_option linter.unusedVariables false
set_option linter.unusedSimpArgs false
set_option exponentiation.threshold 5000
set_option maxRecDepth 20000
namespace Mir

theorem law_NatBack {a : Nat} {more : Int} (ha : a < M) (_ : -9223372036854775808 ≤ more) (_ : more < 9223372036854775808) : Run T f_curvetlaw1_NatBack [natv a, .i more] [] = some (.b true, []) := by
  rw [Run_at T _ (show T f_curvetlaw1_NatBack = some m_curvetlaw1_NatBack from rfl)]
  simp only [c_curvetlaw1_NatBack, zero9]
  have c0 := r_awake
  have c1 := r_natBits ha
  obtain ⟨b, hb⟩ : ∃ b, b = bl a := ⟨_, rfl⟩
  have hb576 : b ≤ 576 := by rw [hb]; exact bl_le_iff.2 ha
  obtain ⟨b7, hb7⟩ : ∃ b7, b7 = b + 7 := ⟨_, rfl⟩
  obtain ⟨k, hk⟩ : ∃ k, k = (b + 7) / 8 := ⟨_, rfl⟩
  obtain ⟨c, hc, c2⟩ := and_int more (k := 15) (by omega)
  have c2' : binV .and (.i more) (.i 15) = some (.i (c : Int)) := c2
  obtain ⟨kc, hkc⟩ : ∃ kc, kc = k + c := ⟨_, rfl⟩
  obtain ⟨n, hn⟩ : ∃ n, n = if kc < 72 then kc else 72 := ⟨_, rfl⟩
  have hn72 : n ≤ 72 ∧ b ≤ 8 * n := by rw [hn]; split <;> omega
  have k4 : F (if (kc : Int) < 72 then (kc : Int) else 72) (n : Int) := ⟨by
    rw [hn]
    by_cases h : kc < 72
    · rw [if_pos h, if_pos (by omega)]
    · rw [if_neg h, if_neg (by omega)]; rfl⟩
  have c3 := r_natBytes ha hn72.1 (by rw [← hb]; exact hn72.2)
  have c4 := r_natOf_bs hn72.1 (bl_le_iff.1 (by rw [← hb]; exact hn72.2))
  obtain ⟨k1', hk1⟩ : ∃ z : Int, z = (k : Int) - 1 := ⟨_, rfl⟩
  have c5 := r_natBytes_no (n := k1') ha (by
    by_cases h : k = 0
    · left; omega
    · right; right; rw [← hb]; omega)
  have c6 := r_Num 0
  have c7 := r_Num 101
  rw [← hb] at c1
  have k1 : F (w64 ((b : Int) + 7)) (b7 : Int) := ⟨by rw [hb7]; unfold w64; omega⟩
  have k2 : F (w64 (Int.tdiv (b7 : Int) 8)) (k : Int) := ⟨by rw [Int.tdiv_eq_ediv_of_nonneg (by omega), hk, hb7]; unfold w64; omega⟩
  have k3 : F (w64 ((k : Int) + (c : Int))) (kc : Int) := ⟨by rw [hkc]; unfold w64; omega⟩
  have k5 : F (w64 ((k : Int) - 1)) k1' := ⟨by rw [hk1]; unfold w64; omega⟩
  have k6 : decide (n < 9223372036854775808) = true := by simp; omega
  have k7 := eqis (n : Int)
  have k8 := eqis 0
  have k9 := eqis 101
  simp only [Y_reg, rg_nil, rv_some, rh_some, rl_some, put_s, put_n, S_gd, gd_tt, gd_ff, gd_tf, gd_ft, gd_n, g_c, ev_t, ev_c, ea_t, ea_c, kp_nil, kp_cons, evs_nil, evs_cons, pt_nil, pt_cons, zp_nil, zp_cons, ev_i, ea_i, san_i, cells_i, cv_i, ev_u, ea_u, san_u, cells_u, cv_u, ev_b, ea_b, san_b, cells_b, cv_b, ev_s, ea_s, san_s, cells_s, cv_s, ev_agg, ea_agg, san_agg, cells_agg, ev_tup, ea_tup, san_tup, cells_tup, ev_nilp, ea_nilp, san_nilp, cells_nilp, cv_nilp, ev_vr, ea_vr, san_vr, cells_vr, cv_vr, ev_hp, ea_hp, san_hp, cells_hp, cv_hp, ev_nils, ea_nils, san_nils, cells_nils, cv_nils, ev_vs, ea_vs, san_vs, cells_vs, cv_vs, ev_hs, ea_hs, san_hs, cells_hs, cv_hs, ev_fn, ea_fn, san_fn, cells_fn, cv_fn, ev_lp, ea_lp, san_lp, cells_lp, ev_ls, ea_ls, san_ls, cells_ls, ev_undef, ea_undef, san_undef, cells_undef, ev_loc, ea_loc, san_loc, Y_seq, sq_n, sq_e, sq_r, Y_cond, cd_t, cd_f, Y_block, bk_n, bk_e, bk_x, bk_r, Y_loop, Y_exit, Y_ret, fin_r, fin_n, cellR_l, ro_t, ro_c, rcons_s, rl_nil, rl_cons, tupO_s, rs_1, rs_0, rs_2, fv_s, h0_s, rt_0, rt_2, take_nil, take_zero, all_nil, allv_nil, allv_cons, len_nil, len_cons, san_map_nil, san_map_cons, tt, tupM_s, z_i, z_u, z_b, z_s, z_nilp, z_nils, z_tup, z_ml, z_mc, hsC_s, hsR_us, hsR_is, hsB_t, hsB_f, z_hs, S_mov, S_pick, S_bin, S_eqv, S_un, S_cvi, S_cvu, S_s2b, S_b2s, S_build, S_box, S_boxv, S_boxh, S_lit, S_mks, S_off, S_idx, S_idxs, S_ld, S_ldl, S_st, S_nck, S_fld, S_idxv, S_idxb, S_sls, S_slv, S_sla, S_s2a, S_ext, S_call, S_callp, S_prim, S_len, S_lens, S_mn, S_mx, S_app, S_cpy, S_stl, pk_t, pk_f, er_f, er_t, bi_add, bi_sub, bi_mul, bi_eql, bi_neq, bi_lss, bi_leq, bi_gtr, bi_geq, bi_quo, bi_rem, qI_f, rI_f, bu_add, bu_sub, bu_mul, bu_and, bu_or, bu_xor, bu_quo, bu_rem, qU_f, rU_f, bu_eql, bu_neq, bu_lss, bu_leq, bu_gtr, bu_geq, sh_s, bu_shl, bu_shr, bi_shl, bi_shr, shlU_e, shrU_e, shlJ_e, shrJ_e, cnt_u, cnt_n, cnt_l, cnt_0, cnt_1, bs_eql, bs_neq, un_neg, un_not, un_xor, un_negu, ti_i, ti_u, tu_i, tu_u, aggO_s, bx_i, bv_i, bh_i, bx_u, bv_u, bh_u, bx_b, bv_b, bh_b, bx_s, bv_s, bh_s, bx_agg, bv_agg, bh_agg, bx_nilp, bv_nilp, bh_nilp, bx_vr, bv_vr, bh_vr, bx_hp, bv_hp, bh_hp, bx_nils, bv_nils, bh_nils, bx_vs, bv_vs, bh_vs, bx_hs, bv_hs, bh_hs, bx_fn, bv_fn, bh_fn, lit_t, lit_f, mk_o, mk_q, mk_r, ix_o, of_vr, of_hp, of_lp, ivO_s, ihO_s, ilO_s, is_vs, is_hs, is_ls, ld_vr, ld_hp, ldR_s, ldl_lp, st_hp, stR_s, stT_t, okc_1, okc_us, okc_is, sl_lp, slT_t, nc_vr, nc_hp, nc_lp, fld_a, iv_f, iv_t, ib_s, byJ_s, byR_s, bdL_s, bo_n, bo_s, bd_n, bd_s, sls_s, slsR_s, slvR_s, slhR_s, slv_vs, slv_hs, sla_lp, slaT_t, sla_vr, ex_0, ex_1, ex_2, ca_n, cR_t, cR_f, cS_s, cp_t, sc_i, sc_u, sc_b, sc_s, pa_e, ps_e, paT_t, psT_t, le_n, le_vs, le_hs, le_ls, lO_s, lT_t, lS_s, mn_i, mx_i, ap_nils, apA_t, apA_f, ap_hs, apB_s, apD_t, okA_us, okA_is, sc_n, sc_vs, sc_hs, scR_us, scR_is, nhp_i, nhp_u, nhp_b, nhp_s, nhp_nilp, nhp_nils, nhp_us, nhp_is, nhp_ag, nhp_vr, nhp_hs, nhp_hp, zm_us, zm_is, zm_ag, pt_1, fi_nil, fi_cons, fiT_t, row_0, row_1, row_2, sr_0, sr_1, sr_2, happ_n, happ_c, hset_0, hset_1, hset_2, p9, p18, spl9, spl18, Nat.le_refl, Nat.reduceLeDiff, List.drop_zero, us_take, us_drop, is_take, is_drop, List.take_zero, gn, if_true, if_false, Nat.reduceEqDiff, Int.reduceEq, reduceCtorEq, Nat.succ_ne_self, Nat.reduceAdd, Nat.zero_add, Nat.add_zero, Nat.reduceMul, Nat.mul_one, Nat.one_mul, Nat.zero_mul, Nat.sub_zero, decide_true, decide_false, Bool.and_self, Bool.and_true, Bool.true_and, Bool.false_and, Bool.and_false, Bool.not_true, Bool.not_false, List.length_cons, List.length_nil, us_len, is_len, tb_len, dl_len, us_set, is_set, tb_set, Nat.not_lt_zero, List.nil_append, us_rep, is_rep, c0, c1, k1.eq, k2.eq, c2', k3.eq, k4.eq, c3, c4, k5.eq, c5, c6, c7, k6, k7, k8, k9, eq9s, bs_len, natv_noHp]

theorem bs_zeros {m n y : Nat} (hy : y < 2 ^ (8 * n)) : List.replicate m 0 ++ bs n y = bs (m + n) y := by
  apply List.ext_getElem
  · simp [bs_len]
  · intro i h1 h2
    have hi : i < m + n := by simpa [bs_len] using h2
    have e : (bs (m + n) y)[i] = y / 2 ^ (8 * (m + n - 1 - i)) % 2 ^ 8 := by simp [bs, tb]
    rw [e]
    by_cases h : i < m
    · rw [List.getElem_append_left (by simpa using h), List.getElem_replicate, Nat.div_eq_of_lt (Nat.lt_of_lt_of_le hy (Nat.pow_le_pow_right (by omega) (by omega)))]
    · rw [List.getElem_append_right (by simp; omega)]
      have e2 : ∀ (k : Nat) (hk : k < (bs n y).length), (bs n y)[k] = y / 2 ^ (8 * (n - 1 - k)) % 2 ^ 8 := fun k hk => by simp [bs, tb]
      rw [e2]
      simp only [List.length_replicate]
      rw [show n - 1 - (i - m) = m + n - 1 - i by omega]

theorem law_NatDigits {a : Nat} {more : Int} (ha : a < M) (_ : -9223372036854775808 ≤ more) (_ : more < 9223372036854775808) : Run T f_curvetlaw1_NatDigits [natv a, .i more] [] = some (.b true, []) := by
  rw [Run_at T _ (show T f_curvetlaw1_NatDigits = some m_curvetlaw1_NatDigits from rfl)]
  simp only [c_curvetlaw1_NatDigits, zero9]
  have c0 := r_awake
  have hb : bl a ≤ 576 := bl_le_iff.2 ha
  have c1 := r_natBytes ha (n := 72) (by omega) (by omega)
  have e72 : ((72 : Nat) : Int) = 72 := rfl
  have e56 : ((56 : Nat) : Int) = 56 := rfl
  have e448 : ((448 : Nat) : Int) = 448 := rfl
  rw [e72] at c1
  have c2 := r_Num 0
  have k1 := eqis 0
  have k2 : decide ((72 : Nat) < 9223372036854775808) = true := by decide
  have k3 : decide (((72 : Nat) : Int) = 72) = true := by decide
  have c3 := r_lawNat ha (b := 448) (by omega)
  rw [e448] at c3
  obtain ⟨y, hy⟩ : ∃ y, y = a % 2 ^ 448 := ⟨_, rfl⟩
  rw [← hy] at c3
  have hyl : y < 2 ^ 448 := by rw [hy]; exact Nat.mod_lt _ (Nat.two_pow_pos 448)
  have hyM : y < M := Nat.lt_of_lt_of_le hyl (Nat.pow_le_pow_right (by omega) (by omega))
  have c4 := r_natBytes hyM (n := 56) (by omega) (bl_le_iff.2 hyl)
  rw [e56] at c4
  obtain ⟨c, hc, c5⟩ := and_int more (k := 15) (by omega)
  have c5' : binV .and (.i more) (.i 15) = some (.i (c : Int)) := c5
  have k4 := ixOf_nat (show c < 140737488355329 by omega)
  have k5 := ixOf_nat (show c < c + 1 by omega)
  have k6 : roomOk c 1 = true := by simp [roomOk]; omega
  have k7 : b2sV false [some (us 8 (List.replicate c 0))] (.hs 1 0 0 c c) = some (.s (List.replicate c 0)) := b2s_hs rfl (by simp)
  have k8 : binV .add (.s (List.replicate c 0)) (.s (bs 56 y)) = some (.s (bs (c + 56) y)) := by
    rw [s_add _ _ (by simp [bs_len]; omega), bs_zeros hyl]
  have c6 := r_natOf_bs (n := c + 56) (x := y) (by omega) (Nat.lt_of_lt_of_le hyl (Nat.pow_le_pow_right (by omega) (by omega)))
  simp only [Y_reg, rg_nil, rv_some, rh_some, rl_some, put_s, put_n, S_gd, gd_tt, gd_ff, gd_tf, gd_ft, gd_n, g_c, ev_t, ev_c, ea_t, ea_c, kp_nil, kp_cons, evs_nil, evs_cons, pt_nil, pt_cons, zp_nil, zp_cons, ev_i, ea_i, san_i, cells_i, cv_i, ev_u, ea_u, san_u, cells_u, cv_u, ev_b, ea_b, san_b, cells_b, cv_b, ev_s, ea_s, san_s, cells_s, cv_s, ev_agg, ea_agg, san_agg, cells_agg, ev_tup, ea_tup, san_tup, cells_tup, ev_nilp, ea_nilp, san_nilp, cells_nilp, cv_nilp, ev_vr, ea_vr, san_vr, cells_vr, cv_vr, ev_hp, ea_hp, san_hp, cells_hp, cv_hp, ev_nils, ea_nils, san_nils, cells_nils, cv_nils, ev_vs, ea_vs, san_vs, cells_vs, cv_vs, ev_hs, ea_hs, san_hs, cells_hs, cv_hs, ev_fn, ea_fn, san_fn, cells_fn, cv_fn, ev_lp, ea_lp, san_lp, cells_lp, ev_ls, ea_ls, san_ls, cells_ls, ev_undef, ea_undef, san_undef, cells_undef, ev_loc, ea_loc, san_loc, Y_seq, sq_n, sq_e, sq_r, Y_cond, cd_t, cd_f, Y_block, bk_n, bk_e, bk_x, bk_r, Y_loop, Y_exit, Y_ret, fin_r, fin_n, cellR_l, ro_t, ro_c, rcons_s, rl_nil, rl_cons, tupO_s, rs_1, rs_0, rs_2, fv_s, h0_s, rt_0, rt_2, take_nil, take_zero, all_nil, allv_nil, allv_cons, len_nil, len_cons, san_map_nil, san_map_cons, tt, tupM_s, z_i, z_u, z_b, z_s, z_nilp, z_nils, z_tup, z_ml, z_mc, hsC_s, hsR_us, hsR_is, hsB_t, hsB_f, z_hs, S_mov, S_pick, S_bin, S_eqv, S_un, S_cvi, S_cvu, S_s2b, S_b2s, S_build, S_box, S_boxv, S_boxh, S_lit, S_mks, S_off, S_idx, S_idxs, S_ld, S_ldl, S_st, S_nck, S_fld, S_idxv, S_idxb, S_sls, S_slv, S_sla, S_s2a, S_ext, S_call, S_callp, S_prim, S_len, S_lens, S_mn, S_mx, S_app, S_cpy, S_stl, pk_t, pk_f, er_f, er_t, bi_add, bi_sub, bi_mul, bi_eql, bi_neq, bi_lss, bi_leq, bi_gtr, bi_geq, bi_quo, bi_rem, qI_f, rI_f, bu_add, bu_sub, bu_mul, bu_and, bu_or, bu_xor, bu_quo, bu_rem, qU_f, rU_f, bu_eql, bu_neq, bu_lss, bu_leq, bu_gtr, bu_geq, sh_s, bu_shl, bu_shr, bi_shl, bi_shr, shlU_e, shrU_e, shlJ_e, shrJ_e, cnt_u, cnt_n, cnt_l, cnt_0, cnt_1, bs_eql, bs_neq, un_neg, un_not, un_xor, un_negu, ti_i, ti_u, tu_i, tu_u, aggO_s, bx_i, bv_i, bh_i, bx_u, bv_u, bh_u, bx_b, bv_b, bh_b, bx_s, bv_s, bh_s, bx_agg, bv_agg, bh_agg, bx_nilp, bv_nilp, bh_nilp, bx_vr, bv_vr, bh_vr, bx_hp, bv_hp, bh_hp, bx_nils, bv_nils, bh_nils, bx_vs, bv_vs, bh_vs, bx_hs, bv_hs, bh_hs, bx_fn, bv_fn, bh_fn, lit_t, lit_f, mk_o, mk_q, mk_r, ix_o, of_vr, of_hp, of_lp, ivO_s, ihO_s, ilO_s, is_vs, is_hs, is_ls, ld_vr, ld_hp, ldR_s, ldl_lp, st_hp, stR_s, stT_t, okc_1, okc_us, okc_is, sl_lp, slT_t, nc_vr, nc_hp, nc_lp, fld_a, iv_f, iv_t, ib_s, byJ_s, byR_s, bdL_s, bo_n, bo_s, bd_n, bd_s, sls_s, slsR_s, slvR_s, slhR_s, slv_vs, slv_hs, sla_lp, slaT_t, sla_vr, ex_0, ex_1, ex_2, ca_n, cR_t, cR_f, cS_s, cp_t, sc_i, sc_u, sc_b, sc_s, pa_e, ps_e, paT_t, psT_t, le_n, le_vs, le_hs, le_ls, lO_s, lT_t, lS_s, mn_i, mx_i, ap_nils, apA_t, apA_f, ap_hs, apB_s, apD_t, okA_us, okA_is, sc_n, sc_vs, sc_hs, scR_us, scR_is, nhp_i, nhp_u, nhp_b, nhp_s, nhp_nilp, nhp_nils, nhp_us, nhp_is, nhp_ag, nhp_vr, nhp_hs, nhp_hp, zm_us, zm_is, zm_ag, pt_1, fi_nil, fi_cons, fiT_t, row_0, row_1, row_2, sr_0, sr_1, sr_2, happ_n, happ_c, hset_0, hset_1, hset_2, p9, p18, spl9, spl18, Nat.le_refl, Nat.reduceLeDiff, List.drop_zero, us_take, us_drop, is_take, is_drop, List.take_zero, gn, if_true, if_false, Nat.reduceEqDiff, Int.reduceEq, reduceCtorEq, Nat.succ_ne_self, Nat.reduceAdd, Nat.zero_add, Nat.add_zero, Nat.reduceMul, Nat.mul_one, Nat.one_mul, Nat.zero_mul, Nat.sub_zero, decide_true, decide_false, Bool.and_self, Bool.and_true, Bool.true_and, Bool.false_and, Bool.and_false, Bool.not_true, Bool.not_false, List.length_cons, List.length_nil, us_len, is_len, tb_len, dl_len, us_set, is_set, tb_set, Nat.not_lt_zero, List.nil_append, us_rep, is_rep, c0, c1, c2, k1, k2, k3, bs_len, natv_noHp]
  rw [loop_use T (fun i => ⟨[(1, .i more), (2, .vr (us 64 (dl 64 9 a)) 0), (5, .s (bs 72 a)), (7, .i (i : Int))], []⟩) 72
    (.exit 0, ⟨[(1, .i more), (2, .vr (us 64 (dl 64 9 a)) 0)], []⟩) ?h0 (by simp) ?hs ?hn]
  · simp only [Y_reg, rg_nil, rv_some, rh_some, rl_some, put_s, put_n, S_gd, gd_tt, gd_ff, gd_tf, gd_ft, gd_n, g_c, ev_t, ev_c, ea_t, ea_c, kp_nil, kp_cons, evs_nil, evs_cons, pt_nil, pt_cons, zp_nil, zp_cons, ev_i, ea_i, san_i, cells_i, cv_i, ev_u, ea_u, san_u, cells_u, cv_u, ev_b, ea_b, san_b, cells_b, cv_b, ev_s, ea_s, san_s, cells_s, cv_s, ev_agg, ea_agg, san_agg, cells_agg, ev_tup, ea_tup, san_tup, cells_tup, ev_nilp, ea_nilp, san_nilp, cells_nilp, cv_nilp, ev_vr, ea_vr, san_vr, cells_vr, cv_vr, ev_hp, ea_hp, san_hp, cells_hp, cv_hp, ev_nils, ea_nils, san_nils, cells_nils, cv_nils, ev_vs, ea_vs, san_vs, cells_vs, cv_vs, ev_hs, ea_hs, san_hs, cells_hs, cv_hs, ev_fn, ea_fn, san_fn, cells_fn, cv_fn, ev_lp, ea_lp, san_lp, cells_lp, ev_ls, ea_ls, san_ls, cells_ls, ev_undef, ea_undef, san_undef, cells_undef, ev_loc, ea_loc, san_loc, Y_seq, sq_n, sq_e, sq_r, Y_cond, cd_t, cd_f, Y_block, bk_n, bk_e, bk_x, bk_r, Y_loop, Y_exit, Y_ret, fin_r, fin_n, cellR_l, ro_t, ro_c, rcons_s, rl_nil, rl_cons, tupO_s, rs_1, rs_0, rs_2, fv_s, h0_s, rt_0, rt_2, take_nil, take_zero, all_nil, allv_nil, allv_cons, len_nil, len_cons, san_map_nil, san_map_cons, tt, tupM_s, z_i, z_u, z_b, z_s, z_nilp, z_nils, z_tup, z_ml, z_mc, hsC_s, hsR_us, hsR_is, hsB_t, hsB_f, z_hs, S_mov, S_pick, S_bin, S_eqv, S_un, S_cvi, S_cvu, S_s2b, S_b2s, S_build, S_box, S_boxv, S_boxh, S_lit, S_mks, S_off, S_idx, S_idxs, S_ld, S_ldl, S_st, S_nck, S_fld, S_idxv, S_idxb, S_sls, S_slv, S_sla, S_s2a, S_ext, S_call, S_callp, S_prim, S_len, S_lens, S_mn, S_mx, S_app, S_cpy, S_stl, pk_t, pk_f, er_f, er_t, bi_add, bi_sub, bi_mul, bi_eql, bi_neq, bi_lss, bi_leq, bi_gtr, bi_geq, bi_quo, bi_rem, qI_f, rI_f, bu_add, bu_sub, bu_mul, bu_and, bu_or, bu_xor, bu_quo, bu_rem, qU_f, rU_f, bu_eql, bu_neq, bu_lss, bu_leq, bu_gtr, bu_geq, sh_s, bu_shl, bu_shr, bi_shl, bi_shr, shlU_e, shrU_e, shlJ_e, shrJ_e, cnt_u, cnt_n, cnt_l, cnt_0, cnt_1, bs_eql, bs_neq, un_neg, un_not, un_xor, un_negu, ti_i, ti_u, tu_i, tu_u, aggO_s, bx_i, bv_i, bh_i, bx_u, bv_u, bh_u, bx_b, bv_b, bh_b, bx_s, bv_s, bh_s, bx_agg, bv_agg, bh_agg, bx_nilp, bv_nilp, bh_nilp, bx_vr, bv_vr, bh_vr, bx_hp, bv_hp, bh_hp, bx_nils, bv_nils, bh_nils, bx_vs, bv_vs, bh_vs, bx_hs, bv_hs, bh_hs, bx_fn, bv_fn, bh_fn, lit_t, lit_f, mk_o, mk_q, mk_r, ix_o, of_vr, of_hp, of_lp, ivO_s, ihO_s, ilO_s, is_vs, is_hs, is_ls, ld_vr, ld_hp, ldR_s, ldl_lp, st_hp, stR_s, stT_t, okc_1, okc_us, okc_is, sl_lp, slT_t, nc_vr, nc_hp, nc_lp, fld_a, iv_f, iv_t, ib_s, byJ_s, byR_s, bdL_s, bo_n, bo_s, bd_n, bd_s, sls_s, slsR_s, slvR_s, slhR_s, slv_vs, slv_hs, sla_lp, slaT_t, sla_vr, ex_0, ex_1, ex_2, ca_n, cR_t, cR_f, cS_s, cp_t, sc_i, sc_u, sc_b, sc_s, pa_e, ps_e, paT_t, psT_t, le_n, le_vs, le_hs, le_ls, lO_s, lT_t, lS_s, mn_i, mx_i, ap_nils, apA_t, apA_f, ap_hs, apB_s, apD_t, okA_us, okA_is, sc_n, sc_vs, sc_hs, scR_us, scR_is, nhp_i, nhp_u, nhp_b, nhp_s, nhp_nilp, nhp_nils, nhp_us, nhp_is, nhp_ag, nhp_vr, nhp_hs, nhp_hp, zm_us, zm_is, zm_ag, pt_1, fi_nil, fi_cons, fiT_t, row_0, row_1, row_2, sr_0, sr_1, sr_2, happ_n, happ_c, hset_0, hset_1, hset_2, p9, p18, spl9, spl18, Nat.le_refl, Nat.reduceLeDiff, List.drop_zero, us_take, us_drop, is_take, is_drop, List.take_zero, gn, if_true, if_false, Nat.reduceEqDiff, Int.reduceEq, reduceCtorEq, Nat.succ_ne_self, Nat.reduceAdd, Nat.zero_add, Nat.add_zero, Nat.reduceMul, Nat.mul_one, Nat.one_mul, Nat.zero_mul, Nat.sub_zero, decide_true, decide_false, Bool.and_self, Bool.and_true, Bool.true_and, Bool.false_and, Bool.and_false, Bool.not_true, Bool.not_false, List.length_cons, List.length_nil, us_len, is_len, tb_len, dl_len, us_set, is_set, tb_set, Nat.not_lt_zero, List.nil_append, us_rep, is_rep, c2, c3, c4, c5', c6, k1, k4, k5, k6, k7, k8, eq9s, natv_noHp]
  · rfl
  · intro i hi
    obtain ⟨i8, hi8⟩ : ∃ i8, i8 = 8 * i := ⟨_, rfl⟩
    obtain ⟨j, hj⟩ : ∃ j, j = 71 - i := ⟨_, rfl⟩
    have l1 : decide ((i : Int) < 72) = true := by simp; omega
    have l2 : F (w64 (8 * (i : Int))) (i8 : Int) := ⟨by rw [hi8]; unfold w64; omega⟩
    have l3 := r_natShr ha (k := i8) (by omega)
    obtain ⟨z, hz⟩ : ∃ z, z = a / 2 ^ i8 := ⟨_, rfl⟩
    rw [← hz] at l3
    have l4 : F (w64 (71 - (i : Int))) (j : Int) := ⟨by rw [hj]; unfold w64; omega⟩
    have l5 := ixOf_nat (show j < 72 by omega)
    have l6 : (bs 72 a)[j]? = some (z % 2 ^ 8) := by
      have := tb_get (f := fun j => a / 2 ^ (8 * (72 - 1 - j)) % 2 ^ 8) (show j < 72 by omega)
      rw [show 72 - 1 - j = i by omega, ← hi8, ← hz] at this
      exact this
    have l7 := ixOf_nat (n := 9) (k := 0) (by omega)
    rw [Int.natCast_zero] at l7
    have l8 := dl_part (x := z) (i := 0) (by omega)
    rw [Nat.mul_zero, Nat.pow_zero, Nat.div_one] at l8
    have l9 : (z % 2 ^ 64 &&& 255) % 2 ^ 8 = z % 2 ^ 8 := by
      have : z % 2 ^ 64 &&& 255 = z % 2 ^ 64 % 2 ^ 8 := Nat.and_two_pow_sub_one_eq_mod _ 8
      rw [this]; omega
    have l10 : decide (z % 2 ^ 8 = z % 2 ^ 8) = true := by simp
    have l11 : F (w64 ((i : Int) + 1)) ((i + 1 : Nat) : Int) := ⟨by unfold w64; omega⟩
    simp only [Y_reg, rg_nil, rv_some, rh_some, rl_some, put_s, put_n, S_gd, gd_tt, gd_ff, gd_tf, gd_ft, gd_n, g_c, ev_t, ev_c, ea_t, ea_c, kp_nil, kp_cons, evs_nil, evs_cons, pt_nil, pt_cons, zp_nil, zp_cons, ev_i, ea_i, san_i, cells_i, cv_i, ev_u, ea_u, san_u, cells_u, cv_u, ev_b, ea_b, san_b, cells_b, cv_b, ev_s, ea_s, san_s, cells_s, cv_s, ev_agg, ea_agg, san_agg, cells_agg, ev_tup, ea_tup, san_tup, cells_tup, ev_nilp, ea_nilp, san_nilp, cells_nilp, cv_nilp, ev_vr, ea_vr, san_vr, cells_vr, cv_vr, ev_hp, ea_hp, san_hp, cells_hp, cv_hp, ev_nils, ea_nils, san_nils, cells_nils, cv_nils, ev_vs, ea_vs, san_vs, cells_vs, cv_vs, ev_hs, ea_hs, san_hs, cells_hs, cv_hs, ev_fn, ea_fn, san_fn, cells_fn, cv_fn, ev_lp, ea_lp, san_lp, cells_lp, ev_ls, ea_ls, san_ls, cells_ls, ev_undef, ea_undef, san_undef, cells_undef, ev_loc, ea_loc, san_loc, Y_seq, sq_n, sq_e, sq_r, Y_cond, cd_t, cd_f, Y_block, bk_n, bk_e, bk_x, bk_r, Y_loop, Y_exit, Y_ret, fin_r, fin_n, cellR_l, ro_t, ro_c, rcons_s, rl_nil, rl_cons, tupO_s, rs_1, rs_0, rs_2, fv_s, h0_s, rt_0, rt_2, take_nil, take_zero, all_nil, allv_nil, allv_cons, len_nil, len_cons, san_map_nil, san_map_cons, tt, tupM_s, z_i, z_u, z_b, z_s, z_nilp, z_nils, z_tup, z_ml, z_mc, hsC_s, hsR_us, hsR_is, hsB_t, hsB_f, z_hs, S_mov, S_pick, S_bin, S_eqv, S_un, S_cvi, S_cvu, S_s2b, S_b2s, S_build, S_box, S_boxv, S_boxh, S_lit, S_mks, S_off, S_idx, S_idxs, S_ld, S_ldl, S_st, S_nck, S_fld, S_idxv, S_idxb, S_sls, S_slv, S_sla, S_s2a, S_ext, S_call, S_callp, S_prim, S_len, S_lens, S_mn, S_mx, S_app, S_cpy, S_stl, pk_t, pk_f, er_f, er_t, bi_add, bi_sub, bi_mul, bi_eql, bi_neq, bi_lss, bi_leq, bi_gtr, bi_geq, bi_quo, bi_rem, qI_f, rI_f, bu_add, bu_sub, bu_mul, bu_and, bu_or, bu_xor, bu_quo, bu_rem, qU_f, rU_f, bu_eql, bu_neq, bu_lss, bu_leq, bu_gtr, bu_geq, sh_s, bu_shl, bu_shr, bi_shl, bi_shr, shlU_e, shrU_e, shlJ_e, shrJ_e, cnt_u, cnt_n, cnt_l, cnt_0, cnt_1, bs_eql, bs_neq, un_neg, un_not, un_xor, un_negu, ti_i, ti_u, tu_i, tu_u, aggO_s, bx_i, bv_i, bh_i, bx_u, bv_u, bh_u, bx_b, bv_b, bh_b, bx_s, bv_s, bh_s, bx_agg, bv_agg, bh_agg, bx_nilp, bv_nilp, bh_nilp, bx_vr, bv_vr, bh_vr, bx_hp, bv_hp, bh_hp, bx_nils, bv_nils, bh_nils, bx_vs, bv_vs, bh_vs, bx_hs, bv_hs, bh_hs, bx_fn, bv_fn, bh_fn, lit_t, lit_f, mk_o, mk_q, mk_r, ix_o, of_vr, of_hp, of_lp, ivO_s, ihO_s, ilO_s, is_vs, is_hs, is_ls, ld_vr, ld_hp, ldR_s, ldl_lp, st_hp, stR_s, stT_t, okc_1, okc_us, okc_is, sl_lp, slT_t, nc_vr, nc_hp, nc_lp, fld_a, iv_f, iv_t, ib_s, byJ_s, byR_s, bdL_s, bo_n, bo_s, bd_n, bd_s, sls_s, slsR_s, slvR_s, slhR_s, slv_vs, slv_hs, sla_lp, slaT_t, sla_vr, ex_0, ex_1, ex_2, ca_n, cR_t, cR_f, cS_s, cp_t, sc_i, sc_u, sc_b, sc_s, pa_e, ps_e, paT_t, psT_t, le_n, le_vs, le_hs, le_ls, lO_s, lT_t, lS_s, mn_i, mx_i, ap_nils, apA_t, apA_f, ap_hs, apB_s, apD_t, okA_us, okA_is, sc_n, sc_vs, sc_hs, scR_us, scR_is, nhp_i, nhp_u, nhp_b, nhp_s, nhp_nilp, nhp_nils, nhp_us, nhp_is, nhp_ag, nhp_vr, nhp_hs, nhp_hp, zm_us, zm_is, zm_ag, pt_1, fi_nil, fi_cons, fiT_t, row_0, row_1, row_2, sr_0, sr_1, sr_2, happ_n, happ_c, hset_0, hset_1, hset_2, p9, p18, spl9, spl18, Nat.le_refl, Nat.reduceLeDiff, List.drop_zero, us_take, us_drop, is_take, is_drop, List.take_zero, gn, if_true, if_false, Nat.reduceEqDiff, Int.reduceEq, reduceCtorEq, Nat.succ_ne_self, Nat.reduceAdd, Nat.zero_add, Nat.add_zero, Nat.reduceMul, Nat.mul_one, Nat.one_mul, Nat.zero_mul, Nat.sub_zero, decide_true, decide_false, Bool.and_self, Bool.and_true, Bool.true_and, Bool.false_and, Bool.and_false, Bool.not_true, Bool.not_false, List.length_cons, List.length_nil, us_len, is_len, tb_len, dl_len, us_set, is_set, tb_set, Nat.not_lt_zero, List.nil_append, us_rep, is_rep, zero9, c2, k1, l1, l2.eq, l3, l4.eq, l5, l6, l7, l8, l9, l10, l11.eq, bs_len, natv_noHp]
  · have l1 : decide (((72 : Nat) : Int) < 72) = false := by simp
    simp only [Y_reg, rg_nil, rv_some, rh_some, rl_some, put_s, put_n, S_gd, gd_tt, gd_ff, gd_tf, gd_ft, gd_n, g_c, ev_t, ev_c, ea_t, ea_c, kp_nil, kp_cons, evs_nil, evs_cons, pt_nil, pt_cons, zp_nil, zp_cons, ev_i, ea_i, san_i, cells_i, cv_i, ev_u, ea_u, san_u, cells_u, cv_u, ev_b, ea_b, san_b, cells_b, cv_b, ev_s, ea_s, san_s, cells_s, cv_s, ev_agg, ea_agg, san_agg, cells_agg, ev_tup, ea_tup, san_tup, cells_tup, ev_nilp, ea_nilp, san_nilp, cells_nilp, cv_nilp, ev_vr, ea_vr, san_vr, cells_vr, cv_vr, ev_hp, ea_hp, san_hp, cells_hp, cv_hp, ev_nils, ea_nils, san_nils, cells_nils, cv_nils, ev_vs, ea_vs, san_vs, cells_vs, cv_vs, ev_hs, ea_hs, san_hs, cells_hs, cv_hs, ev_fn, ea_fn, san_fn, cells_fn, cv_fn, ev_lp, ea_lp, san_lp, cells_lp, ev_ls, ea_ls, san_ls, cells_ls, ev_undef, ea_undef, san_undef, cells_undef, ev_loc, ea_loc, san_loc, Y_seq, sq_n, sq_e, sq_r, Y_cond, cd_t, cd_f, Y_block, bk_n, bk_e, bk_x, bk_r, Y_loop, Y_exit, Y_ret, fin_r, fin_n, cellR_l, ro_t, ro_c, rcons_s, rl_nil, rl_cons, tupO_s, rs_1, rs_0, rs_2, fv_s, h0_s, rt_0, rt_2, take_nil, take_zero, all_nil, allv_nil, allv_cons, len_nil, len_cons, san_map_nil, san_map_cons, tt, tupM_s, z_i, z_u, z_b, z_s, z_nilp, z_nils, z_tup, z_ml, z_mc, hsC_s, hsR_us, hsR_is, hsB_t, hsB_f, z_hs, S_mov, S_pick, S_bin, S_eqv, S_un, S_cvi, S_cvu, S_s2b, S_b2s, S_build, S_box, S_boxv, S_boxh, S_lit, S_mks, S_off, S_idx, S_idxs, S_ld, S_ldl, S_st, S_nck, S_fld, S_idxv, S_idxb, S_sls, S_slv, S_sla, S_s2a, S_ext, S_call, S_callp, S_prim, S_len, S_lens, S_mn, S_mx, S_app, S_cpy, S_stl, pk_t, pk_f, er_f, er_t, bi_add, bi_sub, bi_mul, bi_eql, bi_neq, bi_lss, bi_leq, bi_gtr, bi_geq, bi_quo, bi_rem, qI_f, rI_f, bu_add, bu_sub, bu_mul, bu_and, bu_or, bu_xor, bu_quo, bu_rem, qU_f, rU_f, bu_eql, bu_neq, bu_lss, bu_leq, bu_gtr, bu_geq, sh_s, bu_shl, bu_shr, bi_shl, bi_shr, shlU_e, shrU_e, shlJ_e, shrJ_e, cnt_u, cnt_n, cnt_l, cnt_0, cnt_1, bs_eql, bs_neq, un_neg, un_not, un_xor, un_negu, ti_i, ti_u, tu_i, tu_u, aggO_s, bx_i, bv_i, bh_i, bx_u, bv_u, bh_u, bx_b, bv_b, bh_b, bx_s, bv_s, bh_s, bx_agg, bv_agg, bh_agg, bx_nilp, bv_nilp, bh_nilp, bx_vr, bv_vr, bh_vr, bx_hp, bv_hp, bh_hp, bx_nils, bv_nils, bh_nils, bx_vs, bv_vs, bh_vs, bx_hs, bv_hs, bh_hs, bx_fn, bv_fn, bh_fn, lit_t, lit_f, mk_o, mk_q, mk_r, ix_o, of_vr, of_hp, of_lp, ivO_s, ihO_s, ilO_s, is_vs, is_hs, is_ls, ld_vr, ld_hp, ldR_s, ldl_lp, st_hp, stR_s, stT_t, okc_1, okc_us, okc_is, sl_lp, slT_t, nc_vr, nc_hp, nc_lp, fld_a, iv_f, iv_t, ib_s, byJ_s, byR_s, bdL_s, bo_n, bo_s, bd_n, bd_s, sls_s, slsR_s, slvR_s, slhR_s, slv_vs, slv_hs, sla_lp, slaT_t, sla_vr, ex_0, ex_1, ex_2, ca_n, cR_t, cR_f, cS_s, cp_t, sc_i, sc_u, sc_b, sc_s, pa_e, ps_e, paT_t, psT_t, le_n, le_vs, le_hs, le_ls, lO_s, lT_t, lS_s, mn_i, mx_i, ap_nils, apA_t, apA_f, ap_hs, apB_s, apD_t, okA_us, okA_is, sc_n, sc_vs, sc_hs, scR_us, scR_is, nhp_i, nhp_u, nhp_b, nhp_s, nhp_nilp, nhp_nils, nhp_us, nhp_is, nhp_ag, nhp_vr, nhp_hs, nhp_hp, zm_us, zm_is, zm_ag, pt_1, fi_nil, fi_cons, fiT_t, row_0, row_1, row_2, sr_0, sr_1, sr_2, happ_n, happ_c, hset_0, hset_1, hset_2, p9, p18, spl9, spl18, Nat.le_refl, Nat.reduceLeDiff, List.drop_zero, us_take, us_drop, is_take, is_drop, List.take_zero, gn, if_true, if_false, Nat.reduceEqDiff, Int.reduceEq, reduceCtorEq, Nat.succ_ne_self, Nat.reduceAdd, Nat.zero_add, Nat.add_zero, Nat.reduceMul, Nat.mul_one, Nat.one_mul, Nat.zero_mul, Nat.sub_zero, decide_true, decide_false, Bool.and_self, Bool.and_true, Bool.true_and, Bool.false_and, Bool.and_false, Bool.not_true, Bool.not_false, List.length_cons, List.length_nil, us_len, is_len, tb_len, dl_len, us_set, is_set, tb_set, Nat.not_lt_zero, List.nil_append, us_rep, is_rep, l1]

end Mir
