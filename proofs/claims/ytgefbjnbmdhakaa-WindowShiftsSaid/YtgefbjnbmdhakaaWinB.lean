/- Chapter 17: a scalar's digits. Conditions: none. -/
import Derived.Test.YtgefbjnbmdhakaaWinA
set_option linter.unusedVariables false
set_option linter.unusedSimpArgs false
set_option exponentiation.threshold 5000
set_option maxRecDepth 20000
namespace Mir

theorem is_snoc (L : List Int) (z : Int) : is L ++ [V.i z] = is (L ++ [z]) := by simp [is]

/-- So many digits of w bits, the highest first. -/
def dgt (x w n j : Nat) : Nat := x / 2 ^ ((n - 1 - j) * w) % 2 ^ w
def ints (n : Nat) (f : Nat → Nat) : List V := is (tb n fun j => ((f j : Nat) : Int))

theorem tb_take_self {α : Type} (n : Nat) (f : Nat → α) : (tb n f).take n = tb n f := tb_take (Nat.le_refl n) f

/-- Memory after so many appends. -/
def apH (f : Nat → Nat) : Nat → Heap
  | 0 => []
  | i + 1 => List.replicate i none ++ [some (ints (i + 1) f)]
def apV : Nat → V
  | 0 => .nils
  | i + 1 => .hs 1 i 0 (i + 1) (i + 1)

theorem apH_len (f : Nat → Nat) (i : Nat) : (apH f i).length = i := by
  cases i with
  | zero => rfl
  | succ i => simp [apH]
theorem apH_row (f : Nat → Nat) (i : Nat) : row (apH f (i + 1)) i = some (ints (i + 1) f) := by
  simp [row, apH]
theorem apH_next (f : Nat → Nat) (i : Nat) : (apH f (i + 1)).set i none ++ [some (ints (i + 2) f)] = apH f (i + 2) := by
  have : ((List.replicate i (none : Option (List V)) ++ [some (ints (i + 1) f)]).set i none) = List.replicate (i + 1) none := by
    apply List.ext_getElem
    · simp
    · intro k h1 h2
      simp only [List.length_set, List.length_append, List.length_replicate, List.length_singleton] at h1
      by_cases h : k = i
      · subst h; simp
      · rw [List.getElem_set_ne (Ne.symm h)]
        rw [List.getElem_append_left (by simp; omega)]
        simp
  simp only [apH, this]

/-- One append more. -/
theorem apd_step (f : Nat → Nat) (i z : Nat) (hz : z = f i) (hi : i < 1000000) : appO (apH f i) 1 8 (some [V.i (z : Int)]) (some 1) (apV i) = some (apV (i + 1), apH f (i + 1)) := by
  subst hz
  have okc1 : okA 1 8 (i + 1) 1 [V.i ((f i : Nat) : Int)] = true := by
    simp [okA, roomOk, cellV]
    omega
  cases i with
  | zero =>
    have okc0 : okA 1 8 1 1 [V.i ((f 0 : Nat) : Int)] = true := okc1
    have h1 : decide (1 = 0) = false := rfl
    simp only [apV, ap_nils, okc0, h1, apA_f, apH]
    rfl
  | succ i =>
    have h1 : decide (0 + (i + 1) * 1 ≤ (ints (i + 1) f).length) = true := by simp [ints, is_len, tb_len]
    have h2 : ((ints (i + 1) f).drop 0).take ((i + 1) * 1) ++ [V.i ((f (i + 1) : Nat) : Int)] = ints (i + 2) f := by
      simp only [ints, List.drop_zero, Nat.mul_one, is_take, tb_take_self, is_snoc]
      rw [tb_snoc (i + 1)]
    simp only [apV, ap_hs, apH_row, apB_s, h1, okc1, apD_t, h2, apH_next, apH_len]

theorem r_Digits {x b w : Nat} (hx : x < M) (hb1 : 1 ≤ b) (hb : b ≤ 576) (hw1 : 1 ≤ w) (hw : w ≤ 6) (hbl : bl x ≤ b) :
    Run T f_window_Digits [natv x, .i (b : Int), .i (w : Int)] [] = some (.tup [.vs ((b + w - 1) / w) (ints ((b + w - 1) / w) (dgt x w ((b + w - 1) / w))), .i 0], []) := by
  rw [Run_at T _ (show T f_window_Digits = some m_window_Digits from rfl)]
  simp only [c_window_Digits]
  obtain ⟨n, hn⟩ : ∃ n, n = (b + w - 1) / w := ⟨_, rfl⟩
  rw [← hn]
  have hmul : (b + w - 1) / w * w ≤ b + w - 1 := Nat.div_mul_le_self _ _
  rw [← hn] at hmul
  have hn1 : 1 ≤ n := by rw [hn, Nat.le_div_iff_mul_le (by omega)]; omega
  have hn2 : n ≤ 581 := by
    have : n ≤ b + w - 1 := by rw [hn]; exact Nat.div_le_self _ _
    omega
  have c1 := r_wide (w : Int)
  have c2 : decide (1 ≤ (w : Int) ∧ (w : Int) ≤ 6) = true := by simp; omega
  rw [c2] at c1
  have c3 := r_natBits hx
  have g1 : decide ((b : Int) < 1) = false := by simp; omega
  have g2 : decide ((576 : Int) < (b : Int)) = false := by simp; omega
  have g3 : decide ((b : Int) < ((bl x : Nat) : Int)) = false := by simp; omega
  obtain ⟨bw, hbw⟩ : ∃ bw : Nat, bw = b + w := ⟨_, rfl⟩
  obtain ⟨bw1, hbw1⟩ : ∃ bw1 : Nat, bw1 = b + w - 1 := ⟨_, rfl⟩
  obtain ⟨a, ha⟩ : ∃ a : Nat → Int, ∀ i, a i = (n : Int) - 1 - (i : Int) := ⟨_, fun _ => rfl⟩
  have a0 := ha 0
  have hn' : n = bw1 / w := by rw [hn, hbw1]
  have g4 : F (w64 ((b : Int) + (w : Int))) (bw : Int) := ⟨by unfold w64; omega⟩
  have g5 : F (w64 ((bw : Int) - 1)) (bw1 : Int) := ⟨by unfold w64; omega⟩
  have g6 : F (w64 (Int.tdiv (bw1 : Int) (w : Int))) (n : Int) := ⟨by
    rw [Int.tdiv_eq_ediv_of_nonneg (by omega), ← Int.natCast_ediv, ← hn']
    exact w64_of (by omega) (by omega)⟩
  have g7 : decide ((w : Int) = 0) = false := by simp; omega
  have g8 : F (w64 ((n : Int) - 1)) (a 0) := ⟨by unfold w64; omega⟩
  obtain ⟨f, hf⟩ : ∃ f : Nat → Nat, ∀ j, f j = dgt x w n j := ⟨_, fun _ => rfl⟩
  have hff : ints n (dgt x w n) = ints n f := by
    simp only [ints]; congr 1; exact tb_congr fun j hj => by rw [hf]
  rw [hff]
  simp only [Y_reg, rg_nil, rv_some, rh_some, rl_some, put_s, put_n, S_gd, gd_tt, gd_ff, gd_tf, gd_ft, gd_n, g_c, ev_t, ev_c, ea_t, ea_c, kp_nil, kp_cons, evs_nil, evs_cons, pt_nil, pt_cons, zp_nil, zp_cons, ev_i, ea_i, san_i, cells_i, cv_i, ev_u, ea_u, san_u, cells_u, cv_u, ev_b, ea_b, san_b, cells_b, cv_b, ev_s, ea_s, san_s, cells_s, cv_s, ev_agg, ea_agg, san_agg, cells_agg, ev_tup, ea_tup, san_tup, cells_tup, ev_nilp, ea_nilp, san_nilp, cells_nilp, cv_nilp, ev_vr, ea_vr, san_vr, cells_vr, cv_vr, ev_hp, ea_hp, san_hp, cells_hp, cv_hp, ev_nils, ea_nils, san_nils, cells_nils, cv_nils, ev_vs, ea_vs, san_vs, cells_vs, cv_vs, ev_hs, ea_hs, san_hs, cells_hs, cv_hs, ev_fn, ea_fn, san_fn, cells_fn, cv_fn, ev_lp, ea_lp, san_lp, cells_lp, ev_ls, ea_ls, san_ls, cells_ls, ev_undef, ea_undef, san_undef, cells_undef, ev_loc, ea_loc, san_loc, Y_seq, sq_n, sq_e, sq_r, Y_cond, cd_t, cd_f, Y_block, bk_n, bk_e, bk_x, bk_r, Y_loop, Y_exit, Y_ret, fin_r, fin_n, cellR_l, ro_t, ro_c, rcons_s, rl_nil, rl_cons, tupO_s, rs_1, rs_0, rs_2, fv_s, h0_s, rt_0, rt_2, take_nil, take_zero, all_nil, allv_nil, allv_cons, len_nil, len_cons, san_map_nil, san_map_cons, tt, tupM_s, z_i, z_u, z_b, z_s, z_nilp, z_nils, z_tup, z_ml, z_mc, hsC_s, hsR_us, hsR_is, hsB_t, hsB_f, z_hs, S_mov, S_pick, S_bin, S_eqv, S_un, S_cvi, S_cvu, S_s2b, S_b2s, S_build, S_box, S_boxv, S_boxh, S_lit, S_mks, S_off, S_idx, S_idxs, S_ld, S_ldl, S_st, S_nck, S_fld, S_idxv, S_idxb, S_sls, S_slv, S_sla, S_s2a, S_ext, S_call, S_callp, S_prim, S_len, S_lens, S_mn, S_mx, S_app, S_cpy, S_stl, pk_t, pk_f, er_f, er_t, bi_add, bi_sub, bi_mul, bi_eql, bi_neq, bi_lss, bi_leq, bi_gtr, bi_geq, bi_quo, bi_rem, qI_f, rI_f, bu_add, bu_sub, bu_mul, bu_and, bu_or, bu_xor, bu_quo, bu_rem, qU_f, rU_f, bu_eql, bu_neq, bu_lss, bu_leq, bu_gtr, bu_geq, sh_s, bu_shl, bu_shr, bi_shl, bi_shr, shlU_e, shrU_e, shlJ_e, shrJ_e, cnt_u, cnt_n, cnt_l, cnt_0, cnt_1, bs_eql, bs_neq, un_neg, un_not, un_xor, un_negu, ti_i, ti_u, tu_i, tu_u, aggO_s, bx_i, bv_i, bh_i, bx_u, bv_u, bh_u, bx_b, bv_b, bh_b, bx_s, bv_s, bh_s, bx_agg, bv_agg, bh_agg, bx_nilp, bv_nilp, bh_nilp, bx_vr, bv_vr, bh_vr, bx_hp, bv_hp, bh_hp, bx_nils, bv_nils, bh_nils, bx_vs, bv_vs, bh_vs, bx_hs, bv_hs, bh_hs, bx_fn, bv_fn, bh_fn, lit_t, lit_f, mk_o, mk_q, mk_r, ix_o, of_vr, of_hp, of_lp, ivO_s, ihO_s, ilO_s, is_vs, is_hs, is_ls, ld_vr, ld_hp, ldR_s, ldl_lp, st_hp, stR_s, stT_t, okc_1, okc_us, okc_is, sl_lp, slT_t, nc_vr, nc_hp, nc_lp, fld_a, iv_f, iv_t, ib_s, byJ_s, byR_s, bdL_s, bo_n, bo_s, bd_n, bd_s, sls_s, slsR_s, slvR_s, slhR_s, slv_vs, slv_hs, sla_lp, slaT_t, sla_vr, ex_0, ex_1, ex_2, ca_n, cR_t, cR_f, cS_s, cp_t, sc_i, sc_u, sc_b, sc_s, pa_e, ps_e, paT_t, psT_t, le_n, le_vs, le_hs, le_ls, lO_s, lT_t, lS_s, mn_i, mx_i, ap_nils, apA_t, apA_f, ap_hs, apB_s, apD_t, okA_us, okA_is, sc_n, sc_vs, sc_hs, scR_us, scR_is, nhp_i, nhp_u, nhp_b, nhp_s, nhp_nilp, nhp_nils, nhp_us, nhp_is, nhp_ag, nhp_vr, nhp_hs, nhp_hp, zm_us, zm_is, zm_ag, pt_1, fi_nil, fi_cons, fiT_t, row_0, row_1, row_2, sr_0, sr_1, sr_2, happ_n, happ_c, hset_0, hset_1, hset_2, p9, p18, spl9, spl18, Nat.le_refl, Nat.reduceLeDiff, List.drop_zero, us_take, us_drop, is_take, is_drop, List.take_zero, gn, if_true, if_false, Nat.reduceEqDiff, Int.reduceEq, reduceCtorEq, Nat.succ_ne_self, Nat.reduceAdd, Nat.zero_add, Nat.add_zero, Nat.reduceMul, Nat.mul_one, Nat.one_mul, Nat.zero_mul, Nat.sub_zero, decide_true, decide_false, Bool.and_self, Bool.and_true, Bool.true_and, Bool.false_and, Bool.and_false, Bool.not_true, Bool.not_false, List.length_cons, List.length_nil, us_len, is_len, tb_len, dl_len, us_set, is_set, tb_set, Nat.not_lt_zero, List.nil_append, us_rep, is_rep, c1, c3, g1, g2, g3, g4.eq, g5.eq, g6.eq, g7, g8.eq, natv_noHp]
  rw [loop_use T (fun i => ⟨[(2, .i (w : Int)), (3, .vr (us 64 (dl 64 9 x)) 0), (8, apV i), (9, .i (a i))], apH f i⟩) n
    (.exit 0, ⟨[(8, apV n)], apH f n⟩) ?h0 (by simp) ?hs ?hn]
  · obtain ⟨m, rfl⟩ : ∃ m, n = m + 1 := ⟨n - 1, by omega⟩
    have k1 := apH_row f m
    have k2 : (ints (m + 1) f).length = m + 1 := by simp [ints, is_len, tb_len]
    simp only [apV, ints] at k1 k2 ⊢
    simp only [Y_reg, rg_nil, rv_some, rh_some, rl_some, put_s, put_n, S_gd, gd_tt, gd_ff, gd_tf, gd_ft, gd_n, g_c, ev_t, ev_c, ea_t, ea_c, kp_nil, kp_cons, evs_nil, evs_cons, pt_nil, pt_cons, zp_nil, zp_cons, ev_i, ea_i, san_i, cells_i, cv_i, ev_u, ea_u, san_u, cells_u, cv_u, ev_b, ea_b, san_b, cells_b, cv_b, ev_s, ea_s, san_s, cells_s, cv_s, ev_agg, ea_agg, san_agg, cells_agg, ev_tup, ea_tup, san_tup, cells_tup, ev_nilp, ea_nilp, san_nilp, cells_nilp, cv_nilp, ev_vr, ea_vr, san_vr, cells_vr, cv_vr, ev_hp, ea_hp, san_hp, cells_hp, cv_hp, ev_nils, ea_nils, san_nils, cells_nils, cv_nils, ev_vs, ea_vs, san_vs, cells_vs, cv_vs, ev_hs, ea_hs, san_hs, cells_hs, cv_hs, ev_fn, ea_fn, san_fn, cells_fn, cv_fn, ev_lp, ea_lp, san_lp, cells_lp, ev_ls, ea_ls, san_ls, cells_ls, ev_undef, ea_undef, san_undef, cells_undef, ev_loc, ea_loc, san_loc, Y_seq, sq_n, sq_e, sq_r, Y_cond, cd_t, cd_f, Y_block, bk_n, bk_e, bk_x, bk_r, Y_loop, Y_exit, Y_ret, fin_r, fin_n, cellR_l, ro_t, ro_c, rcons_s, rl_nil, rl_cons, tupO_s, rs_1, rs_0, rs_2, fv_s, h0_s, rt_0, rt_2, take_nil, take_zero, all_nil, allv_nil, allv_cons, len_nil, len_cons, san_map_nil, san_map_cons, tt, tupM_s, z_i, z_u, z_b, z_s, z_nilp, z_nils, z_tup, z_ml, z_mc, hsC_s, hsR_us, hsR_is, hsB_t, hsB_f, z_hs, S_mov, S_pick, S_bin, S_eqv, S_un, S_cvi, S_cvu, S_s2b, S_b2s, S_build, S_box, S_boxv, S_boxh, S_lit, S_mks, S_off, S_idx, S_idxs, S_ld, S_ldl, S_st, S_nck, S_fld, S_idxv, S_idxb, S_sls, S_slv, S_sla, S_s2a, S_ext, S_call, S_callp, S_prim, S_len, S_lens, S_mn, S_mx, S_app, S_cpy, S_stl, pk_t, pk_f, er_f, er_t, bi_add, bi_sub, bi_mul, bi_eql, bi_neq, bi_lss, bi_leq, bi_gtr, bi_geq, bi_quo, bi_rem, qI_f, rI_f, bu_add, bu_sub, bu_mul, bu_and, bu_or, bu_xor, bu_quo, bu_rem, qU_f, rU_f, bu_eql, bu_neq, bu_lss, bu_leq, bu_gtr, bu_geq, sh_s, bu_shl, bu_shr, bi_shl, bi_shr, shlU_e, shrU_e, shlJ_e, shrJ_e, cnt_u, cnt_n, cnt_l, cnt_0, cnt_1, bs_eql, bs_neq, un_neg, un_not, un_xor, un_negu, ti_i, ti_u, tu_i, tu_u, aggO_s, bx_i, bv_i, bh_i, bx_u, bv_u, bh_u, bx_b, bv_b, bh_b, bx_s, bv_s, bh_s, bx_agg, bv_agg, bh_agg, bx_nilp, bv_nilp, bh_nilp, bx_vr, bv_vr, bh_vr, bx_hp, bv_hp, bh_hp, bx_nils, bv_nils, bh_nils, bx_vs, bv_vs, bh_vs, bx_hs, bv_hs, bh_hs, bx_fn, bv_fn, bh_fn, lit_t, lit_f, mk_o, mk_q, mk_r, ix_o, of_vr, of_hp, of_lp, ivO_s, ihO_s, ilO_s, is_vs, is_hs, is_ls, ld_vr, ld_hp, ldR_s, ldl_lp, st_hp, stR_s, stT_t, okc_1, okc_us, okc_is, sl_lp, slT_t, nc_vr, nc_hp, nc_lp, fld_a, iv_f, iv_t, ib_s, byJ_s, byR_s, bdL_s, bo_n, bo_s, bd_n, bd_s, sls_s, slsR_s, slvR_s, slhR_s, slv_vs, slv_hs, sla_lp, slaT_t, sla_vr, ex_0, ex_1, ex_2, ca_n, cR_t, cR_f, cS_s, cp_t, sc_i, sc_u, sc_b, sc_s, pa_e, ps_e, paT_t, psT_t, le_n, le_vs, le_hs, le_ls, lO_s, lT_t, lS_s, mn_i, mx_i, ap_nils, apA_t, apA_f, ap_hs, apB_s, apD_t, okA_us, okA_is, sc_n, sc_vs, sc_hs, scR_us, scR_is, nhp_i, nhp_u, nhp_b, nhp_s, nhp_nilp, nhp_nils, nhp_us, nhp_is, nhp_ag, nhp_vr, nhp_hs, nhp_hp, zm_us, zm_is, zm_ag, pt_1, fi_nil, fi_cons, fiT_t, row_0, row_1, row_2, sr_0, sr_1, sr_2, happ_n, happ_c, hset_0, hset_1, hset_2, p9, p18, spl9, spl18, Nat.le_refl, Nat.reduceLeDiff, List.drop_zero, us_take, us_drop, is_take, is_drop, List.take_zero, gn, if_true, if_false, Nat.reduceEqDiff, Int.reduceEq, reduceCtorEq, Nat.succ_ne_self, Nat.reduceAdd, Nat.zero_add, Nat.add_zero, Nat.reduceMul, Nat.mul_one, Nat.one_mul, Nat.zero_mul, Nat.sub_zero, decide_true, decide_false, Bool.and_self, Bool.and_true, Bool.true_and, Bool.false_and, Bool.and_false, Bool.not_true, Bool.not_false, List.length_cons, List.length_nil, us_len, is_len, tb_len, dl_len, us_set, is_set, tb_set, Nat.not_lt_zero, List.nil_append, us_rep, is_rep, k1, Nat.not_lt_zero, tb_take_self]
  · rfl
  · intro i hi
    obtain ⟨m, hm⟩ : ∃ m, m = n - 1 - i := ⟨_, rfl⟩
    have hai : a i = (m : Int) := by rw [ha]; omega
    have hai1 : a (i + 1) = (m : Int) - 1 := by rw [ha]; omega
    obtain ⟨t, ht⟩ : ∃ t, t = m * w := ⟨_, rfl⟩
    have htb : t ≤ 575 := by
      have h1 : t + w ≤ n * w := by
        rw [ht, ← Nat.succ_mul]
        exact Nat.mul_le_mul_right _ (by omega)
      omega
    have k1 : decide ((0 : Int) ≤ a i) = true := by rw [hai]; simp
    have k2 : F (w64 (a i * (w : Int))) (t : Int) := ⟨by rw [hai, ← Int.natCast_mul, ← ht]; exact w64_of (by omega) (by omega)⟩
    have k3 : (if (576 : Int) < (t : Int) then (576 : Int) else (t : Int)) = (t : Int) := if_neg (by omega)
    have k4 := r_natShr hx (k := t) (by omega)
    obtain ⟨y, hy⟩ : ∃ y, y = x / 2 ^ t := ⟨_, rfl⟩
    rw [← hy] at k4
    have k5 := ixOf_nat (n := 9) (k := 0) (by omega)
    rw [Int.natCast_zero] at k5
    have k6 := dl_part (x := y) (i := 0) (by omega)
    rw [Nat.mul_zero, Nat.pow_zero, Nat.div_one] at k6
    have k7 : F (min w 64) w := ⟨by omega⟩
    have k8 := mask64 (y % 2 ^ 64) (k := w) (by omega)
    have k9 : y % 2 ^ 64 % 2 ^ w = f i := by
      rw [Nat.mod_mod_of_dvd _ (Nat.pow_dvd_pow 2 (by omega : w ≤ 64)), hf, dgt, ← hm, ← ht, hy]
    rw [k9] at k8
    have hfl : f i < 2 ^ 6 := by rw [← k9]; exact Nat.lt_of_lt_of_le (Nat.mod_lt _ (Nat.two_pow_pos w)) (Nat.pow_le_pow_right (by omega) hw)
    have k10 : F (w64 ((f i : Nat) : Int)) ((f i : Nat) : Int) := ⟨w64_of (by omega) (by omega)⟩
    have k11 := apd_step f i (f i) rfl (by omega)
    have k12 : F (w64 (a i - 1)) (a (i + 1)) := ⟨by rw [hai, hai1]; exact w64_of (by omega) (by omega)⟩
    have k13 : splice (us 64 (dl 64 9 0)) 0 (us 64 (dl 64 9 y)) = us 64 (dl 64 9 y) := sp_us (by rw [us_len, dl_len, dl_len])
    have k14 : splice [V.i 0] 0 [V.i ((f i : Nat) : Int)] = [V.i ((f i : Nat) : Int)] := rfl
    have k15 : okc 1 [V.i ((f i : Nat) : Int)] 0 [V.i 0].length = true := by simp [okc, cellV]
    have k16 : evV (apV i) = apV i := by cases i <;> rfl
    have k17 : san (apV i) = apV i := by cases i <;> rfl
    have k18 : evV (apV (i + 1)) = apV (i + 1) := rfl
    have k19 : san (apV (i + 1)) = apV (i + 1) := rfl
    simp only [Nat.one_mul] at k8
    simp only [Y_reg, rg_nil, rv_some, rh_some, rl_some, put_s, put_n, S_gd, gd_tt, gd_ff, gd_tf, gd_ft, gd_n, g_c, ev_t, ev_c, ea_t, ea_c, kp_nil, kp_cons, evs_nil, evs_cons, pt_nil, pt_cons, zp_nil, zp_cons, ev_i, ea_i, san_i, cells_i, cv_i, ev_u, ea_u, san_u, cells_u, cv_u, ev_b, ea_b, san_b, cells_b, cv_b, ev_s, ea_s, san_s, cells_s, cv_s, ev_agg, ea_agg, san_agg, cells_agg, ev_tup, ea_tup, san_tup, cells_tup, ev_nilp, ea_nilp, san_nilp, cells_nilp, cv_nilp, ev_vr, ea_vr, san_vr, cells_vr, cv_vr, ev_hp, ea_hp, san_hp, cells_hp, cv_hp, ev_nils, ea_nils, san_nils, cells_nils, cv_nils, ev_vs, ea_vs, san_vs, cells_vs, cv_vs, ev_hs, ea_hs, san_hs, cells_hs, cv_hs, ev_fn, ea_fn, san_fn, cells_fn, cv_fn, ev_lp, ea_lp, san_lp, cells_lp, ev_ls, ea_ls, san_ls, cells_ls, ev_undef, ea_undef, san_undef, cells_undef, ev_loc, ea_loc, san_loc, Y_seq, sq_n, sq_e, sq_r, Y_cond, cd_t, cd_f, Y_block, bk_n, bk_e, bk_x, bk_r, Y_loop, Y_exit, Y_ret, fin_r, fin_n, cellR_l, ro_t, ro_c, rcons_s, rl_nil, rl_cons, tupO_s, rs_1, rs_0, rs_2, fv_s, h0_s, rt_0, rt_2, take_nil, take_zero, all_nil, allv_nil, allv_cons, len_nil, len_cons, san_map_nil, san_map_cons, tt, tupM_s, z_i, z_u, z_b, z_s, z_nilp, z_nils, z_tup, z_ml, z_mc, hsC_s, hsR_us, hsR_is, hsB_t, hsB_f, z_hs, S_mov, S_pick, S_bin, S_eqv, S_un, S_cvi, S_cvu, S_s2b, S_b2s, S_build, S_box, S_boxv, S_boxh, S_lit, S_mks, S_off, S_idx, S_idxs, S_ld, S_ldl, S_st, S_nck, S_fld, S_idxv, S_idxb, S_sls, S_slv, S_sla, S_s2a, S_ext, S_call, S_callp, S_prim, S_len, S_lens, S_mn, S_mx, S_app, S_cpy, S_stl, pk_t, pk_f, er_f, er_t, bi_add, bi_sub, bi_mul, bi_eql, bi_neq, bi_lss, bi_leq, bi_gtr, bi_geq, bi_quo, bi_rem, qI_f, rI_f, bu_add, bu_sub, bu_mul, bu_and, bu_or, bu_xor, bu_quo, bu_rem, qU_f, rU_f, bu_eql, bu_neq, bu_lss, bu_leq, bu_gtr, bu_geq, sh_s, bu_shl, bu_shr, bi_shl, bi_shr, shlU_e, shrU_e, shlJ_e, shrJ_e, cnt_u, cnt_n, cnt_l, cnt_0, cnt_1, bs_eql, bs_neq, un_neg, un_not, un_xor, un_negu, ti_i, ti_u, tu_i, tu_u, aggO_s, bx_i, bv_i, bh_i, bx_u, bv_u, bh_u, bx_b, bv_b, bh_b, bx_s, bv_s, bh_s, bx_agg, bv_agg, bh_agg, bx_nilp, bv_nilp, bh_nilp, bx_vr, bv_vr, bh_vr, bx_hp, bv_hp, bh_hp, bx_nils, bv_nils, bh_nils, bx_vs, bv_vs, bh_vs, bx_hs, bv_hs, bh_hs, bx_fn, bv_fn, bh_fn, lit_t, lit_f, mk_o, mk_q, mk_r, ix_o, of_vr, of_hp, of_lp, ivO_s, ihO_s, ilO_s, is_vs, is_hs, is_ls, ld_vr, ld_hp, ldR_s, ldl_lp, st_hp, stR_s, stT_t, okc_1, okc_us, okc_is, sl_lp, slT_t, nc_vr, nc_hp, nc_lp, fld_a, iv_f, iv_t, ib_s, byJ_s, byR_s, bdL_s, bo_n, bo_s, bd_n, bd_s, sls_s, slsR_s, slvR_s, slhR_s, slv_vs, slv_hs, sla_lp, slaT_t, sla_vr, ex_0, ex_1, ex_2, ca_n, cR_t, cR_f, cS_s, cp_t, sc_i, sc_u, sc_b, sc_s, pa_e, ps_e, paT_t, psT_t, le_n, le_vs, le_hs, le_ls, lO_s, lT_t, lS_s, mn_i, mx_i, ap_nils, apA_t, apA_f, ap_hs, apB_s, apD_t, okA_us, okA_is, sc_n, sc_vs, sc_hs, scR_us, scR_is, nhp_i, nhp_u, nhp_b, nhp_s, nhp_nilp, nhp_nils, nhp_us, nhp_is, nhp_ag, nhp_vr, nhp_hs, nhp_hp, zm_us, zm_is, zm_ag, pt_1, fi_nil, fi_cons, fiT_t, row_0, row_1, row_2, sr_0, sr_1, sr_2, happ_n, happ_c, hset_0, hset_1, hset_2, p9, p18, spl9, spl18, Nat.le_refl, Nat.reduceLeDiff, List.drop_zero, us_take, us_drop, is_take, is_drop, List.take_zero, gn, if_true, if_false, Nat.reduceEqDiff, Int.reduceEq, reduceCtorEq, Nat.succ_ne_self, Nat.reduceAdd, Nat.zero_add, Nat.add_zero, Nat.reduceMul, Nat.mul_one, Nat.one_mul, Nat.zero_mul, Nat.sub_zero, decide_true, decide_false, Bool.and_self, Bool.and_true, Bool.true_and, Bool.false_and, Bool.and_false, Bool.not_true, Bool.not_false, List.length_cons, List.length_nil, us_len, is_len, tb_len, dl_len, us_set, is_set, tb_set, Nat.not_lt_zero, List.nil_append, us_rep, is_rep, zero9, k1, k2.eq, k3, k4, k5, k6, k7.eq, k8, k10.eq, k11, k12.eq, k13, k14, k15, k16, k17, k18, k19, natv_noHp]
  · have k1 : decide ((0 : Int) ≤ a n) = false := decide_eq_false (by rw [ha]; omega)
    have k17 : san (apV n) = apV n := by cases n <;> rfl
    simp only [Y_reg, rg_nil, rv_some, rh_some, rl_some, put_s, put_n, S_gd, gd_tt, gd_ff, gd_tf, gd_ft, gd_n, g_c, ev_t, ev_c, ea_t, ea_c, kp_nil, kp_cons, evs_nil, evs_cons, pt_nil, pt_cons, zp_nil, zp_cons, ev_i, ea_i, san_i, cells_i, cv_i, ev_u, ea_u, san_u, cells_u, cv_u, ev_b, ea_b, san_b, cells_b, cv_b, ev_s, ea_s, san_s, cells_s, cv_s, ev_agg, ea_agg, san_agg, cells_agg, ev_tup, ea_tup, san_tup, cells_tup, ev_nilp, ea_nilp, san_nilp, cells_nilp, cv_nilp, ev_vr, ea_vr, san_vr, cells_vr, cv_vr, ev_hp, ea_hp, san_hp, cells_hp, cv_hp, ev_nils, ea_nils, san_nils, cells_nils, cv_nils, ev_vs, ea_vs, san_vs, cells_vs, cv_vs, ev_hs, ea_hs, san_hs, cells_hs, cv_hs, ev_fn, ea_fn, san_fn, cells_fn, cv_fn, ev_lp, ea_lp, san_lp, cells_lp, ev_ls, ea_ls, san_ls, cells_ls, ev_undef, ea_undef, san_undef, cells_undef, ev_loc, ea_loc, san_loc, Y_seq, sq_n, sq_e, sq_r, Y_cond, cd_t, cd_f, Y_block, bk_n, bk_e, bk_x, bk_r, Y_loop, Y_exit, Y_ret, fin_r, fin_n, cellR_l, ro_t, ro_c, rcons_s, rl_nil, rl_cons, tupO_s, rs_1, rs_0, rs_2, fv_s, h0_s, rt_0, rt_2, take_nil, take_zero, all_nil, allv_nil, allv_cons, len_nil, len_cons, san_map_nil, san_map_cons, tt, tupM_s, z_i, z_u, z_b, z_s, z_nilp, z_nils, z_tup, z_ml, z_mc, hsC_s, hsR_us, hsR_is, hsB_t, hsB_f, z_hs, S_mov, S_pick, S_bin, S_eqv, S_un, S_cvi, S_cvu, S_s2b, S_b2s, S_build, S_box, S_boxv, S_boxh, S_lit, S_mks, S_off, S_idx, S_idxs, S_ld, S_ldl, S_st, S_nck, S_fld, S_idxv, S_idxb, S_sls, S_slv, S_sla, S_s2a, S_ext, S_call, S_callp, S_prim, S_len, S_lens, S_mn, S_mx, S_app, S_cpy, S_stl, pk_t, pk_f, er_f, er_t, bi_add, bi_sub, bi_mul, bi_eql, bi_neq, bi_lss, bi_leq, bi_gtr, bi_geq, bi_quo, bi_rem, qI_f, rI_f, bu_add, bu_sub, bu_mul, bu_and, bu_or, bu_xor, bu_quo, bu_rem, qU_f, rU_f, bu_eql, bu_neq, bu_lss, bu_leq, bu_gtr, bu_geq, sh_s, bu_shl, bu_shr, bi_shl, bi_shr, shlU_e, shrU_e, shlJ_e, shrJ_e, cnt_u, cnt_n, cnt_l, cnt_0, cnt_1, bs_eql, bs_neq, un_neg, un_not, un_xor, un_negu, ti_i, ti_u, tu_i, tu_u, aggO_s, bx_i, bv_i, bh_i, bx_u, bv_u, bh_u, bx_b, bv_b, bh_b, bx_s, bv_s, bh_s, bx_agg, bv_agg, bh_agg, bx_nilp, bv_nilp, bh_nilp, bx_vr, bv_vr, bh_vr, bx_hp, bv_hp, bh_hp, bx_nils, bv_nils, bh_nils, bx_vs, bv_vs, bh_vs, bx_hs, bv_hs, bh_hs, bx_fn, bv_fn, bh_fn, lit_t, lit_f, mk_o, mk_q, mk_r, ix_o, of_vr, of_hp, of_lp, ivO_s, ihO_s, ilO_s, is_vs, is_hs, is_ls, ld_vr, ld_hp, ldR_s, ldl_lp, st_hp, stR_s, stT_t, okc_1, okc_us, okc_is, sl_lp, slT_t, nc_vr, nc_hp, nc_lp, fld_a, iv_f, iv_t, ib_s, byJ_s, byR_s, bdL_s, bo_n, bo_s, bd_n, bd_s, sls_s, slsR_s, slvR_s, slhR_s, slv_vs, slv_hs, sla_lp, slaT_t, sla_vr, ex_0, ex_1, ex_2, ca_n, cR_t, cR_f, cS_s, cp_t, sc_i, sc_u, sc_b, sc_s, pa_e, ps_e, paT_t, psT_t, le_n, le_vs, le_hs, le_ls, lO_s, lT_t, lS_s, mn_i, mx_i, ap_nils, apA_t, apA_f, ap_hs, apB_s, apD_t, okA_us, okA_is, sc_n, sc_vs, sc_hs, scR_us, scR_is, nhp_i, nhp_u, nhp_b, nhp_s, nhp_nilp, nhp_nils, nhp_us, nhp_is, nhp_ag, nhp_vr, nhp_hs, nhp_hp, zm_us, zm_is, zm_ag, pt_1, fi_nil, fi_cons, fiT_t, row_0, row_1, row_2, sr_0, sr_1, sr_2, happ_n, happ_c, hset_0, hset_1, hset_2, p9, p18, spl9, spl18, Nat.le_refl, Nat.reduceLeDiff, List.drop_zero, us_take, us_drop, is_take, is_drop, List.take_zero, gn, if_true, if_false, Nat.reduceEqDiff, Int.reduceEq, reduceCtorEq, Nat.succ_ne_self, Nat.reduceAdd, Nat.zero_add, Nat.add_zero, Nat.reduceMul, Nat.mul_one, Nat.one_mul, Nat.zero_mul, Nat.sub_zero, decide_true, decide_false, Bool.and_self, Bool.and_true, Bool.true_and, Bool.false_and, Bool.and_false, Bool.not_true, Bool.not_false, List.length_cons, List.length_nil, us_len, is_len, tb_len, dl_len, us_set, is_set, tb_set, Nat.not_lt_zero, List.nil_append, us_rep, is_rep, k1, k17]

end Mir
