/- Chapter 17, the law WindowShifts as the small language runs it: true of all arguments. Conditions: none. -/
import Derived.Test.YtgefbjnbmdhakaaWinD
import Derived.Test.YtgefbjnbmdhakaaAwake17
set_option linter.unusedVariables false
set_option linter.unusedSimpArgs false
set_option exponentiation.threshold 5000
set_option maxRecDepth 20000
namespace Mir

theorem ints_len (n : Nat) (f : Nat → Nat) : (ints n f).length = n := by simp [ints, is_len, tb_len]
theorem ints_cell (n : Nat) (f : Nat → Nat) : (ints n f).all cellV = true := is_cellV _
theorem ints_congr {n : Nat} {f g : Nat → Nat} (h : ∀ j, j < n → f j = g j) : ints n f = ints n g := by
  simp only [ints]; congr 1; exact tb_congr fun j hj => by rw [h j hj]
theorem app_first (n : Nat) (f : Nat → Nat) (hn : n < 1000000) : appO [some []] 1 8 (some (ints n f)) (some n) (.hs 1 0 0 0 0) = some (.hs 1 1 0 n n, [none, some (ints n f)]) := by
  have h1 : okA 1 8 (0 + n) n (ints n f) = true := by
    simp [okA, roomOk, ints_len]
    refine ⟨by omega, fun x hx => ?_⟩
    exact List.all_eq_true.1 (ints_cell n f) x hx
  rw [ap_hs, row_0, apB_s, h1]
  simp [apD]
theorem app_next (n c : Nat) (f g : Nat → Nat) (hn : n < 1000000) (hg : ∀ j, j < n → g j = f j) (hc : g n = c) : appO [none, some (ints n f)] 1 8 (some [V.i (c : Int)]) (some 1) (.hs 1 1 0 n n) = some (.hs 1 2 0 (n + 1) (n + 1), [none, none, some (ints (n + 1) g)]) := by
  have h1 : okA 1 8 (n + 1) 1 [V.i (c : Int)] = true := by
    simp [okA, roomOk, cellV]
    omega
  have h2 : ints n f ++ [V.i (c : Int)] = ints (n + 1) g := by
    rw [ints_congr (f := f) (g := g) (fun j hj => (hg j hj).symm)]
    simp only [ints, is_snoc]
    rw [tb_snoc n, hc]
  have h3 : decide (0 + n * 1 ≤ (ints n f).length) = true := by simp [ints_len]
  have h4 : ((ints n f).drop 0).take (n * 1) = ints n f := by
    rw [List.drop_zero, Nat.mul_one]
    exact List.take_of_length_le (by rw [ints_len]; exact Nat.le_refl _)
  rw [ap_hs, row_1, apB_s, h1, h3, apD_t, h4, h2]
  rfl

theorem law_WindowShifts {x : Nat} (hx : x < M) {width d : Int} (_ : -9223372036854775808 ≤ width) (_ : width < 9223372036854775808) (_ : -9223372036854775808 ≤ d) (_ : d < 9223372036854775808) :
    Run T f_curvetlaw17_WindowShifts [natv x, .i width, .i d] [] = some (.b true, []) := by
  rw [Run_at T _ (show T f_curvetlaw17_WindowShifts = some m_curvetlaw17_WindowShifts from rfl)]
  simp only [c_curvetlaw17_WindowShifts, zero9]
  have c0 := r_awake
  obtain ⟨u, hu⟩ : ∃ u, u = (width % 2 ^ 64).toNat := ⟨_, rfl⟩
  obtain ⟨u6, hu6⟩ : ∃ u6, u6 = u % 6 := ⟨_, rfl⟩
  have hu6l : u6 < 6 := by rw [hu6]; exact Nat.mod_lt _ (by omega)
  obtain ⟨w, hw⟩ : ∃ w, w = 1 + u6 := ⟨_, rfl⟩
  have g1 : F (w64 ((u6 : Nat) : Int)) (u6 : Int) := ⟨w64_of (by omega) (by omega)⟩
  have g2 : F (w64 (1 + (u6 : Int))) (w : Int) := ⟨by rw [hw]; unfold w64; omega⟩
  have g0 : decide ((6 : Nat) = 0) = false := by simp
  have c1 := r_lawNat hx (b := 500) (by omega)
  obtain ⟨y, hy⟩ : ∃ y, y = x % 2 ^ 500 := ⟨_, rfl⟩
  rw [← hy] at c1
  have hyb : y < 2 ^ 500 := by rw [hy]; exact Nat.mod_lt _ (Nat.two_pow_pos 500)
  have hyM : y < M := Nat.lt_of_lt_of_le hyb (Nat.pow_le_pow_right (by omega) (by omega))
  have c2 := r_Digits hyM (b := 500) (w := w) (by omega) (by omega) (by omega) (by omega) (bl_le_iff.2 hyb)
  have hceil := ceil_le (b := 500) (w := w) (by omega)
  obtain ⟨n, hn⟩ : ∃ n, n = (500 + w - 1) / w := ⟨_, rfl⟩
  have hn2 : n ≤ 500 + w - 1 := by rw [hn]; exact Nat.div_le_self _ _
  rw [← hn] at c2 hceil
  have hyn : y < 2 ^ (n * w) := Nat.lt_of_lt_of_le hyb (Nat.pow_le_pow_right (by omega) hceil)
  have hvv := vv_all hyn
  obtain ⟨f, hf⟩ : ∃ f : Nat → Nat, f = dgt y w n := ⟨_, rfl⟩
  have hfl : ∀ i, f i < 2 ^ w := fun i => by rw [hf]; exact dgt_lt y w n i
  rw [← hf] at c2 hvv
  obtain ⟨pw, hpw⟩ : ∃ a : Nat, a = 2 ^ w := ⟨_, rfl⟩
  have hpw64 : pw ≤ 64 := by rw [hpw]; exact Nat.pow_le_pow_right (n := 2) (by omega) (by omega : w ≤ 6)
  have hpw1 : 1 ≤ pw := by rw [hpw]; exact Nat.two_pow_pos w
  have g3 : F (w64 (1 * 2 ^ w)) (pw : Int) := ⟨by
    rw [Int.one_mul, show ((2 : Int) ^ w) = ((2 ^ w : Nat) : Int) by simp, ← hpw]; exact w64_of (by omega) (by omega)⟩
  obtain ⟨pm, hpm⟩ : ∃ pm, pm = pw - 1 := ⟨_, rfl⟩
  have g4 : F (w64 ((pw : Int) - 1)) (pm : Int) := ⟨by rw [hpm]; unfold w64; omega⟩
  obtain ⟨c, hc, c3⟩ := and_int d (k := pm) (by omega)
  have hcl : c < 2 ^ w := by rw [← hpw]; omega
  have g5 : F (min w 64) w := ⟨by omega⟩
  obtain ⟨g, hg⟩ : ∃ g : Nat → Nat, ∀ j, g j = if j = n then c else f j := ⟨_, fun _ => rfl⟩
  have hgn : g n = c := by rw [hg, if_pos rfl]
  have hgf : ∀ j, j < n → g j = f j := fun j hj => by rw [hg, if_neg (by omega)]
  have hgl : ∀ j, j < n + 1 → g j < 2 ^ w := fun j hj => by rw [hg]; split <;> first | exact hcl | exact hfl j
  have hvg : ∀ i, i ≤ n → vv w g i = vv w f i := by
    intro i
    induction i with
    | zero => intro _; rfl
    | succ i ih => intro hi; rw [vv, vv, ih (by omega), hgf i (by omega)]
  have hvn : vv w g (n + 1) = y * 2 ^ w + c := by rw [vv, hvg n (Nat.le_refl n), hvv, hgn]
  have hyw : y * 2 ^ w + c < 2 ^ 506 := by
    have h1 : (y + 1) * 2 ^ w ≤ 2 ^ 500 * 2 ^ 6 := Nat.mul_le_mul (by omega) (Nat.pow_le_pow_right (by omega) (by omega))
    rw [← Nat.pow_add, Nat.succ_mul] at h1
    exact Nat.lt_of_lt_of_le (by omega) h1
  have hywM : y * 2 ^ w + c < M := Nat.lt_of_lt_of_le hyw (Nat.pow_le_pow_right (by omega) (by omega))
  have hywM2 : y * 2 ^ w < M := by omega
  have a1 := app_first n f (by omega)
  have a2 := app_next n c f g (by omega) hgf hgn
  have c4 := r_Value (w := w) (n := n + 1) (f := g) (v := .hs 1 2 0 (n + 1) (n + 1)) (H := [none, none, some (ints (n + 1) g)]) (p := fun i => .hp 2 (0 + i * 1)) (by omega) (by omega) hgl (by omega) (by rw [hvn]; exact hywM) rfl
    (fun i hi => by rw [is_hs, ixOf_nat hi]; rfl) (fun i hi => by rw [ld_hp, row_2, ldR_s, Nat.zero_add, Nat.mul_one]; exact ints_get hi) (fun i hi => rfl) rfl rfl rfl (by
      have : (ints (n + 1) g).all (lowV 3) = true := is_low 3 _
      simp only [List.length_cons, List.length_nil, List.take_succ_cons, List.take_nil, List.all_cons, List.all_nil, lowR, this, Bool.and_self])
  rw [hvn] at c4
  have c5 := r_natShl hyM (k := w) (by omega)
  rw [Nat.mod_eq_of_lt hywM2] at c5
  have c6 := r_One (x := c) (by have : c < 64 := by omega
                                omega)
  have hcM : c < M := Nat.lt_of_le_of_lt (Nat.le_add_left c (y * 2 ^ w)) hywM
  have c7 := r_natAdd hywM2 hcM
  rw [Nat.mod_eq_of_lt hywM] at c7
  have c8 := r_Value (w := w) (n := 0) (f := g) (v := .nils) (H := []) (p := fun i => .undef) (by omega) (by omega) (fun i hi => absurd hi (by omega)) (by omega) (by rw [vv]; exact Nat.two_pow_pos _) rfl
    (fun i hi => absurd hi (by omega)) (fun i hi => absurd hi (by omega)) (fun i hi => absurd hi (by omega)) rfl rfl rfl rfl
  rw [vv] at c8
  obtain ⟨z, hz⟩ : ∃ z, z = y * 2 ^ w := ⟨_, rfl⟩
  obtain ⟨zc, hzc⟩ : ∃ zc, zc = y * 2 ^ w + c := ⟨_, rfl⟩
  rw [← hzc] at c4
  rw [← hz] at c5 c7 hzc
  rw [← hzc] at c7
  have hzcM : zc < M := by rw [hzc, hz]; exact hywM
  have e9 := eq9 hzcM hzcM
  have e0 := eq9 (x := 0) (y := 0) (Nat.two_pow_pos _) (Nat.two_pow_pos _)
  have g6 : decide (zc = zc) = true := by simp
  have g7 : decide ((0 : Nat) = 0) = true := by simp
  have g8 : decide ((0 : Int) = 0) = true := by simp
  have g9 : F (((c : Int) % 2 ^ 64).toNat) c := ⟨by
    have : c < 64 := by omega
    omega⟩
  have g10 : ∀ (k : Nat), noHp (k + 1 + 1) (.hs 1 2 0 (n + 1) (n + 1)) = false := fun k => nhp_hs ..
  have g11 : splice [V.i 0] 0 [V.i (c : Int)] = [V.i (c : Int)] := rfl
  have g12 : okc 1 [V.i (c : Int)] 0 [V.i 0].length = true := by simp [okc, cellV]
  have c9 := r_Num 0
  have e500 : ((500 : Nat) : Int) = 500 := rfl
  rw [e500] at c1 c2
  simp only [Y_reg, rg_nil, rv_some, rh_some, rl_some, put_s, put_n, S_gd, gd_tt, gd_ff, gd_tf, gd_ft, gd_n, g_c, ev_t, ev_c, ea_t, ea_c, kp_nil, kp_cons, evs_nil, evs_cons, pt_nil, pt_cons, zp_nil, zp_cons, ev_i, ea_i, san_i, cells_i, cv_i, ev_u, ea_u, san_u, cells_u, cv_u, ev_b, ea_b, san_b, cells_b, cv_b, ev_s, ea_s, san_s, cells_s, cv_s, ev_agg, ea_agg, san_agg, cells_agg, ev_tup, ea_tup, san_tup, cells_tup, ev_nilp, ea_nilp, san_nilp, cells_nilp, cv_nilp, ev_vr, ea_vr, san_vr, cells_vr, cv_vr, ev_hp, ea_hp, san_hp, cells_hp, cv_hp, ev_nils, ea_nils, san_nils, cells_nils, cv_nils, ev_vs, ea_vs, san_vs, cells_vs, cv_vs, ev_hs, ea_hs, san_hs, cells_hs, cv_hs, ev_fn, ea_fn, san_fn, cells_fn, cv_fn, ev_lp, ea_lp, san_lp, cells_lp, ev_ls, ea_ls, san_ls, cells_ls, ev_undef, ea_undef, san_undef, cells_undef, ev_loc, ea_loc, san_loc, Y_seq, sq_n, sq_e, sq_r, Y_cond, cd_t, cd_f, Y_block, bk_n, bk_e, bk_x, bk_r, Y_loop, Y_exit, Y_ret, fin_r, fin_n, cellR_l, ro_t, ro_c, rcons_s, rl_nil, rl_cons, tupO_s, rs_1, rs_0, rs_2, fv_s, h0_s, rt_0, rt_2, take_nil, take_zero, all_nil, allv_nil, allv_cons, len_nil, len_cons, san_map_nil, san_map_cons, tt, tupM_s, z_i, z_u, z_b, z_s, z_nilp, z_nils, z_tup, z_ml, z_mc, hsC_s, hsR_us, hsR_is, hsB_t, hsB_f, z_hs, S_mov, S_pick, S_bin, S_eqv, S_un, S_cvi, S_cvu, S_s2b, S_b2s, S_build, S_box, S_boxv, S_boxh, S_lit, S_mks, S_off, S_idx, S_idxs, S_ld, S_ldl, S_st, S_nck, S_fld, S_idxv, S_idxb, S_sls, S_slv, S_sla, S_s2a, S_ext, S_call, S_callp, S_prim, S_len, S_lens, S_mn, S_mx, S_app, S_cpy, S_stl, pk_t, pk_f, er_f, er_t, bi_add, bi_sub, bi_mul, bi_eql, bi_neq, bi_lss, bi_leq, bi_gtr, bi_geq, bi_quo, bi_rem, qI_f, rI_f, bu_add, bu_sub, bu_mul, bu_and, bu_or, bu_xor, bu_quo, bu_rem, qU_f, rU_f, bu_eql, bu_neq, bu_lss, bu_leq, bu_gtr, bu_geq, sh_s, bu_shl, bu_shr, bi_shl, bi_shr, shlU_e, shrU_e, shlJ_e, shrJ_e, cnt_u, cnt_n, cnt_l, cnt_0, cnt_1, bs_eql, bs_neq, un_neg, un_not, un_xor, un_negu, ti_i, ti_u, tu_i, tu_u, aggO_s, bx_i, bv_i, bh_i, bx_u, bv_u, bh_u, bx_b, bv_b, bh_b, bx_s, bv_s, bh_s, bx_agg, bv_agg, bh_agg, bx_nilp, bv_nilp, bh_nilp, bx_vr, bv_vr, bh_vr, bx_hp, bv_hp, bh_hp, bx_nils, bv_nils, bh_nils, bx_vs, bv_vs, bh_vs, bx_hs, bv_hs, bh_hs, bx_fn, bv_fn, bh_fn, lit_t, lit_f, mk_o, mk_q, mk_r, ix_o, of_vr, of_hp, of_lp, ivO_s, ihO_s, ilO_s, is_vs, is_hs, is_ls, ld_vr, ld_hp, ldR_s, ldl_lp, st_hp, stR_s, stT_t, okc_1, okc_us, okc_is, sl_lp, slT_t, nc_vr, nc_hp, nc_lp, fld_a, iv_f, iv_t, ib_s, byJ_s, byR_s, bdL_s, bo_n, bo_s, bd_n, bd_s, sls_s, slsR_s, slvR_s, slhR_s, slv_vs, slv_hs, sla_lp, slaT_t, sla_vr, ex_0, ex_1, ex_2, ca_n, cR_t, cR_f, cS_s, cp_t, sc_i, sc_u, sc_b, sc_s, pa_e, ps_e, paT_t, psT_t, le_n, le_vs, le_hs, le_ls, lO_s, lT_t, lS_s, mn_i, mx_i, ap_nils, apA_t, apA_f, ap_hs, apB_s, apD_t, okA_us, okA_is, sc_n, sc_vs, sc_hs, scR_us, scR_is, nhp_i, nhp_u, nhp_b, nhp_s, nhp_nilp, nhp_nils, nhp_us, nhp_is, nhp_ag, nhp_vr, nhp_hs, nhp_hp, zm_us, zm_is, zm_ag, pt_1, fi_nil, fi_cons, fiT_t, row_0, row_1, row_2, sr_0, sr_1, sr_2, happ_n, happ_c, hset_0, hset_1, hset_2, p9, p18, spl9, spl18, Nat.le_refl, Nat.reduceLeDiff, List.drop_zero, us_take, us_drop, is_take, is_drop, List.take_zero, gn, if_true, if_false, Nat.reduceEqDiff, Int.reduceEq, reduceCtorEq, Nat.succ_ne_self, Nat.reduceAdd, Nat.zero_add, Nat.add_zero, Nat.reduceMul, Nat.mul_one, Nat.one_mul, Nat.zero_mul, Nat.sub_zero, decide_true, decide_false, Bool.and_self, Bool.and_true, Bool.true_and, Bool.false_and, Bool.and_false, Bool.not_true, Bool.not_false, List.length_cons, List.length_nil, us_len, is_len, tb_len, dl_len, us_set, is_set, tb_set, Nat.not_lt_zero, List.nil_append, us_rep, is_rep, c0, ← hu, ← hu6, g0, g1.eq, g2.eq, c1, c2, g3.eq, g4.eq, c3, g5.eq, a1, g11, g12, a2, c4, c5, g9.eq, c6, c7, c8, c9, e9, e0, g6, g7, g8, natv_noHp, ints_noHp]

end Mir
