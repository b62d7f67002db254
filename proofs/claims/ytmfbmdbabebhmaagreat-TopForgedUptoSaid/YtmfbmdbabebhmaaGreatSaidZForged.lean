/-
  TopForged: the given statement (where what the law reads is of bulk at most 1048576) holds. Conditions: those of the statement, none besides.
-/
import Derived.Test.YtmfbmdbabebhmaaGreatRows
import Derived.Test.YtmfbmdbabebhmaaGreatIdsZ
import Derived.Test.YtmfbmdbabebhmaaGreatGlueZ
import Derived.JoinedCond
import Derived.Test.YtmfbmdbabebhmaaGreatTop5
import Derived.ProofKit
set_option linter.unusedVariables false
set_option linter.unusedSimpArgs false
set_option exponentiation.threshold 5000
namespace Go.Proofs.YtmfbmdbabebhmaaGreat
open Go.ChangeShapes Go.WideShapes Go.ChangeAt Go.RowKit

theorem Tryz.own : ownKnob Tryz.prog.godebug = none := by kernel_rfl
theorem Tryz.laidOut : laidOutB Tryz.prog = true := by kernel_rfl

set_option maxRecDepth 100000 in
theorem topForged_lifted (os : Os) (started : os.Started) (H : Type) (enc : TypeId × Value → H) (Fi : Stop.Interp) :
    ReturnsInHanded {} Tryz.checked os 3 .any ((Rows.OpenSpec.upto Rows.topForgedSpec).pre6 enc Tryz.prog Tryz.f3 Rows.topForgedUptoRow.domain false) (((Rows.OpenSpec.upto Rows.topForgedSpec).at Fi).post enc Tryz.prog Tryz.f3 false true false false) := by
  refine returnsInHanded_of_cond (s := Rows.OpenSpec.upto Rows.topForgedSpec) (k := Rows.uptoSmall) rfl (F := Fi) (C := Tryz.checked) Tryz.own started (by kernel_rfl) Tryz.func3
    (OpenSpec.witness (enc := enc) (C := Tryz.checked) (s := Rows.OpenSpec.upto Rows.topForgedSpec) (k := Rows.uptoSmall) (x := ⟨[.lit (.int .i64 0), .lit (.int .i64 0), .lit (.string []), .lit (.int .i64 0)], [], []⟩) rfl false ⟨#[], #[.int .i64 0, .int .i64 0, .string ⟨#[]⟩, .int .i64 0], []⟩ 8 (by kernel_rfl) (by kernel_rfl) (by kernel_rfl) (by kernel_rfl) (by kernel_rfl) (by kernel_rfl)) ?_
  intro W base args ds gs before hval0 hW hcnd hsm _
  have hval : ∀ (j : Nat) t v, Tryz.f3.params[j]? = some t → args[j]? = some v → Value.okWide Tryz.prog W .any base t v := hval0
  have hW' := hW
  have hlt0 := DataW.Whole.lt hW
  obtain ⟨p, q, hA0, hV, rfl, hfz, hnd⟩ := hW
  have hA : DataW.TrodAll enc Tryz.prog W 0 (fun _ => true) true Tryz.f3.params.toList args.toList ds p := hA0
  have hlt := DataW.TrodAll.lt hA
  have hA2 := hA
  rw [Tryz.params3] at hA hval
  obtain ⟨v0, vs0, d0, ds0, p0, q0, e0, rfl, _, h0, hB0⟩ := trodAll_cons hA
  obtain ⟨v1, vs1, d1, ds1, p1, q1, e1, rfl, _, h1, hB1⟩ := trodAll_cons hB0
  obtain ⟨v2, vs2, d2, ds2, p2, q2, e2, rfl, _, h2, hB2⟩ := trodAll_cons hB1
  obtain ⟨v3, vs3, d3, ds3, p3, q3, e3, rfl, _, h3, hB3⟩ := trodAll_cons hB2
  obtain ⟨rfl, rfl, _⟩ := trodAll_nil hB3
  subst e3
  subst e2
  subst e1
  have hargs : args = #[v0, v1, v2, v3] := by cases args; simp_all
  subst hargs
  obtain ⟨rfl, rfl⟩ := trodVars_none hV
  obtain ⟨z0, hlo0, hhi0, hr0⟩ := Mir.in_int (φ := Mir.phi) (by kernel_rfl) (hval 0 3 v0 rfl rfl) (Mir.Out W)
  obtain ⟨z1, hlo1, hhi1, hr1⟩ := Mir.in_int (φ := Mir.phi) (by kernel_rfl) (hval 1 3 v1 rfl rfl) (Mir.Out W)
  obtain ⟨s2, hl2, hr2, bs, hd2, hbs⟩ := Mir.in_str2 (φ := Mir.phi) (by kernel_rfl) h2 (hval 2 9 v2 rfl rfl) (Mir.Out W)
  obtain ⟨z3, hlo3, hhi3, hr3⟩ := Mir.in_int (φ := Mir.phi) (by kernel_rfl) (hval 3 3 v3 rfl rfl) (Mir.Out W)
  have hbk : s2.length < 2000000 := by
    have h9 := of_decide_eq_true hsm
    simp only [List.cons_append, List.nil_append, List.append_nil, Rows.uptoBulkAll] at h9
    rw [hd2, Rows.uptoBulk] at h9
    omega
  have hrun := Mir.law_TopForged (z := z0) (a := z1) (msg := s2) (b := z3) hbk
  refine (Mir.calls_out Mir.all_calls (f := Mir.f_curvettop_TopForged) rfl (Mir.VRs.cons hr0 (Mir.VRs.cons hr1 (Mir.VRs.cons hr2 (Mir.VRs.cons hr3 Mir.VRs.nil)))) hrun).mono fun e W' ⟨he, hb⟩ => ?_
  subst he
  exact ⟨_, rfl, _, _, _, [], _, [], hW', trodAll_mk1 (shut_bool (by kernel_rfl) _), Mir.trodAll_stays Tryz.laidOut hb _ _ _ _ (by kernel_rfl) hA2 hlt, rfl, hb.frame _, fun h => by cases h⟩

theorem topForged_holds : Rows.TopForgedUptoSaid :=
  OpenClaim.holds_of_cond 3 Tryz.f3 rfl rfl rfl rfl rfl rfl rfl ⟨rfl, rfl, rfl, rfl, rfl⟩ rfl rfl rfl rfl rfl (by kernel_rfl) Tryz.func3 (by kernel_rfl)
    (of_decide_eq_true (by kernel_rfl)) (by unfold Func.isWrapper; first | (rw [if_pos (by decide +kernel)]; kernel_rfl) | (rw [if_neg (by decide +kernel)]; exact ⟨rfl, rfl⟩))
    (fun os started H enc _ F => topForged_lifted os started H enc F)

end Go.Proofs.YtmfbmdbabebhmaaGreat
