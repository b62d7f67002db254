/-
  TopBlind: the given statement holds. Conditions: those of the statement, none besides.
-/
import Derived.Test.YtmfbmdbabebhmaaRows
import Derived.Test.YtmfbmdbabebhmaaIdsT
import Derived.Test.YtmfbmdbabebhmaaGlue
import Derived.Test.YtmfbmdbabebhmaaTop4
import Derived.ProofKit
set_option linter.unusedVariables false
set_option linter.unusedSimpArgs false
set_option exponentiation.threshold 5000
namespace Go.Proofs.Ytmfbmdbabebhmaa
open Go.ChangeShapes Go.WideShapes Go.ChangeAt Go.RowKit

theorem Try.own : ownKnob Try.prog.godebug = none := by kernel_rfl
theorem Try.laidOut : laidOutB Try.prog = true := by kernel_rfl

set_option maxRecDepth 100000 in
theorem topBlind_lifted (os : Os) (started : os.Started) (H : Type) (enc : TypeId × Value → H) :
    ReturnsInHanded {} Try.checked os 6 .any (Rows.topBlindSpec.pre6 enc Try.prog Try.f6 Rows.topBlindRow.domain false) (Rows.topBlindSpec.post enc Try.prog Try.f6 false true false false) := by
  refine returnsInHanded_of_change (C := Try.checked) Try.own started (by kernel_rfl) Try.func6
    (ChangeSpec.witness6 (enc := enc) (C := Try.checked) false ⟨#[], #[.int .i64 0, .int .i64 0, .int .i64 0], []⟩ 8 (by kernel_rfl) (by kernel_rfl) (by kernel_rfl) (by kernel_rfl)) ?_
  intro W base args ds gs before hval0 hW hcnd _
  have hval : ∀ (j : Nat) t v, Try.f6.params[j]? = some t → args[j]? = some v → Value.okWide Try.prog W .any base t v := hval0
  have hW' := hW
  have hlt0 := DataW.Whole.lt hW
  obtain ⟨p, q, hA0, hV, rfl, hfz, hnd⟩ := hW
  have hA : DataW.TrodAll enc Try.prog W 0 (fun _ => true) true Try.f6.params.toList args.toList ds p := hA0
  have hlt := DataW.TrodAll.lt hA
  have hA2 := hA
  rw [Try.params6] at hA hval
  obtain ⟨v0, vs0, d0, ds0, p0, q0, e0, rfl, _, h0, hB0⟩ := trodAll_cons hA
  obtain ⟨v1, vs1, d1, ds1, p1, q1, e1, rfl, _, h1, hB1⟩ := trodAll_cons hB0
  obtain ⟨v2, vs2, d2, ds2, p2, q2, e2, rfl, _, h2, hB2⟩ := trodAll_cons hB1
  obtain ⟨rfl, rfl, _⟩ := trodAll_nil hB2
  subst e2
  subst e1
  have hargs : args = #[v0, v1, v2] := by cases args; simp_all
  subst hargs
  obtain ⟨rfl, rfl⟩ := trodVars_none hV
  obtain ⟨z0, hlo0, hhi0, hr0⟩ := Mir.in_int (φ := Mir.phi) (by kernel_rfl) (hval 0 3 v0 rfl rfl) (Mir.Out W)
  obtain ⟨z1, hlo1, hhi1, hr1⟩ := Mir.in_int (φ := Mir.phi) (by kernel_rfl) (hval 1 3 v1 rfl rfl) (Mir.Out W)
  obtain ⟨z2, hlo2, hhi2, hr2⟩ := Mir.in_int (φ := Mir.phi) (by kernel_rfl) (hval 2 3 v2 rfl rfl) (Mir.Out W)
  have hrun := Mir.law_TopBlind hlo0 hhi0 hlo1 hhi1 hlo2 hhi2 
  refine (Mir.calls_out Mir.all_calls (f := Mir.f_curvettop_TopBlind) rfl (Mir.VRs.cons hr0 (Mir.VRs.cons hr1 (Mir.VRs.cons hr2 Mir.VRs.nil))) hrun).mono fun e W' ⟨he, hb⟩ => ?_
  subst he
  exact ⟨_, rfl, _, _, _, [], _, [], hW', trodAll_mk1 (shut_bool (by kernel_rfl) _), Mir.trodAll_stays Try.laidOut hb _ _ _ _ (by kernel_rfl) hA2 hlt, rfl, hb.frame _, fun h => by cases h⟩

theorem topBlind_holds : Rows.TopBlindSaid :=
  OpenClaim.holds_of_wide 6 Try.f6 rfl rfl rfl rfl rfl rfl rfl ⟨rfl, rfl, rfl, rfl, rfl⟩ rfl rfl rfl rfl rfl (by kernel_rfl) Try.func6 (by kernel_rfl)
    (of_decide_eq_true (by kernel_rfl)) (by unfold Func.isWrapper; first | (rw [if_pos (by decide +kernel)]; kernel_rfl) | (rw [if_neg (by decide +kernel)]; exact ⟨rfl, rfl⟩))
    (fun os started H enc _ => topBlind_lifted os started H enc)

end Go.Proofs.Ytmfbmdbabebhmaa
