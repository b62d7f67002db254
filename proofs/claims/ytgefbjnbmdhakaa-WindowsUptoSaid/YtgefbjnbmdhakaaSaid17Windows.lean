/-
  Windows: the given statement (where what the law reads is of bulk at most 1048576) holds. Conditions: those of the statement, none besides.
-/
import Derived.Test.YtgefbjnbmdhakaaRows
import Derived.Test.YtgefbjnbmdhakaaIdsW
import Derived.Test.YtgefbjnbmdhakaaGlueW
import Derived.JoinedCond
import Derived.Test.YtgefbjnbmdhakaaAllW
import Derived.ProofKit
set_option linter.unusedVariables false
set_option linter.unusedSimpArgs false
set_option exponentiation.threshold 5000
namespace Go.Proofs.Ytgefbjnbmdhakaa
open Go.ChangeShapes Go.WideShapes Go.ChangeAt Go.RowKit

theorem Try.own : ownKnob Try.prog.godebug = none := by kernel_rfl
theorem Try.laidOut : laidOutB Try.prog = true := by kernel_rfl

theorem bulk_lits {H : Type} : ∀ l : List Int, Rows.uptoBulkAll (lits (H := H) .i64 l) = l.length
  | [] => rfl
  | z :: l => by
    have := bulk_lits (H := H) l
    simp only [lits, List.map_cons, Rows.uptoBulkAll, Rows.uptoBulk, List.length_cons] at this ⊢
    omega

set_option maxRecDepth 100000 in
theorem windows_lifted (os : Os) (started : os.Started) (H : Type) (enc : TypeId × Value → H) (Fi : Stop.Interp) :
    ReturnsInHanded {} Try.checked os 3 .any ((Rows.OpenSpec.upto Rows.windowsSpec).pre6 enc Try.prog Try.f3 Rows.windowsUptoRow.domain false) (((Rows.OpenSpec.upto Rows.windowsSpec).at Fi).post enc Try.prog Try.f3 false true false false) := by
  refine returnsInHanded_of_cond (s := Rows.OpenSpec.upto Rows.windowsSpec) (k := Rows.uptoSmall) rfl (F := Fi) (C := Try.checked) Try.own started (by kernel_rfl) Try.func3
    (OpenSpec.witness (enc := enc) (C := Try.checked) (s := Rows.OpenSpec.upto Rows.windowsSpec) (k := Rows.uptoSmall) (x := ⟨[.agg [.agg (List.replicate 9 (.lit (.int .u64 0)))], .lit (.int .i64 0), .lit (.int .i64 0), .nil], [], []⟩) rfl false ⟨#[], #[.agg #[.int .u64 0, .int .u64 0, .int .u64 0, .int .u64 0, .int .u64 0, .int .u64 0, .int .u64 0, .int .u64 0, .int .u64 0], .int .i64 0, .int .i64 0, .slice none 0 0], []⟩ 8 (by kernel_rfl) (by kernel_rfl) (by kernel_rfl) (by kernel_rfl) (by kernel_rfl) (by kernel_rfl)) ?_
  intro W base args ds gs before hval0 hW hcnd hsm _
  have hval : ∀ (j : Nat) t v, Try.f3.params[j]? = some t → args[j]? = some v → Value.okWide Try.prog W .any base t v := hval0
  have hW' := hW
  have hlt0 := DataW.Whole.lt hW
  obtain ⟨p, q, hA0, hV, rfl, hfz, hnd⟩ := hW
  have hA : DataW.TrodAll enc Try.prog W 0 (fun _ => true) true Try.f3.params.toList args.toList ds p := hA0
  have hlt := DataW.TrodAll.lt hA
  have hA2 := hA
  rw [Try.params3] at hA hval
  obtain ⟨v0, vs0, d0, ds0, p0, q0, e0, rfl, _, h0, hB0⟩ := trodAll_cons hA
  obtain ⟨v1, vs1, d1, ds1, p1, q1, e1, rfl, _, h1, hB1⟩ := trodAll_cons hB0
  obtain ⟨v2, vs2, d2, ds2, p2, q2, e2, rfl, _, h2, hB2⟩ := trodAll_cons hB1
  obtain ⟨v3, vs3, d3, ds3, p3, q3, e3, rfl, _, h3, hB3⟩ := trodAll_cons hB2
  obtain ⟨rfl, rfl, _⟩ := trodAll_nil hB3
  subst e3
  subst e2
  subst e1
  have hargs : args = #[v0, v1, v2, v3] := by cases args; simp_all
  subst hargs
  obtain ⟨rfl, rfl⟩ := trodVars_none hV
  obtain ⟨l0, hl0, hb0, hr0⟩ := Mir.in_words (φ := Mir.phi) (n := 9) (by kernel_rfl) (hval 0 25 v0 rfl rfl) (Mir.Out W)
  obtain ⟨x0, hx0, hm0⟩ : ∃ x, Mir.us 64 l0 = Mir.us 64 (Mir.dl 64 9 x) ∧ x < Mir.M := ⟨Mir.vl 64 l0, by rw [← hl0, Mir.dl_vl hb0], by
    have := Mir.vl_lt hb0
    rw [hl0] at this
    exact Mir.M64 ▸ this⟩
  rw [hx0] at hr0
  obtain ⟨z1, hlo1, hhi1, hr1⟩ := Mir.in_int (φ := Mir.phi) (by kernel_rfl) (hval 1 3 v1 rfl rfl) (Mir.Out W)
  obtain ⟨z2, hlo2, hhi2, hr2⟩ := Mir.in_int (φ := Mir.phi) (by kernel_rfl) (hval 2 3 v2 rfl rfl) (Mir.Out W)
  obtain ⟨l3, hl3, hn3, hr3, hd3⟩ := Mir.in_ints2 (φ := Mir.phi) (e := 3) (by kernel_rfl) (by kernel_rfl) (by kernel_rfl) h3 (hval 3 26 v3 rfl rfl) (fun _ => False) (fun _ h => h)
  have hbk : l3.length < 1000000000 := by
    have h9 := of_decide_eq_true hsm
    simp only [List.cons_append, List.nil_append, List.append_nil, Rows.uptoBulkAll] at h9
    rcases hd3 with ⟨_, hd⟩ | ⟨rest, hd⟩
    · rw [hd, List.length_nil]; omega
    · rw [hd, Rows.uptoBulk, bulk_lits] at h9
      omega
  have hrun := Mir.law_Windows hm0 hlo1 hhi1 hlo2 hhi2 hbk
  refine (Mir.calls_out Mir.all_calls (f := Mir.f_curvetlaw17_Windows) rfl (Mir.VRs.cons hr0 (Mir.VRs.cons hr1 (Mir.VRs.cons hr2 (Mir.VRs.cons hr3 Mir.VRs.nil)))) hrun).mono fun e W' ⟨he, hb⟩ => ?_
  subst he
  exact ⟨_, rfl, _, _, _, [], _, [], hW', trodAll_mk1 (shut_bool (by kernel_rfl) _), Mir.trodAll_stays Try.laidOut hb _ _ _ _ (by kernel_rfl) hA2 hlt, rfl, hb.frame _, fun h => by cases h⟩

theorem windows_holds : Rows.WindowsUptoSaid :=
  OpenClaim.holds_of_cond 3 Try.f3 rfl rfl rfl rfl rfl rfl rfl ⟨rfl, rfl, rfl, rfl, rfl⟩ rfl rfl rfl rfl rfl (by kernel_rfl) Try.func3 (by kernel_rfl)
    (of_decide_eq_true (by kernel_rfl)) (by unfold Func.isWrapper; first | (rw [if_pos (by decide +kernel)]; kernel_rfl) | (rw [if_neg (by decide +kernel)]; exact ⟨rfl, rfl⟩))
    (fun os started H enc _ F => windows_lifted os started H enc F)

end Go.Proofs.Ytgefbjnbmdhakaa
