/- The small language's arithmetic is the machine's. Conditions: none. -/
import Derived.Test.YtmfbmdbabebhmaaGreatSim
set_option linter.unusedVariables false
set_option linter.unusedSimpArgs false
namespace Mir
open Go (Value Addr IntKind World Obj Act Program FuncId TypeId Operand Op Oper Code TypeDesc Sem Result)

theorem ukind_bits {w : Nat} {k : IntKind} (h : ukind w = some k) : k.bits = w ∧ k.signed = false := by
  unfold ukind at h
  split at h <;> simp at h <;> subst h <;> exact ⟨rfl, rfl⟩

theorem wrapU {w : Nat} {k : IntKind} (h : ukind w = some k) (z : Int) : k.wrap z = z % ((2 ^ w : Nat) : Int) := by
  obtain ⟨h1, h2⟩ := ukind_bits h
  simp [IntKind.wrap, h1, h2]

theorem wrapU_nat {w : Nat} {k : IntKind} (h : ukind w = some k) (n : Nat) : k.wrap (n : Int) = ((n % 2 ^ w : Nat) : Int) := by
  rw [wrapU h]; simp

theorem wrapI (z : Int) : IntKind.i64.wrap z = w64 z := Go.IntKind.wrap_i64 z

theorem w64_lo (z : Int) : -9223372036854775808 ≤ w64 z := by unfold w64; omega
theorem w64_hi (z : Int) : w64 z < 9223372036854775808 := by unfold w64; omega

theorem pow_pos (w : Nat) : 0 < 2 ^ w := Nat.two_pow_pos w

theorem ofInt_nat {w n : Nat} (h : n < 2 ^ w) : (BitVec.ofInt w (n : Int)).toNat = n := by
  rw [BitVec.toNat_ofInt, ← Int.natCast_emod, Int.toNat_natCast, Nat.mod_eq_of_lt h]

section
variable {P : Program} {φ : Nat → Option FuncId} {c : Cx} {w : World}

theorem VR.mkI (c : Cx) (z : Int) : VR φ c (.i (w64 z)) (.int .i64 (w64 z)) := .i _ (w64_lo z) (w64_hi z)

theorem arithU_ok {o : Bin} {bo : Go.BinOp} (hb : chkBin bo o = true) {wd x y : Nat} {k : IntKind} (hk : ukind wd = some k) (hx : x < 2 ^ wd) (hy : y < 2 ^ wd)
    {v : V} (hns : o ≠ .shl ∧ o ≠ .shr) (h : arithU o wd x y = some v) (t : TypeId) :
    ∃ V, (Go.binOp bo t (.int k x) (.int k y)).run P w = .ok V w ∧ VR φ c v V := by
  obtain ⟨kb, ks⟩ := ukind_bits hk
  have hp := pow_pos wd
  cases o <;> cases bo <;> first | (exact absurd hb (by decide)) | skip
  all_goals simp only [arithU, Option.some.injEq, reduceCtorEq] at h
  all_goals first | (exact absurd rfl hns.1) | (exact absurd rfl hns.2) | skip
  all_goals simp only [Go.binOp, ne_eq, not_true_eq_false, if_false, Go.Op.intArith, Go.Op.intCmp, Go.Op.intBits, Go.Op.intDiv, Go.Sem.run_pure, Result.ok.injEq, and_true, exists_eq_left']
  · subst h
    rw [show ((x : Int) + y) = ((x + y : Nat) : Int) by simp, wrapU_nat hk]
    exact .u _ _ _ hk (Nat.mod_lt _ hp)
  · subst h
    have : k.wrap ((x : Int) - y) = (((x + 2 ^ wd - y) % 2 ^ wd : Nat) : Int) := by
      rw [wrapU hk, Int.natCast_emod, Int.natCast_sub (by omega)]
      push_cast
      rw [show ((x : Int) + 2 ^ wd - y) = (x - y) + 2 ^ wd by omega, Int.add_emod_right]
    rw [this]
    exact .u _ _ _ hk (Nat.mod_lt _ hp)
  · subst h
    rw [show ((x : Int) * y) = ((x * y : Nat) : Int) by simp, wrapU_nat hk]
    exact .u _ _ _ hk (Nat.mod_lt _ hp)
  · by_cases hy0 : y = 0
    · simp [hy0] at h
    · rw [if_neg hy0] at h
      simp only [Option.some.injEq] at h
      subst h
      have hy0' : ¬ (y : Int) = 0 := by omega
      simp only [hy0', if_false, Go.Sem.run_pure, Result.ok.injEq, and_true, exists_eq_left']
      have hlt : x / y < 2 ^ wd := Nat.lt_of_le_of_lt (Nat.div_le_self _ _) hx
      have : k.wrap ((x : Int).tdiv y) = ((x / y : Nat) : Int) := by
        rw [show (x : Int).tdiv y = ((x / y : Nat) : Int) from rfl, wrapU_nat hk, Nat.mod_eq_of_lt hlt]
      rw [this]
      exact .u _ _ _ hk hlt
  · by_cases hy0 : y = 0
    · simp [hy0] at h
    · rw [if_neg hy0] at h
      simp only [Option.some.injEq] at h
      subst h
      have hy0' : ¬ (y : Int) = 0 := by omega
      simp only [hy0', if_false, Go.Sem.run_pure, Result.ok.injEq, and_true, exists_eq_left']
      rw [show (x : Int).tmod y = ((x % y : Nat) : Int) from rfl]
      exact .u _ _ _ hk (Nat.lt_of_le_of_lt (Nat.mod_le _ _) hx)
  · subst h
    rw [BitVec.toNat_and, kb, ofInt_nat hx, ofInt_nat hy, wrapU_nat hk, Nat.mod_eq_of_lt (Nat.and_lt_two_pow _ hy)]
    exact .u _ _ _ hk (Nat.and_lt_two_pow _ hy)
  · subst h
    rw [BitVec.toNat_or, kb, ofInt_nat hx, ofInt_nat hy, wrapU_nat hk, Nat.mod_eq_of_lt (Nat.or_lt_two_pow hx hy)]
    exact .u _ _ _ hk (Nat.or_lt_two_pow hx hy)
  · subst h
    rw [BitVec.toNat_xor, kb, ofInt_nat hx, ofInt_nat hy, wrapU_nat hk, Nat.mod_eq_of_lt (Nat.xor_lt_two_pow hx hy)]
    exact .u _ _ _ hk (Nat.xor_lt_two_pow hx hy)
  · subst h
    have hz : 2 ^ wd - 1 - y < 2 ^ wd := by omega
    rw [BitVec.toNat_and, BitVec.toNat_not, kb, ofInt_nat hx, ofInt_nat hy, wrapU_nat hk, Nat.mod_eq_of_lt (Nat.and_lt_two_pow _ hz)]
    exact .u _ _ _ hk (Nat.and_lt_two_pow _ hz)
  all_goals
    subst h
  · have : ((x : Int) == y) = decide (x = y) := by rw [Bool.eq_iff_iff]; simp; omega
    rw [this]; exact .b _
  · have : ((x : Int) != y) = !decide (x = y) := by rw [Bool.eq_iff_iff]; simp; omega
    rw [this]; exact .b _
  · have : decide ((x : Int) < y) = decide (x < y) := by rw [Bool.eq_iff_iff]; simp
    rw [this]; exact .b _
  · have : decide ((x : Int) ≤ y) = decide (x ≤ y) := by rw [Bool.eq_iff_iff]; simp
    rw [this]; exact .b _
  · have : decide ((x : Int) > y) = decide (y < x) := by rw [Bool.eq_iff_iff]; simp
    rw [this]; exact .b _
  · have : decide ((x : Int) ≥ y) = decide (y ≤ x) := by rw [Bool.eq_iff_iff]; simp
    rw [this]; exact .b _

theorem ofInt64 (z : Int) : (BitVec.ofInt 64 z).toNat = (z % 18446744073709551616).toNat := by
  rw [BitVec.toNat_ofInt]; rfl

theorem arithI_ok {o : Bin} {bo : Go.BinOp} (hb : chkBin bo o = true) {x y : Int} (hx1 : -9223372036854775808 ≤ x) (hx2 : x < 9223372036854775808)
    (hy1 : -9223372036854775808 ≤ y) (hy2 : y < 9223372036854775808) {v : V} (hns : o ≠ .shl ∧ o ≠ .shr) (h : arithI o x y = some v) (t : TypeId) :
    ∃ V, (Go.binOp bo t (.int .i64 x) (.int .i64 y)).run P w = .ok V w ∧ VR φ c v V := by
  cases o <;> cases bo <;> first | (exact absurd hb (by decide)) | skip
  all_goals simp only [arithI, Option.some.injEq, reduceCtorEq] at h
  all_goals first | (exact absurd rfl hns.1) | (exact absurd rfl hns.2) | skip
  all_goals simp only [Go.binOp, ne_eq, not_true_eq_false, if_false, Go.Op.intArith, Go.Op.intCmp, Go.Op.intBits, Go.Op.intDiv, Go.Sem.run_pure, Result.ok.injEq, and_true, exists_eq_left']
  · subst h; rw [wrapI]; exact .mkI _ _
  · subst h; rw [wrapI]; exact .mkI _ _
  · subst h; rw [wrapI]; exact .mkI _ _
  · by_cases hy0 : y = 0
    · simp [hy0] at h
    · rw [if_neg hy0] at h
      simp only [Option.some.injEq] at h
      subst h
      simp only [hy0, if_false, Go.Sem.run_pure, Result.ok.injEq, and_true, exists_eq_left']
      rw [wrapI]; exact .mkI _ _
  · by_cases hy0 : y = 0
    · simp [hy0] at h
    · rw [if_neg hy0] at h
      simp only [Option.some.injEq] at h
      subst h
      simp only [hy0, if_false, Go.Sem.run_pure, Result.ok.injEq, and_true, exists_eq_left']
      refine .i _ ?_ ?_
      · have h1 : (x.tmod y).natAbs ≤ x.natAbs := by
          rw [Int.natAbs_tmod]; exact Nat.mod_le _ _
        rcases Int.le_total 0 x with hx0 | hx0
        · have := Int.tmod_nonneg y hx0; omega
        · omega
      · have h1 : (x.tmod y).natAbs ≤ x.natAbs := by
          rw [Int.natAbs_tmod]; exact Nat.mod_le _ _
        rcases Int.le_total 0 x with hx0 | hx0
        · omega
        · have h2 : x.tmod y ≤ 0 := by
            have h3 := Int.tmod_nonneg y (show 0 ≤ -x by omega)
            rw [Int.neg_tmod] at h3; omega
          omega
  · have hval : IntKind.i64.wrap ((BitVec.ofInt IntKind.i64.bits x &&& BitVec.ofInt IntKind.i64.bits y).toNat : Nat) =
        w64 (((x % 18446744073709551616).toNat &&& (y % 18446744073709551616).toNat : Nat) : Int) := by
      rw [wrapI]; show w64 ((BitVec.ofInt 64 x &&& BitVec.ofInt 64 y).toNat : Nat) = _
      rw [BitVec.toNat_and, ofInt64, ofInt64]
    rw [hval]
    split at h
    · rename_i hxy
      simp only [Option.some.injEq] at h
      subst h
      have h1 : (x % 18446744073709551616).toNat = x.toNat := by rw [Int.emod_eq_of_lt hxy.1 (by omega)]
      have h2 : (y % 18446744073709551616).toNat = y.toNat := by rw [Int.emod_eq_of_lt hxy.2 (by omega)]
      rw [h1, h2]
      have h3 : x.toNat &&& y.toNat < 2 ^ 63 := Nat.and_lt_two_pow _ (by omega)
      have h4 : w64 ((x.toNat &&& y.toNat : Nat) : Int) = ((x.toNat &&& y.toNat : Nat) : Int) := by unfold w64; omega
      rw [h4]
      exact .i _ (by omega) (by omega)
    · simp only [Option.some.injEq] at h
      subst h
      exact .mkI _ _
  · subst h
    have hval : IntKind.i64.wrap ((BitVec.ofInt IntKind.i64.bits x ||| BitVec.ofInt IntKind.i64.bits y).toNat : Nat) =
        w64 (((x % 18446744073709551616).toNat ||| (y % 18446744073709551616).toNat : Nat) : Int) := by
      rw [wrapI]; show w64 ((BitVec.ofInt 64 x ||| BitVec.ofInt 64 y).toNat : Nat) = _
      rw [BitVec.toNat_or, ofInt64, ofInt64]
    rw [hval]; exact .mkI _ _
  · subst h
    have hval : IntKind.i64.wrap ((BitVec.ofInt IntKind.i64.bits x ^^^ BitVec.ofInt IntKind.i64.bits y).toNat : Nat) =
        w64 (((x % 18446744073709551616).toNat ^^^ (y % 18446744073709551616).toNat : Nat) : Int) := by
      rw [wrapI]; show w64 ((BitVec.ofInt 64 x ^^^ BitVec.ofInt 64 y).toNat : Nat) = _
      rw [BitVec.toNat_xor, ofInt64, ofInt64]
    rw [hval]; exact .mkI _ _
  all_goals
    subst h
  · have : (x == y) = decide (x = y) := by rw [Bool.eq_iff_iff]; simp
    rw [this]; exact .b _
  · have : (x != y) = !decide (x = y) := by rw [Bool.eq_iff_iff]; simp
    rw [this]; exact .b _
  all_goals exact .b _

/-- A shift's count. -/
theorem count_ok {y : V} {Y : Value} (hy : VR φ c y Y) {wd m : Nat} (h : count wd y = some m) : ∃ k z, Y = .int k z ∧ 0 ≤ z ∧ m = min z.toNat wd := by
  cases hy <;> simp only [count, Option.some.injEq, reduceCtorEq] at h
  · split at h
    · simp only [Option.some.injEq] at h; exact ⟨_, _, rfl, ‹_›, h.symm⟩
    · simp at h
  · exact ⟨_, _, rfl, by omega, by rw [Int.toNat_natCast]; exact h.symm⟩

theorem shift_ok {o : Bin} {bo : Go.BinOp} (hb : chkBin bo o = true) (hs : o = .shl ∨ o = .shr) {x y v : V} {X Y : Value} (hx : VR φ c x X) (hy : VR φ c y Y)
    (h : binV o x y = some v) (t : TypeId) : ∃ V, (Go.binOp bo t X Y).run P w = .ok V w ∧ VR φ c v V := by
  rcases hs with rfl | rfl <;> cases bo <;> first | (exact absurd hb (by decide)) | skip
  · simp only [binV] at h
    cases hx <;> simp only [reduceCtorEq, Option.map_eq_some_iff] at h
    · obtain ⟨m, hm, rfl⟩ := h
      obtain ⟨k, z, rfl, hz, hmz⟩ := count_ok hy hm
      simp only [Go.binOp, Go.Op.shift]
      rw [if_neg (by omega)]
      refine ⟨_, rfl, ?_⟩
      rw [wrapI]
      subst hmz
      exact .mkI _ _
    · obtain ⟨m, hm, rfl⟩ := h
      obtain ⟨k, z, rfl, hz, hmz⟩ := count_ok hy hm
      rename_i wd n k' hk hn
      simp only [Go.binOp, Go.Op.shift]
      rw [if_neg (by omega)]
      refine ⟨_, rfl, ?_⟩
      obtain ⟨kb, _⟩ := ukind_bits hk
      rw [kb, ← hmz, show ((n : Int) * 2 ^ m) = ((n * 2 ^ m : Nat) : Int) by simp, wrapU_nat hk]
      exact .u _ _ _ hk (Nat.mod_lt _ (pow_pos _))
  · simp only [binV] at h
    cases hx <;> simp only [reduceCtorEq, Option.map_eq_some_iff] at h
    · obtain ⟨m, hm, rfl⟩ := h
      obtain ⟨k, z, rfl, hz, hmz⟩ := count_ok hy hm
      rename_i q h1 h2
      simp only [Go.binOp, Go.Op.shift]
      rw [if_neg (by omega)]
      refine ⟨_, rfl, ?_⟩
      subst hmz
      have hp : (0 : Int) < 2 ^ min z.toNat 64 := Int.pow_pos (by decide)
      rw [show IntKind.i64.bits = 64 from rfl, Int.fdiv_eq_ediv_of_nonneg _ (Int.le_of_lt hp)]
      refine .i _ ?_ ?_
      · rcases Int.le_total 0 q with h0 | h0
        · have := Int.ediv_nonneg h0 (Int.le_of_lt hp); omega
        · have h3 : q ≤ q / 2 ^ min z.toNat 64 := by
            rw [Int.le_ediv_iff_mul_le hp]
            have : q * (2 ^ min z.toNat 64) ≤ q * 1 := Int.mul_le_mul_of_nonpos_left h0 (by omega)
            omega
          omega
      · rcases Int.le_total 0 q with h0 | h0
        · have := Int.ediv_le_self (2 ^ min z.toNat 64) h0; omega
        · have : q / 2 ^ min z.toNat 64 ≤ 0 := by
            have := Int.ediv_le_ediv hp h0
            simpa using this
          omega
    · obtain ⟨m, hm, rfl⟩ := h
      obtain ⟨k, z, rfl, hz, hmz⟩ := count_ok hy hm
      rename_i wd n k' hk hn
      simp only [Go.binOp, Go.Op.shift]
      rw [if_neg (by omega)]
      refine ⟨_, rfl, ?_⟩
      obtain ⟨kb, _⟩ := ukind_bits hk
      rw [kb, ← hmz, Int.fdiv_eq_ediv_of_nonneg _ (by exact Int.le_of_lt (Int.pow_pos (by decide))), show ((n : Int) / 2 ^ m) = ((n / 2 ^ m : Nat) : Int) by simp]
      exact .u _ _ _ hk (Nat.lt_of_le_of_lt (Nat.div_le_self _ _) hn)

theorem unV_ok {o : Un} {x v : V} {X : Value} (hx : VR φ c x X) (h : unV o x = some v) {uo : Go.UnOp} (hu : chkUn uo o = true) : ∃ V, (Go.Op.unary uo X).run P w = .ok V w ∧ VR φ c v V := by
  cases o <;> cases uo <;> first | (exact absurd hu (by decide)) | skip
  · cases hx <;> simp only [unV, Option.some.injEq, reduceCtorEq] at h
    · subst h
      simp only [Go.Op.unary, Go.Op.intArith]
      refine ⟨_, rfl, ?_⟩
      rw [wrapI]; exact .mkI _ _
    · subst h
      rename_i wd n k hk hn
      simp only [Go.Op.unary, Go.Op.intArith]
      refine ⟨_, rfl, ?_⟩
      have : k.wrap ((0 : Int) - n) = (((2 ^ wd - n) % 2 ^ wd : Nat) : Int) := by
        rw [wrapU hk, Int.natCast_emod, Int.natCast_sub (by omega)]
        push_cast
        rw [show ((0 : Int) - n) = -(n : Int) by omega, show ((2 : Int) ^ wd - n) = -(n : Int) + 2 ^ wd by omega, Int.add_emod_right]
      rw [this]
      exact .u _ _ _ hk (Nat.mod_lt _ (pow_pos _))
  · cases hx <;> simp only [unV, Option.some.injEq, reduceCtorEq] at h
    subst h
    exact ⟨_, rfl, .b _⟩
  · cases hx <;> simp only [unV, Option.some.injEq, reduceCtorEq] at h
    subst h
    rename_i wd n k hk hn
    obtain ⟨kb, ks⟩ := ukind_bits hk
    simp only [Go.Op.unary, Go.Op.intBits, ks, Bool.false_eq_true, if_false]
    refine ⟨_, rfl, ?_⟩
    have hmax : k.max = ((2 ^ wd - 1 : Nat) : Int) := by
      simp only [IntKind.max, ks, Bool.false_eq_true, if_false, kb]
      rw [Int.natCast_sub (pow_pos _)]; simp
    have hp := pow_pos wd
    rw [hmax, BitVec.toNat_xor, kb, ofInt_nat (by omega), ofInt_nat hn, wrapU_nat hk]
    have hx : (2 ^ wd - 1) ^^^ n = 2 ^ wd - 1 - n := by
      apply Nat.eq_of_testBit_eq
      intro i
      rw [Nat.testBit_xor, Nat.testBit_two_pow_sub_one, show 2 ^ wd - 1 - n = 2 ^ wd - (n + 1) by omega, Nat.testBit_two_pow_sub_succ hn]
      by_cases hi : i < wd
      · simp [hi]
      · have : n.testBit i = false := Nat.testBit_lt_two_pow (Nat.lt_of_lt_of_le hn (Nat.pow_le_pow_right (by decide) (by omega)))
        simp [hi, this]
    rw [hx, Nat.mod_eq_of_lt (by omega)]
    exact .u _ _ _ hk (by omega)

end
end Mir
