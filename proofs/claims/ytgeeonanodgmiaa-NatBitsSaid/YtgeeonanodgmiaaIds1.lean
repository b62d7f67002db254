/- The table stands for the program: each function checked by the kernel. So each call that the small language can make, the program makes. Conditions: none. -/
import Derived.Test.YtgeeonanodgmiaaTab1
import Derived.Test.YtgeeonanodgmiaaPrim
import Derived.Test.YtgeeonanodgmiaaProg
import Derived.KernelRfl
set_option linter.unusedVariables false
set_option maxRecDepth 100000
namespace Mir
open Go.Proofs (Try.prog)

def ids : List (Nat × Nat) := [(f_curvetlaw1_NatBytes, 3), (f_curvetlaw1_NatBack, 4), (f_curvetlaw1_NatShares, 5), (f_curvetlaw1_NatEnds, 6), (f_curvetlaw1_NatPowers, 7), (f_curvetlaw1_NatSums, 8), (f_curvetlaw1_NatRules, 9), (f_curvetlaw1_NatOrder, 10), (f_curvetlaw1_NatShifts, 11), (f_curvetlaw1_NatDigits, 12), (f_curvetlaw1_NatBits, 13), (f_nat_Of, 14), (f_nat_Bytes, 15), (f_curvetref1_Bytes, 16), (f_curvetref1_From, 17), (f_curvetlaw0_Num, 18), (f_curvetlaw1_awake, 19), (f_curvetref1_Nat, 20), (f_curvetref1_Read, 21), (f_nat_Bits, 22), (f_curvetlaw0_Nat, 23), (f_nat_Add, 24), (f_curvetlaw1_low, 25), (f_nat_Mul, 26), (f_curvetlaw0_One, 27), (f_nat_Sub, 28), (f_nat_Shl, 29), (f_nat_Bit, 30), (f_curvetref1_Add, 31), (f_curvetref1_Cmp, 32), (f_curvetref1_Sub, 33), (f_curvetref1_Shl, 34), (f_curvetref1_Bits, 35), (f_curvetref1_Wide, 36), (f_curvetref1_Mul, 37), (f_nat_Cmp, 38), (f_nat_Shr, 39), (f_curvetref1_Bit, 40), (f_nat_Small, 41), (f_curvetref1_Small, 42), (f_curvetref1_Shr, 43), (f_curvetref1_digit, 44), (f_curvetref1_trim, 45), (f_nat_used, 46), (f_bits_Len64, 47), (f_bits_Mul64, 49)]
def lookN (f : Nat) : List (Nat × Nat) → Option Nat
  | [] => none
  | (g, m) :: r => bif Nat.beq g f then some m else lookN f r
theorem lookN_mem {f m : Nat} : ∀ {l : List (Nat × Nat)}, lookN f l = some m → (f, m) ∈ l
  | [], h => by simp [lookN] at h
  | (g, k) :: r, h => by
    simp only [lookN] at h
    by_cases he : g = f
    · subst he; simp at h; subst h; simp
    · have hb : Nat.beq g f = false := by rw [← Bool.not_eq_true, Nat.beq_eq]; exact he
      rw [hb] at h
      exact List.mem_cons_of_mem _ (lookN_mem h)
def phi (f : Nat) : Option Go.FuncId := lookN f ids
def psi : Prim → Go.FuncId → Bool
  | .add64, F => Nat.beq F 48
  | .sub64, F => Nat.beq F 50
noncomputable def chkId (p : Nat × Nat) : Bool := bodyOk Go.Proofs.Try.prog p.2 && (match T p.1 with
  | some m => chkFn Go.Proofs.Try.prog phi psi p.2 m
  | none => true)
theorem ids_ok : ids.all chkId = true := by kernel_rfl

theorem env_ok : Env0 Go.Proofs.Try.prog phi psi where
  bodies := fun f F h => by
    have := List.all_eq_true.1 ids_ok _ (lookN_mem h)
    simp only [chkId, Bool.and_eq_true] at this
    exact this.1
  prims := fun p F h => by
    cases p
    · have e : F = 48 := Nat.eq_of_beq_eq_true h
      subst e
      exact prim_add Go.Proofs.Try.func48 (by kernel_rfl) (by kernel_rfl) (by kernel_rfl) (by kernel_rfl)
    · have e : F = 50 := Nat.eq_of_beq_eq_true h
      subst e
      exact prim_sub Go.Proofs.Try.func50 (by kernel_rfl) (by kernel_rfl) (by kernel_rfl) (by kernel_rfl)

theorem all_calls : CallOk Go.Proofs.Try.prog phi (Run T) := Run_ok env_ok (by kernel_rfl) fun f F m h hm => by
  have := List.all_eq_true.1 ids_ok _ (lookN_mem h)
  simp only [chkId, Bool.and_eq_true, hm] at this
  exact this.2
end Mir
