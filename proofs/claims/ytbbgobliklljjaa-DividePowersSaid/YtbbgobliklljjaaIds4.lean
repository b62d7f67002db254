/- The table stands for the program: each function checked by the kernel. So each call that the small language can make, the program makes. Conditions: none. -/
import Derived.Test.YtbbgobliklljjaaTab4
import Derived.Test.YtbbgobliklljjaaPrim
import Derived.Test.YtbbgobliklljjaaProg
import Derived.KernelRfl
set_option linter.unusedVariables false
set_option maxRecDepth 100000
namespace Mir
open Go.Proofs (Try.prog)

def ids : List (Nat × Nat) := [(f_curvetlaw4_DividePowers, 3), (f_curvetlaw4_DivideSums, 4), (f_curvetlaw4_DivideExponents, 5), (f_curvetlaw4_DivideTimes, 6), (f_curvetlaw4_DivideBack, 7), (f_curvetlaw4_DivideSmall, 8), (f_curvetlaw4_Divides, 9), (f_curvetlaw4_DivideInverse, 10), (f_curvetlaw4_DivideWide, 11), (f_divide_PowMod, 12), (f_divide_Inverse, 13), (f_curvetref1_From, 14), (f_curvetlaw0_Num, 15), (f_curvetlaw4_awake, 16), (f_curvetref1_Inverse, 17), (f_curvetref1_Nat, 18), (f_curvetref1_PowMod, 19), (f_curvetlaw0_Nat, 20), (f_nat_Add, 21), (f_divide_Div, 22), (f_curvetlaw0_One, 23), (f_divide_MulMod, 24), (f_nat_Mul, 25), (f_nat_Cmp, 26), (f_divide_Mod, 27), (f_curvetref1_Div, 28), (f_curvetref1_Mod, 29), (f_curvetref1_Of, 30), (f_curvetref1_Mul, 31), (f_divide_zero, 32), (f_divide_By, 33), (f_divide_Modulus_Pow, 34), (f_nat_Small, 35), (f_divide_Modulus_Mul, 36), (f_nat_Sub, 37), (f_curvetref1_trim, 38), (f_curvetref1_Cmp, 39), (f_curvetref1_SubMod, 40), (f_curvetref1_MulMod, 41), (f_curvetref1_digit, 42), (f_curvetref1_Bits, 43), (f_curvetref1_Bit, 44), (f_divide_of, 46), (f_divide_divisor_divide, 47), (f_nat_used, 48), (f_bits_Mul64, 49), (f_curvetref1_short, 50), (f_curvetref1_Shl, 51), (f_curvetref1_step, 52), (f_curvetref1_Shr, 53), (f_nat_Bits, 54), (f_nat_Bit, 55), (f_divide_length, 56), (f_curvetref1_Sub, 58), (f_curvetref1_Add, 59), (f_bits_LeadingZeros64, 60), (f_divide_divisor_guess, 61), (f_divide_divisor_take, 62), (f_divide_divisor_back, 63), (f_bits_Len64, 64), (f_bits_Div64, 65)]
def lookN (f : Nat) : List (Nat × Nat) → Option Nat
  | [] => none
  | (g, m) :: r => bif Nat.beq g f then some m else lookN f r
theorem lookN_mem {f m : Nat} : ∀ {l : List (Nat × Nat)}, lookN f l = some m → (f, m) ∈ l
  | [], h => by simp [lookN] at h
  | (g, k) :: r, h => by
    simp only [lookN] at h
    by_cases he : g = f
    · subst he; simp at h; subst h; simp
    · have hb : Nat.beq g f = false := by rw [← Bool.not_eq_true, Nat.beq_eq]; exact he
      rw [hb] at h
      exact List.mem_cons_of_mem _ (lookN_mem h)
def phi (f : Nat) : Option Go.FuncId := lookN f ids
def psi : Prim → Go.FuncId → Bool
  | .add64, F => Nat.beq F 45
  | .sub64, F => Nat.beq F 57
noncomputable def chkId (p : Nat × Nat) : Bool := bodyOk Go.Proofs.Try.prog p.2 && (match T p.1 with
  | some m => chkFn Go.Proofs.Try.prog phi psi p.2 m
  | none => true)
theorem ids_ok : ids.all chkId = true := by kernel_rfl

theorem env_ok : Env0 Go.Proofs.Try.prog phi psi where
  bodies := fun f F h => by
    have := List.all_eq_true.1 ids_ok _ (lookN_mem h)
    simp only [chkId, Bool.and_eq_true] at this
    exact this.1
  prims := fun p F h => by
    cases p
    · have e : F = 45 := Nat.eq_of_beq_eq_true h
      subst e
      exact prim_add Go.Proofs.Try.func45 (by kernel_rfl) (by kernel_rfl) (by kernel_rfl) (by kernel_rfl)
    · have e : F = 57 := Nat.eq_of_beq_eq_true h
      subst e
      exact prim_sub Go.Proofs.Try.func57 (by kernel_rfl) (by kernel_rfl) (by kernel_rfl) (by kernel_rfl)

theorem all_calls : CallOk Go.Proofs.Try.prog phi (Run T) := Run_ok env_ok (by kernel_rfl) fun f F m h hm => by
  have := List.all_eq_true.1 ids_ok _ (lookN_mem h)
  simp only [chkId, Bool.and_eq_true, hm] at this
  exact this.2
end Mir
