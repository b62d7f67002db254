/- The table stands for the program: each function checked by the kernel. So each call that the small language can make, the program makes. Conditions: none. -/
import Derived.Test.YtghioibhhmcfoaaTab5
import Derived.Test.YtghioibhhmcfoaaPrim
import Derived.Test.YtghioibhhmcfoaaProg
import Derived.KernelRfl
set_option linter.unusedVariables false
set_option maxRecDepth 100000
namespace Mir
open Go.Proofs (Try.prog)

def ids : List (Nat × Nat) := [(f_curvetlaw5_FieldRoots, 3), (f_curvetlaw5_FieldProducts, 4), (f_curvetlaw5_FieldInverses, 5), (f_curvetlaw5_FieldTiny, 6), (f_curvetlaw5_FieldRules, 7), (f_curvetlaw5_FieldSquares, 8), (f_curvetlaw5_FieldBounds, 9), (f_curvetlaw5_FieldFermat, 10), (f_curvetlaw5_FieldReduces, 11), (f_curvetlaw5_Fields, 12), (f_curvetref13_Get, 13), (f_field_Inv, 14), (f_field_Sqrt, 15), (f_curvetref1_From, 16), (f_curvetlaw0_Num, 17), (f_curvetlaw5_awake, 18), (f_curvetref1_Cmp, 19), (f_curvetref1_Inverse, 20), (f_curvetref1_Sqrt, 21), (f_curvetref1_Nat, 22), (f_curvetlaw5_one, 23), (f_curvetlaw5_below, 24), (f_field_Mul, 25), (f_curvetlaw0_One, 26), (f_field_Add, 27), (f_field_Sub, 28), (f_nat_Sub, 29), (f_divide_PowMod, 30), (f_field_Reduce, 31), (f_nat_Mul, 32), (f_curvetref1_Mod, 33), (f_curvetref1_Of, 34), (f_curvetref1_AddMod, 35), (f_curvetref1_SubMod, 36), (f_curvetref1_MulMod, 37), (f_curvetref13_row, 38), (f_curvetref13_Hex, 39), (f_curvetref1_Sub, 40), (f_field_Of, 41), (f_field_Field_Has, 42), (f_field_Field_Inv, 43), (f_field_Field_Sqrt, 44), (f_curvetref1_trim, 45), (f_curvetref1_Div, 46), (f_curvetref1_Shr, 47), (f_curvetref1_PowMod, 48), (f_curvetref1_Bit, 49), (f_curvetref1_Add, 50), (f_curvetref1_digit, 51), (f_field_do, 52), (f_field_Field_Mul, 53), (f_field_Field_Add, 54), (f_field_Field_Sub, 55), (f_divide_zero, 57), (f_divide_By, 58), (f_divide_Modulus_Pow, 59), (f_divide_Modulus_Rest, 60), (f_nat_used, 61), (f_bits_Mul64, 62), (f_curvetref1_Mul, 64), (f_curvetref13_digit, 65), (f_field_prime, 66), (f_field_Hex, 67), (f_nat_Cmp, 68), (f_divide_Inverse, 69), (f_field_one, 70), (f_field_half, 71), (f_field_Field_root, 72), (f_nat_Bit, 73), (f_curvetref1_short, 74), (f_curvetref1_Bits, 75), (f_curvetref1_Shl, 76), (f_curvetref1_step, 77), (f_divide_Modulus_Mul, 78), (f_nat_Add, 79), (f_divide_of, 80), (f_nat_Small, 81), (f_nat_Bits, 82), (f_divide_divisor_divide, 83), (f_divide_Div, 84), (f_nat_Shr, 85), (f_divide_length, 86), (f_bits_LeadingZeros64, 87), (f_bits_Len64, 88), (f_divide_divisor_guess, 89), (f_divide_divisor_take, 90), (f_divide_divisor_back, 91), (f_bits_Div64, 92)]
def lookN (f : Nat) : List (Nat × Nat) → Option Nat
  | [] => none
  | (g, m) :: r => bif Nat.beq g f then some m else lookN f r
theorem lookN_mem {f m : Nat} : ∀ {l : List (Nat × Nat)}, lookN f l = some m → (f, m) ∈ l
  | [], h => by simp [lookN] at h
  | (g, k) :: r, h => by
    simp only [lookN] at h
    by_cases he : g = f
    · subst he; simp at h; subst h; simp
    · have hb : Nat.beq g f = false := by rw [← Bool.not_eq_true, Nat.beq_eq]; exact he
      rw [hb] at h
      exact List.mem_cons_of_mem _ (lookN_mem h)
def phi (f : Nat) : Option Go.FuncId := lookN f ids
def psi : Prim → Go.FuncId → Bool
  | .add64, F => Nat.beq F 63
  | .sub64, F => Nat.beq F 56
noncomputable def chkId (p : Nat × Nat) : Bool := bodyOk Go.Proofs.Try.prog p.2 && (match T p.1 with
  | some m => chkFn Go.Proofs.Try.prog phi psi p.2 m
  | none => true)
theorem ids_ok : ids.all chkId = true := by kernel_rfl

theorem env_ok : Env0 Go.Proofs.Try.prog phi psi where
  bodies := fun f F h => by
    have := List.all_eq_true.1 ids_ok _ (lookN_mem h)
    simp only [chkId, Bool.and_eq_true] at this
    exact this.1
  prims := fun p F h => by
    cases p
    · have e : F = 63 := Nat.eq_of_beq_eq_true h
      subst e
      exact prim_add Go.Proofs.Try.func63 (by kernel_rfl) (by kernel_rfl) (by kernel_rfl) (by kernel_rfl)
    · have e : F = 56 := Nat.eq_of_beq_eq_true h
      subst e
      exact prim_sub Go.Proofs.Try.func56 (by kernel_rfl) (by kernel_rfl) (by kernel_rfl) (by kernel_rfl)

theorem all_calls : CallOk Go.Proofs.Try.prog phi (Run T) := Run_ok env_ok (by kernel_rfl) fun f F m h hm => by
  have := List.all_eq_true.1 ids_ok _ (lookN_mem h)
  simp only [chkId, Bool.and_eq_true, hm] at this
  exact this.2
end Mir
