/- The table stands for the program: each function checked by the kernel. So each call that the small language can make, the program makes. Conditions: none. -/
import Derived.Test.YtgpmgccdenjadaaTab6
import Derived.Test.YtgpmgccdenjadaaPrim
import Derived.Test.YtgpmgccdenjadaaProg
import Derived.KernelRfl
set_option linter.unusedVariables false
set_option maxRecDepth 100000
namespace Mir
open Go.Proofs (Try.prog)

def ids : List (Nat × Nat) := [(f_curvetlaw6_MontBack, 3), (f_curvetlaw6_MontTiny, 4), (f_curvetlaw6_MontShares, 5), (f_curvetlaw6_Monts, 6), (f_curvetlaw6_MontOnes, 7), (f_curvetlaw6_awake, 8), (f_mont_New, 9), (f_curvetlaw0_Num, 10), (f_curvetref1_From, 11), (f_curvetref1_Nat, 12), (f_curvetref1_Mod, 13), (f_mont_Mont_To, 14), (f_mont_Mont_Mul, 15), (f_mont_Mont_From, 16), (f_curvetref1_MulMod, 17), (f_curvetlaw0_One, 18), (f_mont_Mont_Words, 19), (f_curvetlaw0_Nat, 20), (f_divide_Div, 21), (f_divide_MulMod, 22), (f_curvetlaw6_add, 23), (f_curvetref1_Bit, 24), (f_curvetref1_Cmp, 25), (f_curvetref1_Bits, 26), (f_mont_Mont_Inv, 27), (f_curvetref1_Shl, 28), (f_curvetref1_Inverse, 29), (f_divide_Inverse, 30), (f_nat_Cmp, 31), (f_nat_Small, 32), (f_nat_Bits, 33), (f_divide_By, 34), (f_divide_Modulus_Mul, 35), (f_divide_Modulus_Rest, 36), (f_curvetref1_trim, 37), (f_curvetref1_digit, 38), (f_curvetref1_Div, 39), (f_mont_Mont_may, 40), (f_mont_Mont_Raw, 41), (f_curvetref1_Mul, 42), (f_divide_zero, 43), (f_divide_of, 44), (f_divide_divisor_divide, 45), (f_curvetref1_SubMod, 46), (f_nat_Sub, 47), (f_nat_Add, 48), (f_nat_used, 49), (f_bits_Len64, 50), (f_nat_Mul, 51), (f_divide_length, 52), (f_curvetref1_short, 53), (f_curvetref1_step, 54), (f_curvetref1_Shr, 55), (f_mont_Mont_round, 56), (f_bits_LeadingZeros64, 57), (f_divide_divisor_guess, 58), (f_divide_divisor_take, 59), (f_divide_divisor_back, 60), (f_curvetref1_Sub, 61), (f_curvetref1_Add, 62), (f_bits_Mul64, 65), (f_bits_Div64, 66)]
def lookN (f : Nat) : List (Nat × Nat) → Option Nat
  | [] => none
  | (g, m) :: r => bif Nat.beq g f then some m else lookN f r
theorem lookN_mem {f m : Nat} : ∀ {l : List (Nat × Nat)}, lookN f l = some m → (f, m) ∈ l
  | [], h => by simp [lookN] at h
  | (g, k) :: r, h => by
    simp only [lookN] at h
    by_cases he : g = f
    · subst he; simp at h; subst h; simp
    · have hb : Nat.beq g f = false := by rw [← Bool.not_eq_true, Nat.beq_eq]; exact he
      rw [hb] at h
      exact List.mem_cons_of_mem _ (lookN_mem h)
def phi (f : Nat) : Option Go.FuncId := lookN f ids
def psi : Prim → Go.FuncId → Bool
  | .add64, F => Nat.beq F 64
  | .sub64, F => Nat.beq F 63
noncomputable def chkId (p : Nat × Nat) : Bool := bodyOk Go.Proofs.Try.prog p.2 && (match T p.1 with
  | some m => chkFn Go.Proofs.Try.prog phi psi p.2 m
  | none => true)
theorem ids_ok : ids.all chkId = true := by kernel_rfl

theorem env_ok : Env0 Go.Proofs.Try.prog phi psi where
  bodies := fun f F h => by
    have := List.all_eq_true.1 ids_ok _ (lookN_mem h)
    simp only [chkId, Bool.and_eq_true] at this
    exact this.1
  prims := fun p F h => by
    cases p
    · have e : F = 64 := Nat.eq_of_beq_eq_true h
      subst e
      exact prim_add Go.Proofs.Try.func64 (by kernel_rfl) (by kernel_rfl) (by kernel_rfl) (by kernel_rfl)
    · have e : F = 63 := Nat.eq_of_beq_eq_true h
      subst e
      exact prim_sub Go.Proofs.Try.func63 (by kernel_rfl) (by kernel_rfl) (by kernel_rfl) (by kernel_rfl)

theorem all_calls : CallOk Go.Proofs.Try.prog phi (Run T) := Run_ok env_ok (by kernel_rfl) fun f F m h hm => by
  have := List.all_eq_true.1 ids_ok _ (lookN_mem h)
  simp only [chkId, Bool.and_eq_true, hm] at this
  exact this.2
end Mir
