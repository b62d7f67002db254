/- The table stands for the program: each function checked by the kernel. So each call that the small language can make, the program makes. Conditions: none. -/
import Derived.Test.YtmfbmdbabebhmaaTabT
import Derived.Test.YtmfbmdbabebhmaaPrim
import Derived.Test.YtmfbmdbabebhmaaProg
import Derived.KernelRfl
set_option linter.unusedVariables false
set_option maxRecDepth 100000
namespace Mir
open Go.Proofs (Try.prog)

def ids : List (Nat × Nat) := [(f_curvettop_TopBlind, 6), (f_curvettop_awake, 7), (f_curve_Get, 8), (f_divide_Div, 9), (f_curvetlaw0_Num, 11), (f_nat_Mul, 18), (f_curvetlaw0_One, 19), (f_base_Mul, 20), (f_sec1_Put, 21), (f_sec1_Get, 22), (f_affine_Mul, 24), (f_ecdh_Shared, 25), (f_nat_Bytes, 26), (f_curvettop_pick, 27), (f_trace_New, 28), (f_key_Public, 29), (f_mult_Mul, 30), (f_trace_Same, 31), (f_trace_Trace_Events, 32), (f_trace_Trace_Len, 33), (f_curve_Open, 34), (f_divide_zero, 35), (f_divide_of, 36), (f_divide_divisor_divide, 37), (f_nat_Cmp, 38), (f_nat_Small, 39), (f_nat_Bits, 40), (f_divide_By, 41), (f_divide_Modulus_Mul, 42), (f_field_Field_Mul, 45), (f_field_Of, 48), (f_nat_used, 49), (f_bits_Mul64, 50), (f_base_Times, 52), (f_curve_Curve_On, 53), (f_nat_Bit, 54), (f_nat_Of, 55), (f_sec1_lift, 56), (f_affine_do, 57), (f_affine_Mul_1, 59), (f_curve_Curve_Plain, 60), (f_curve_Curve_Times, 61), (f_curve_Triple, 62), (f_key_Check, 63), (f_mult_Times, 64), (f_table_Of, 65), (f_slices_Equal_api_Event_api_Event, 66), (f_slices_Clone_api_Event_api_Event, 67), (f_curve_rows, 68), (f_field_Hex, 69), (f_nat_Sub, 70), (f_field_Field_Add, 71), (f_divide_length, 72), (f_bits_LeadingZeros64, 73), (f_divide_divisor_guess, 74), (f_divide_divisor_take, 75), (f_divide_divisor_back, 76), (f_bits_Len64, 77), (f_field_Field_Has, 78), (f_field_prime, 80), (f_curve_Curve_Right, 81), (f_field_Field_Sqrt, 82), (f_field_Field_Sub, 83), (f_field_Field_Inv, 85), (f_curve_None, 86), (f_curve_Curve_Sum, 87), (f_curve_Curve_Key, 88), (f_window_Digits, 89), (f_table_Table_Pick, 90), (f_nat_Add, 92), (f_bits_Div64, 93), (f_field_one, 94), (f_divide_Modulus_Pow, 95), (f_field_half, 96), (f_field_Field_root, 97), (f_divide_Inverse, 98), (f_window_wide, 99), (f_nat_Shr, 100), (f_trace_Trace_Index, 101), (f_mask_Equal, 102), (f_mask_Select, 103), (f_mask_Zero, 104), (f_mask_nat, 105), (f_mask_chooser_word, 106), (f_mask_spread, 107)]
def lookN (f : Nat) : List (Nat × Nat) → Option Nat
  | [] => none
  | (g, m) :: r => bif Nat.beq g f then some m else lookN f r
theorem lookN_mem {f m : Nat} : ∀ {l : List (Nat × Nat)}, lookN f l = some m → (f, m) ∈ l
  | [], h => by simp [lookN] at h
  | (g, k) :: r, h => by
    simp only [lookN] at h
    by_cases he : g = f
    · subst he; simp at h; subst h; simp
    · have hb : Nat.beq g f = false := by rw [← Bool.not_eq_true, Nat.beq_eq]; exact he
      rw [hb] at h
      exact List.mem_cons_of_mem _ (lookN_mem h)
def phi (f : Nat) : Option Go.FuncId := lookN f ids
def psi : Prim → Go.FuncId → Bool
  | .add64, F => Nat.beq F 51
  | .sub64, F => Nat.beq F 91
noncomputable def chkId (p : Nat × Nat) : Bool := bodyOk Go.Proofs.Try.prog p.2 && (match T p.1 with
  | some m => chkFn Go.Proofs.Try.prog phi psi p.2 m
  | none => true)
theorem ids_ok : ids.all chkId = true := by kernel_rfl

theorem env_ok : Env0 Go.Proofs.Try.prog phi psi where
  bodies := fun f F h => by
    have := List.all_eq_true.1 ids_ok _ (lookN_mem h)
    simp only [chkId, Bool.and_eq_true] at this
    exact this.1
  prims := fun p F h => by
    cases p
    · have e : F = 51 := Nat.eq_of_beq_eq_true h
      subst e
      exact prim_add Go.Proofs.Try.func51 (by kernel_rfl) (by kernel_rfl) (by kernel_rfl) (by kernel_rfl)
    · have e : F = 91 := Nat.eq_of_beq_eq_true h
      subst e
      exact prim_sub Go.Proofs.Try.func91 (by kernel_rfl) (by kernel_rfl) (by kernel_rfl) (by kernel_rfl)

theorem all_calls : CallOk Go.Proofs.Try.prog phi (Run T) := Run_ok env_ok (by kernel_rfl) fun f F m h hm => by
  have := List.all_eq_true.1 ids_ok _ (lookN_mem h)
  simp only [chkId, Bool.and_eq_true, hm] at this
  exact this.2
end Mir
