/- The table stands for the program: each function checked by the kernel. So each call that the small language can make, the program makes. Conditions: none. -/
import Derived.Test.YtmfbmdbabebhmaaGreatTabZ
import Derived.Test.YtmfbmdbabebhmaaGreatPrim
import Derived.Test.YtmfbmdbabebhmaaGreatProg
import Derived.KernelRfl
set_option linter.unusedVariables false
set_option maxRecDepth 100000
namespace Mir
open Go.Proofs (Tryz.prog)

def ids : List (Nat × Nat) := [(f_curvettop_TopForged, 3), (f_curvettop_awake, 5), (f_curve_Get, 6), (f_curvetlaw0_Num, 7), (f_base_Mul, 8), (f_curvetlaw0_One, 9), (f_ecdsa_Verify, 10), (f_ecdsa_Digest, 11), (f_divide_Inverse, 12), (f_affine_Mul, 15), (f_curve_Open, 16), (f_nat_Cmp, 17), (f_base_Times, 18), (f_hash_Size, 19), (f_curve_Curve_On, 20), (f_curve_Curve_Key, 21), (f_ecdsa_of, 22), (f_ecdsa_scalars_inv, 23), (f_dual_Times, 24), (f_ecdsa_scalars_mul, 25), (f_ecdsa_digest, 26), (f_ecdsa_rest, 27), (f_divide_zero, 28), (f_divide_Div, 29), (f_nat_Small, 30), (f_divide_By, 31), (f_divide_Modulus_Mul, 32), (f_nat_Sub, 33), (f_nat_Add, 34), (f_affine_do, 35), (f_affine_Mul_1, 36), (f_curve_Curve_Plain, 37), (f_curve_Curve_Times, 38), (f_curve_Triple, 39), (f_field_Of, 40), (f_curve_rows, 41), (f_field_Hex, 42), (f_nat_Bits, 43), (f_field_Field_Add, 44), (f_mult_Times, 45), (f_table_Of, 46), (f_hash_of, 47), (f_field_Field_Has, 48), (f_field_Field_Mul, 49), (f_curve_Curve_Right, 50), (f_mont_New, 51), (f_mont_Mont_To, 52), (f_mont_Mont_Inv, 53), (f_mont_Mont_From, 54), (f_curve_None, 55), (f_curve_Curve_Sum, 56), (f_nat_Bit, 57), (f_mont_Mont_Mul, 58), (f_hash_Of, 59), (f_nat_Of, 60), (f_nat_Shr, 61), (f_divide_of, 62), (f_divide_divisor_divide, 63), (f_nat_Mul, 64), (f_divide_length, 65), (f_field_Field_Inv, 68), (f_field_prime, 69), (f_nat_used, 70), (f_bits_Len64, 71), (f_window_Digits, 72), (f_table_Table_Pick, 73), (f_divide_Modulus_Rest, 74), (f_mont_Mont_may, 75), (f_mont_Mont_Raw, 76), (f_field_Field_Sub, 77), (f_hash_New, 78), (f_hash_Stream_Write, 79), (f_hash_Stream_Sum, 80), (f_bits_LeadingZeros64, 81), (f_divide_divisor_guess, 82), (f_divide_divisor_take, 83), (f_divide_divisor_back, 84), (f_bits_Mul64, 85), (f_window_wide, 86), (f_trace_Trace_Index, 87), (f_mask_Equal, 88), (f_mask_Select, 89), (f_mont_Mont_round, 90), (f_sha256_New, 91), (f_hash_bind_sha256_Hash, 92), (f_sha256_Hash_Write, 93), (f_sha256_Hash_Sum, 94), (f_sha512_New, 95), (f_hash_bind_sha512_Hash, 96), (f_sha512_Hash_Write, 97), (f_sha512_Hash_Sum, 98), (f_bits_Div64, 99), (f_mask_Zero, 100), (f_mask_nat, 101), (f_mask_chooser_word, 102), (f_sha256_beginning, 103), (f_sha256_constants, 104), (f_hash_bind_sha256_Hash_1, 105), (f_hash_bind_sha256_Hash_2, 106), (f_sha256_blocks, 107), (f_sha256_Hash_turn, 108), (f_mask_spread, 115), (f_sha256_schedule, 116), (f_sha256_rotate, 117), (f_bits_RotateLeft32, 120)]
def lookN (f : Nat) : List (Nat × Nat) → Option Nat
  | [] => none
  | (g, m) :: r => bif Nat.beq g f then some m else lookN f r
theorem lookN_mem {f m : Nat} : ∀ {l : List (Nat × Nat)}, lookN f l = some m → (f, m) ∈ l
  | [], h => by simp [lookN] at h
  | (g, k) :: r, h => by
    simp only [lookN] at h
    by_cases he : g = f
    · subst he; simp at h; subst h; simp
    · have hb : Nat.beq g f = false := by rw [← Bool.not_eq_true, Nat.beq_eq]; exact he
      rw [hb] at h
      exact List.mem_cons_of_mem _ (lookN_mem h)
def phi (f : Nat) : Option Go.FuncId := lookN f ids
def psi : Prim → Go.FuncId → Bool
  | .add64, F => Nat.beq F 67
  | .sub64, F => Nat.beq F 66
noncomputable def chkId (p : Nat × Nat) : Bool := bodyOk Go.Proofs.Tryz.prog p.2 && (match T p.1 with
  | some m => chkFn Go.Proofs.Tryz.prog phi psi p.2 m
  | none => true)
theorem ids_ok : ids.all chkId = true := by kernel_rfl

theorem env_ok : Env0 Go.Proofs.Tryz.prog phi psi where
  bodies := fun f F h => by
    have := List.all_eq_true.1 ids_ok _ (lookN_mem h)
    simp only [chkId, Bool.and_eq_true] at this
    exact this.1
  prims := fun p F h => by
    cases p
    · have e : F = 67 := Nat.eq_of_beq_eq_true h
      subst e
      exact prim_add Go.Proofs.Tryz.func67 (by kernel_rfl) (by kernel_rfl) (by kernel_rfl) (by kernel_rfl)
    · have e : F = 66 := Nat.eq_of_beq_eq_true h
      subst e
      exact prim_sub Go.Proofs.Tryz.func66 (by kernel_rfl) (by kernel_rfl) (by kernel_rfl) (by kernel_rfl)

theorem all_calls : CallOk Go.Proofs.Tryz.prog phi (Run T) := Run_ok env_ok (by kernel_rfl) fun f F m h hm => by
  have := List.all_eq_true.1 ids_ok _ (lookN_mem h)
  simp only [chkId, Bool.and_eq_true, hm] at this
  exact this.2
end Mir
