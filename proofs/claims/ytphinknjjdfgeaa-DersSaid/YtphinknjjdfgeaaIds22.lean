/- The table stands for the program: each function checked by the kernel. So each call that the small language can make, the program makes. Conditions: none. -/
import Derived.Test.YtphinknjjdfgeaaTab22
import Derived.Test.YtphinknjjdfgeaaPrim
import Derived.Test.YtphinknjjdfgeaaProg
import Derived.KernelRfl
set_option linter.unusedVariables false
set_option maxRecDepth 100000
namespace Mir
open Go.Proofs (Try.prog)

def ids : List (Nat × Nat) := [(f_curvetlaw22_Ders, 3), (f_curvetlaw22_DerBack, 4), (f_curvetlaw22_DerSpoilt, 5), (f_curvetlaw22_DerLengths, 6), (f_curvetlaw22_DerLoose, 7), (f_curvetlaw22_DerGreat, 8), (f_der_Get, 9), (f_curvetref13_Undo, 10), (f_der_Put, 11), (f_curvetref13_Der, 12), (f_curvetref1_From, 13), (f_curvetlaw0_Num, 14), (f_curvetlaw22_awake, 15), (f_nat_Bits, 16), (f_curvetlaw0_One, 17), (f_der_reader_field, 18), (f_der_reader_number, 19), (f_curvetref13_take, 20), (f_curvetref1_Bits, 21), (f_curvetref1_Nat, 22), (f_der_field, 23), (f_der_number, 24), (f_curvetref13_number, 25), (f_curvetref1_trim, 26), (f_nat_used, 27), (f_bits_Len64, 28), (f_der_reader_byte, 29), (f_der_reader_bytes, 30), (f_nat_Of, 31), (f_curvetref1_Read, 32), (f_curvetref1_digit, 33), (f_nat_Bytes, 34), (f_curvetref1_Bytes, 35)]
def lookN (f : Nat) : List (Nat × Nat) → Option Nat
  | [] => none
  | (g, m) :: r => bif Nat.beq g f then some m else lookN f r
theorem lookN_mem {f m : Nat} : ∀ {l : List (Nat × Nat)}, lookN f l = some m → (f, m) ∈ l
  | [], h => by simp [lookN] at h
  | (g, k) :: r, h => by
    simp only [lookN] at h
    by_cases he : g = f
    · subst he; simp at h; subst h; simp
    · have hb : Nat.beq g f = false := by rw [← Bool.not_eq_true, Nat.beq_eq]; exact he
      rw [hb] at h
      exact List.mem_cons_of_mem _ (lookN_mem h)
def phi (f : Nat) : Option Go.FuncId := lookN f ids
def psi : Prim → Go.FuncId → Bool
  | .add64, F => false
  | .sub64, F => false
noncomputable def chkId (p : Nat × Nat) : Bool := bodyOk Go.Proofs.Try.prog p.2 && (match T p.1 with
  | some m => chkFn Go.Proofs.Try.prog phi psi p.2 m
  | none => true)
theorem ids_ok : ids.all chkId = true := by kernel_rfl

theorem env_ok : Env0 Go.Proofs.Try.prog phi psi where
  bodies := fun f F h => by
    have := List.all_eq_true.1 ids_ok _ (lookN_mem h)
    simp only [chkId, Bool.and_eq_true] at this
    exact this.1
  prims := fun p F h => by
    cases p
    · simp [psi] at h
    · simp [psi] at h

theorem all_calls : CallOk Go.Proofs.Try.prog phi (Run T) := Run_ok env_ok (by kernel_rfl) fun f F m h hm => by
  have := List.all_eq_true.1 ids_ok _ (lookN_mem h)
  simp only [chkId, Bool.and_eq_true, hm] at this
  exact this.2
end Mir
