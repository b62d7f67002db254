/- The table stands for the program: each function checked by the kernel. So each call that the small language can make, the program makes. Conditions: none. -/
import Derived.Test.YtgefbjnbmdhakaaTabW
import Derived.Test.YtgefbjnbmdhakaaPrim
import Derived.Test.YtgefbjnbmdhakaaProg
import Derived.KernelRfl
set_option linter.unusedVariables false
set_option maxRecDepth 100000
namespace Mir
open Go.Proofs (Try.prog)

def ids : List (Nat × Nat) := [(f_curvetlaw17_Windows, 3), (f_curvetlaw17_WindowBack, 4), (f_curvetlaw17_WindowWidths, 5), (f_curvetlaw17_WindowOnes, 6), (f_curvetlaw17_WindowShifts, 7), (f_window_Digits, 8), (f_curvetref13_Digits, 9), (f_curvetref1_From, 10), (f_curvetlaw0_LendInts, 11), (f_window_Value, 12), (f_curvetref13_Value, 13), (f_curvetlaw0_SameInts, 14), (f_curvetlaw0_Num, 15), (f_curvetref1_Nat, 16), (f_curvetlaw0_KeptInts, 17), (f_curvetlaw0_SpoilInts, 18), (f_curvetlaw17_awake, 19), (f_curvetref1_Bits, 20), (f_curvetlaw0_Nat, 21), (f_nat_Bit, 22), (f_nat_Shl, 23), (f_nat_Add, 24), (f_curvetlaw0_One, 25), (f_window_wide, 26), (f_nat_Bits, 27), (f_nat_Shr, 28), (f_curvetref1_Shr, 29), (f_curvetref1_trim, 30), (f_curvetlaw0_CopyInts, 31), (f_curvetref1_Add, 32), (f_curvetref1_Shl, 33), (f_curvetref1_Small, 34), (f_curvetref1_digit, 35), (f_nat_used, 37), (f_bits_Len64, 38)]
def lookN (f : Nat) : List (Nat × Nat) → Option Nat
  | [] => none
  | (g, m) :: r => bif Nat.beq g f then some m else lookN f r
theorem lookN_mem {f m : Nat} : ∀ {l : List (Nat × Nat)}, lookN f l = some m → (f, m) ∈ l
  | [], h => by simp [lookN] at h
  | (g, k) :: r, h => by
    simp only [lookN] at h
    by_cases he : g = f
    · subst he; simp at h; subst h; simp
    · have hb : Nat.beq g f = false := by rw [← Bool.not_eq_true, Nat.beq_eq]; exact he
      rw [hb] at h
      exact List.mem_cons_of_mem _ (lookN_mem h)
def phi (f : Nat) : Option Go.FuncId := lookN f ids
def psi : Prim → Go.FuncId → Bool
  | .add64, F => Nat.beq F 36
  | .sub64, F => false
noncomputable def chkId (p : Nat × Nat) : Bool := bodyOk Go.Proofs.Try.prog p.2 && (match T p.1 with
  | some m => chkFn Go.Proofs.Try.prog phi psi p.2 m
  | none => true)
theorem ids_ok : ids.all chkId = true := by kernel_rfl

theorem env_ok : Env0 Go.Proofs.Try.prog phi psi where
  bodies := fun f F h => by
    have := List.all_eq_true.1 ids_ok _ (lookN_mem h)
    simp only [chkId, Bool.and_eq_true] at this
    exact this.1
  prims := fun p F h => by
    cases p
    · have e : F = 36 := Nat.eq_of_beq_eq_true h
      subst e
      exact prim_add Go.Proofs.Try.func36 (by kernel_rfl) (by kernel_rfl) (by kernel_rfl) (by kernel_rfl)
    · simp [psi] at h

theorem all_calls : CallOk Go.Proofs.Try.prog phi (Run T) := Run_ok env_ok (by kernel_rfl) fun f F m h hm => by
  have := List.all_eq_true.1 ids_ok _ (lookN_mem h)
  simp only [chkId, Bool.and_eq_true, hm] at this
  exact this.2
end Mir
