/- The processor's two own functions, Add64 and Sub64, by the model's entries. Conditions: none. -/
import Derived.Test.YtmfbmdbabebhmaaGreatAllQ
import Derived.Laws.Externs
set_option linter.unusedVariables false
namespace Mir
open Go (Value World Program FuncId Sem Result)

/-- What the model does for math/bits.Sub64. -/
def subEntry : Array Value → Sem Value := fun args => do
  let (x, y, b) ← Go.Extern.MathBitsCarry.three "Sub64" args
  pure (Go.Extern.MathBitsCarry.pair ((x + Go.Extern.MathBitsCarry.m64 - y - b) % Go.Extern.MathBitsCarry.m64) (if x < y + b then 1 else 0))

theorem prim_add {P : Program} {F : FuncId} {fn : Go.Func} (hf : P.funcs[F]? = some fn) (hname : (fn.name == "runtime.NumGoroutine") = false) (hb : fn.body.isNone = true) (hn : Go.Extern.findNext fn = none) (he : Go.Extern.find fn = some Go.add64Entry) : PrimOk P .add64 F := by
  intro x y k w hk
  rw [Go.run_callFunc_extern hf hname hb hn he, Go.run_add64 x y k (by omega) (by omega) (by omega) (by omega)]
  simp only [Result.andThen]
  congr 5 <;> omega

theorem prim_sub {P : Program} {F : FuncId} {fn : Go.Func} (hf : P.funcs[F]? = some fn) (hname : (fn.name == "runtime.NumGoroutine") = false) (hb : fn.body.isNone = true) (hn : Go.Extern.findNext fn = none) (he : Go.Extern.find fn = some subEntry) : PrimOk P .sub64 F := by
  intro x y k w hk
  rw [Go.run_callFunc_extern hf hname hb hn he]
  have : (subEntry #[.int .u64 x, .int .u64 y, .int .u64 k]).run P w = .ok (.tuple #[.int .u64 (((x + 18446744073709551616 - y - k) % 18446744073709551616 : Nat) : Int), .int .u64 ((if x < y + k then 1 else 0 : Nat) : Int)]) w := by
    have : k = 0 ∨ k = 1 := by omega
    rcases this with rfl | rfl <;> rfl
  rw [this]
  rfl

end Mir
