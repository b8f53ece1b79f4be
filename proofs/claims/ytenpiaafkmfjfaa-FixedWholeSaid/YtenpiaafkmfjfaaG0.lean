/- The two calls that the model stands in for (math/bits.Add64, Sub64) answer as their definition says, for a carry of 0 or of an earlier call. -/
import Derived.Test.YtenpiaafkmfjfaaProg
import Derived.Laws.Externs
import Derived.KernelRfl
namespace Go.Proofs.Ytenpiaafkmfjfaa.B
open Go.Proofs

def add64s (x y c : Int) : Int := (((x.toNat + y.toNat + c.toNat) % 18446744073709551616 : Nat) : Int)
def add64c (x y c : Int) : Int := (((x.toNat + y.toNat + c.toNat) / 18446744073709551616 : Nat) : Int)
def sub64s (x y c : Int) : Int := (((x.toNat + 18446744073709551616 - y.toNat - c.toNat) % 18446744073709551616 : Nat) : Int)
def sub64c (x y c : Int) : Int := ((if x.toNat < y.toNat + c.toNat then 1 else 0 : Nat) : Int)

def subEntry : Array Value → Sem Value := fun args => do
  let (x, y, b) ← Extern.MathBitsCarry.three "Sub64" args
  pure (Extern.MathBitsCarry.pair ((x + Extern.MathBitsCarry.m64 - y - b) % Extern.MathBitsCarry.m64) (if x < y + b then 1 else 0))

theorem run_addE (x y c : Int) (hc : c = 0 ∨ c = 1) (w : World) :
    (add64Entry #[.int .u64 x, .int .u64 y, .int .u64 c]).run Try.prog w = .ok (.tuple #[.int .u64 (add64s x y c), .int .u64 (add64c x y c)]) w := by
  rcases hc with rfl | rfl <;> rfl
theorem run_subE (x y c : Int) (hc : c = 0 ∨ c = 1) (w : World) :
    (subEntry #[.int .u64 x, .int .u64 y, .int .u64 c]).run Try.prog w = .ok (.tuple #[.int .u64 (sub64s x y c), .int .u64 (sub64c x y c)]) w := by
  rcases hc with rfl | rfl <;> rfl

theorem ext108 (x y c : Int) (hc : c = 0 ∨ c = 1) (w : World) :
    (callFunc 108 #[.int .u64 x, .int .u64 y, .int .u64 c]).run Try.prog w = .ok (.value (.tuple #[.int .u64 (add64s x y c), .int .u64 (add64c x y c)])) w := by
  rw [run_callFunc_extern Try.func108 (by kernel_rfl) (by kernel_rfl) (by kernel_rfl) (e := add64Entry) (by kernel_rfl), run_addE x y c hc]
  rfl
theorem ext110 (x y c : Int) (hc : c = 0 ∨ c = 1) (w : World) :
    (callFunc 110 #[.int .u64 x, .int .u64 y, .int .u64 c]).run Try.prog w = .ok (.value (.tuple #[.int .u64 (sub64s x y c), .int .u64 (sub64c x y c)])) w := by
  rw [run_callFunc_extern Try.func110 (by kernel_rfl) (by kernel_rfl) (by kernel_rfl) (e := subEntry) (by kernel_rfl), run_subE x y c hc]
  rfl
theorem add64c_01 (x y : Int) (hx : x < 18446744073709551616) (hy : y < 18446744073709551616) : add64c x y 0 = 0 ∨ add64c x y 0 = 1 := by
  unfold add64c; omega
theorem sub64c_01 (x y c : Int) : sub64c x y c = 0 ∨ sub64c x y c = 1 := by
  unfold sub64c; split <;> simp
theorem ext108_0 (x y : Int) (w : World) :
    (callFunc 108 #[.int .u64 x, .int .u64 y, .int .u64 0]).run Try.prog w = .ok (.value (.tuple #[.int .u64 (add64s x y 0), .int .u64 (add64c x y 0)])) w := ext108 x y 0 (.inl rfl) w
theorem ext108_1 (x y a b : Int) (w : World) (h : add64c a b 0 ≤ 1) :
    (callFunc 108 #[.int .u64 x, .int .u64 y, .int .u64 (add64c a b 0)]).run Try.prog w = .ok (.value (.tuple #[.int .u64 (add64s x y (add64c a b 0)), .int .u64 (add64c x y (add64c a b 0))])) w := by
  have h0 : 0 ≤ add64c a b 0 := by unfold add64c; omega
  exact ext108 x y _ (by omega) w
theorem ext110_0 (x y : Int) (w : World) :
    (callFunc 110 #[.int .u64 x, .int .u64 y, .int .u64 0]).run Try.prog w = .ok (.value (.tuple #[.int .u64 (sub64s x y 0), .int .u64 (sub64c x y 0)])) w := ext110 x y 0 (.inl rfl) w
theorem ext110_1 (x y a b : Int) (w : World) :
    (callFunc 110 #[.int .u64 x, .int .u64 y, .int .u64 (sub64c a b 0)]).run Try.prog w = .ok (.value (.tuple #[.int .u64 (sub64s x y (sub64c a b 0)), .int .u64 (sub64c x y (sub64c a b 0))])) w := ext110 x y _ (sub64c_01 _ _ _) w
end Go.Proofs.Ytenpiaafkmfjfaa.B
