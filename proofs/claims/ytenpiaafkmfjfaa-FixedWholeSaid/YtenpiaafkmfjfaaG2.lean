/- Two arrays of two words are equal just where both words are; fields and elements of aggregates are what was put there. -/
import Derived.Test.YtenpiaafkmfjfaaProg
import Derived.WideLaws
import Derived.WalkKit
import Derived.Laws.StructEq
namespace Go.Proofs.Ytenpiaafkmfjfaa.B
open Go.RowKit
theorem size56 (w : World) : (sizeOf 56).run Try.prog w = .ok 1 w := by kernel_rfl
theorem part56_0 (w : World) (x y : Int) : (part 56 #[.int .u64 x, .int .u64 y] 0).run Try.prog w = .ok (.int .u64 x) w := by kernel_rfl
theorem part56_1 (w : World) (x y : Int) : (part 56 #[.int .u64 x, .int .u64 y] 1).run Try.prog w = .ok (.int .u64 y) w := by kernel_rfl
set_option maxHeartbeats 1000000 in
theorem eqA58 (d : Nat) (w : World) (x0 y0 x1 y1 : Int) :
    (Op.equalIn (d + 2) 58 (.agg #[.int .u64 x0, .int .u64 x1]) (.agg #[.int .u64 y0, .int .u64 y1])).run Try.prog w = .ok (x0 == y0 && (x1 == y1)) w := by
  have hu := Try.underlying58
  have e := fun a b => run_equalIn_int w d 56 .u64 .u64 a b Try.underlying56
  rw [show d + 2 = (d + 1) + 1 from rfl, Op.equalIn]
  simp only [Sem.run_bind, run_underlying hu, Result.andThen_ok, size56, Std.Legacy.Range.forIn_eq_forIn_range', Std.Legacy.Range.size, Nat.sub_zero, Nat.add_one_sub_one, Nat.div_one]
  simp only [List.range', List.forIn_cons, List.forIn_nil, Sem.run_bind, Nat.zero_mul, Nat.one_mul, Nat.zero_add, part56_0, Result.andThen_ok, e]
  by_cases h0 : x0 = y0 <;> by_cases h1 : x1 = y1 <;> simp [h0, h1, e, part56_1]
theorem fld23_0 (x : Int) (y : Bool) (w : World) : (Instr.field 23 (.agg #[.int .i64 x, .bool y]) 0).run Try.prog w = .ok (.int .i64 x) w := by kernel_rfl
theorem fld23_1 (x : Int) (y : Bool) (w : World) : (Instr.field 23 (.agg #[.int .i64 x, .bool y]) 1).run Try.prog w = .ok (.bool y) w := by kernel_rfl
theorem fld60_0 (n : Bool) (x y : Int) (w : World) : (Instr.field 60 (.agg #[.bool n, .int .u64 x, .int .u64 y]) 0).run Try.prog w = .ok (.bool n) w := by kernel_rfl
theorem fld60_1 (n : Bool) (x y : Int) (w : World) : (Instr.field 60 (.agg #[.bool n, .int .u64 x, .int .u64 y]) 1).run Try.prog w = .ok (.agg #[.int .u64 x, .int .u64 y]) w := by kernel_rfl
theorem idx58_0 (x y : Int) (w : World) : (Instr.index 58 (.agg #[.int .u64 x, .int .u64 y]) (.int .i64 0)).run Try.prog w = .ok (.int .u64 x) w := by kernel_rfl
theorem idx58_1 (x y : Int) (w : World) : (Instr.index 58 (.agg #[.int .u64 x, .int .u64 y]) (.int .i64 1)).run Try.prog w = .ok (.int .u64 y) w := by kernel_rfl
end Go.Proofs.Ytenpiaafkmfjfaa.B
