/- FixedWhole: what the law's plain function answers, and the call. -/
import Derived.Test.YtenpiaafkmfjfaaP2
import Derived.Test.YtenpiaafkmfjfaaLFixedWhole1
namespace Go.Proofs.Ytenpiaafkmfjfaa.B
open Go.RowKit
theorem fixedWhole_f (k : Nat) (hk : 5 ≤ k) (v : Int) (f : Bool) (a b c d : Int) (hv : I64 v) (ha : I64 a) (hb : I64 b) (hc : I64 c) (hd : I64 d) : bagatellelaw01_FixedWhole.f k v f a b c d = some true := by
  unfold bagatellelaw01_FixedWhole.f
  rw [floor_f, floor_r, round_f f hv, round_r f hv, order_f k (by omega) ha hb hc hd, order_r ha hb hc hd, awake_f k hk]
  simp only [Option.bind_some, if_true]
theorem fixedWhole_walk (v : Int) (f : Bool) (a b c d : Int) (w : World) (hv : I64 v) (ha : I64 a) (hb : I64 b) (hc : I64 c) (hd : I64 d) :
    Calls Try.prog 3 #[.agg #[.int .i64 v, .bool f], .int .i64 a, .int .i64 b, .int .i64 c, .int .i64 d] w fun e w' => e = .returned (.bool true) ∧ Below w.heap.size w w' :=
  bagatellelaw01_FixedWhole.calls 5 v f a b c d true w (fixedWhole_f 5 (by omega) v f a b c d hv ha hb hc hd)
end Go.Proofs.Ytenpiaafkmfjfaa.B
