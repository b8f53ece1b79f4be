/- What every row of these laws needs: a number by value, opened and shut. -/
import Derived.Test.YtenpiaafkmfjfaaRows
import Derived.WalkKit
import Derived.ProofKit
import Derived.OpenShut
import Derived.ShutString
import Derived.ChangeOld
import Derived.Below
import Derived.SizedLaws
import Derived.Lib.SmallJoins
namespace Go.Proofs.Ytenpiaafkmfjfaa.B
open Go.ChangeShapes Go.WideShapes Go.ChangeAt Go.RowKit Go.Joins

theorem own : ownKnob Try.prog.godebug = none := by kernel_rfl
section
variable {H : Type} {enc : TypeId × Value → H} {w : World} {base : Nat} {spare : Nat → Bool} {held : Bool}
set_option maxRecDepth 100000 in
theorem open_num {r : Reach} {b0 : Nat} {v : Value} {d : DataW H} {p : List MemPlace} (hv : Value.okWide Try.prog w r b0 23 v) (h : DataW.Trod enc Try.prog w base spare held 23 v d p) :
    ∃ (a : Int) (f : Bool), v = .agg #[.int .i64 a, .bool f] ∧ d = .agg [.lit (.int .i64 a), .lit (.bool f)] ∧ p = [] ∧ (Lit.int .i64 a).wf = true := by
  obtain ⟨c0, c1, y0, y1, m, rfl, rfl, rfl, hy0, hy1⟩ := open_agg2 Try.underlying23 (by kernel_rfl) (by kernel_rfl) hv h
  obtain ⟨a, e0, rfl, wa⟩ := DataW.trod_int (k := .i64) (t := 2) Try.underlying2 hy0
  obtain ⟨f, e1, rfl⟩ := DataW.trod_bool (t := 4) Try.underlying4 hy1
  simp at e0 e1
  subst e0 e1
  exact ⟨a, f, rfl, rfl, rfl, wa⟩
set_option maxRecDepth 100000 in
theorem shut_num (a : Int) (f : Bool) (wa : (Lit.int .i64 a).wf = true) : DataW.Trod enc Try.prog w base spare held 23 (.agg #[.int .i64 a, .bool f]) (.agg [.lit (.int .i64 a), .lit (.bool f)]) [] :=
  shut_agg2 (y0 := (.lit (.int .i64 a), [])) (y1 := (.lit (.bool f), [])) Try.underlying23 (by kernel_rfl) (by kernel_rfl) ⟨1, by simp [DataW.trod, wa]⟩ ⟨1, by simp [DataW.trod]⟩
theorem wf_i64 {a : Int} (h : (Lit.int .i64 a).wf = true) : -9223372036854775808 ≤ a ∧ a ≤ 9223372036854775807 := by
  simp only [Lit.wf, IntKind.min, IntKind.max, IntKind.signed, IntKind.bits, Bool.and_eq_true, decide_eq_true_eq, if_true] at h
  omega
end
end Go.Proofs.Ytenpiaafkmfjfaa.B
