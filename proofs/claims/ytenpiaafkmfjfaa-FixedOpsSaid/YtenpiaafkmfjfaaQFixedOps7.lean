/- FixedOps: part 7 of the proof. -/
import Derived.Test.YtenpiaafkmfjfaaQFixedOps6
section
namespace Go.Proofs.Ytenpiaafkmfjfaa.B
open Go.RowKit Go.Proofs.YtenpiaafkmfjfaaW.PrintWords Go.Proofs.YtenpiaafkmfjfaaW.PrintLast Go.Proofs.YtenpiaafkmfjfaaW.PrintMore
attribute [local go_sem] max2_int min2_int max_two min_two max_three min_three max_four min_four
set_option linter.unusedVariables false
set_option linter.unusedSimpArgs false
attribute [local go_sem high] eqA23
def bagatellelaw01_FixedOps.f (k : Nat) (a0_0 : Int) (a0_1 : Bool) (a1_0 : Int) (a1_1 : Bool) (a2 : Int) (a3 : Int) : Option (Bool) := (fixed_Of.f a2).bind fun bt400 => ((bagatelleref01_Of.f a2).bind fun bt402 => (if (!(bt400.1 == bt402.1) || (!(bt400.2 == bt402.2))) = true then (none) else ((fixed_Int.f k a2).bind fun bt404 => ((bagatelleref01_Int.f k a2).bind fun bt406 => (if (!(bt404.1 == bt406.1) || (!(bt404.2 == bt406.2))) = true then (none) else ((fixed_Ratio.f k a2 a3).bind fun bt408 => ((bagatelleref01_Ratio.f k a2 a3).bind fun bt410 => (if (!(bt408.1 == bt410.1) || (!(bt408.2 == bt410.2))) = true then (none) else ((fixed_Neg.f a0_0 a0_1).bind fun bt412 => ((bagatelleref01_Neg.f a0_0 a0_1).bind fun bt414 => (if (!(bt412.1 == bt414.1) || (!(bt412.2 == bt414.2))) = true then (none) else ((fixed_Abs.f a0_0 a0_1).bind fun bt416 => ((bagatelleref01_Abs.f a0_0 a0_1).bind fun bt418 => (if (!(bt416.1 == bt418.1) || (!(bt416.2 == bt418.2))) = true then (none) else ((fixed_Add.f k a0_0 a0_1 a1_0 a1_1).bind fun bt420 => ((bagatelleref01_Add.f k a0_0 a0_1 a1_0 a1_1).bind fun bt422 => (if (bt420.1 == bt422.1 && (bt420.2 == bt422.2)) = true then ((fixed_Sub.f k a0_0 a0_1 a1_0 a1_1).bind fun bt424 => ((bagatelleref01_Sub.f k a0_0 a0_1 a1_0 a1_1).bind fun bt426 => (if (bt424.1 == bt426.1 && (bt424.2 == bt426.2)) = true then ((fixed_Mul.f k a0_0 a0_1 a1_0 a1_1).bind fun bt428 => ((bagatelleref01_Mul.f k a0_0 a0_1 a1_0 a1_1).bind fun bt430 => (if (bt428.1 == bt430.1 && (bt428.2 == bt430.2)) = true then ((fixed_Div.f k a0_0 a0_1 a1_0 a1_1).bind fun bt432 => ((bagatelleref01_Div.f k a0_0 a0_1 a1_0 a1_1).bind fun bt434 => (if (bt432.1 == bt434.1 && (bt432.2 == bt434.2)) = true then ((bagatellelaw01_awake.f k).bind fun t436 => (some t436)) else (none)))) else (none)))) else (none)))) else (none))))))))))))))))))
def bagatellelaw01_FixedOps.T1 : Bool × List (List Nat × List Nat) := (true, [([], []), ([0], [0]), ([], []), ([2, 1], [2]), ([1, 3], [1, 3]), ([4, 3], [4]), ([5], [5]), ([6, 5, 5], [5, 6]), ([5], [5]), ([8, 7, 5], [5, 8]), ([7, 9, 5], [5, 7, 9]), ([5, 10], [5, 10]), ([11, 9], [11]), ([12], [12]), ([12], [12]), ([13, 14, 12, 12], [12, 13, 14]), ([12], [12]), ([12], [12]), ([16, 17, 15, 12], [12, 16, 17]), ([15, 18, 12], [12, 15, 18]), ([12, 19], [12, 19]), ([20, 18], [20]), ([21], [21]), ([22, 21, 21], [21, 22]), ([21], [21]), ([24, 23, 21], [21, 24]), ([23, 25, 21], [21, 23, 25]), ([21, 26], [21, 26]), ([27, 25], [27]), ([28], [28]), ([29, 28, 28], [28, 29]), ([28], [28]), ([31, 30, 28], [28, 31]), ([30, 32, 28], [28, 30, 32]), ([28, 33], [28, 33])])
def bagatellelaw01_FixedOps.B1 : List Nat := [0, 1, 0, 7, 15, 31, 63, 127, 63, 511, 1023, 2047, 4095, 8191, 8191, 32767, 8191, 8191, 262143, 524287, 1048575, 2097151, 4194303, 8388607, 4194303, 33554431, 67108863, 134217727, 268435455, 536870911, 1073741823, 536870911, 4294967295, 8589934591, 17179869183]
theorem bagatellelaw01_FixedOps.tab1 : rtab .any (opsOf Try.f9 1) = bagatellelaw01_FixedOps.T1 := by kernel_rfl
theorem bagatellelaw01_FixedOps.bits1 : waitsOk bagatellelaw01_FixedOps.T1.2 bagatellelaw01_FixedOps.B1 = true := by kernel_rfl
def bagatellelaw01_FixedOps.T3 : Bool × List (List Nat × List Nat) := (true, [([], []), ([], []), ([0, 1], [0, 1]), ([], []), ([], []), ([3, 4, 2], [3, 4]), ([2, 5], [2, 5]), ([6, 5], [6]), ([7], [7]), ([7], [7]), ([8, 9, 7, 7], [7, 8, 9]), ([7], [7]), ([7], [7]), ([11, 12, 10, 7], [7, 11, 12]), ([10, 13, 7], [7, 10, 13]), ([7, 14], [7, 14]), ([15, 13], [15]), ([16], [16]), ([16], [16]), ([17, 18, 16, 16], [16, 17, 18]), ([16], [16]), ([16], [16]), ([20, 21, 19, 16], [16, 20, 21]), ([19, 22, 16], [16, 19, 22]), ([16, 23], [16, 23]), ([24, 22], [24]), ([25], [25]), ([25], [25]), ([26, 27, 25, 25], [25, 26, 27]), ([25], [25]), ([25], [25]), ([29, 30, 28, 25], [25, 29, 30]), ([28, 31, 25], [25, 28, 31]), ([25, 32], [25, 32]), ([33, 31], [33]), ([34, 34], [34]), ([34, 35], [34, 35]), ([36, 35, 0, 1, 2, 3, 4, 5, 6, 7, 8, 9, 10, 11, 12, 13, 14, 15, 16, 17, 18, 19, 20, 21, 22, 23, 24, 25, 26, 27, 28, 29, 30, 31, 32, 33, 34, 35, 36], [36])])
def bagatellelaw01_FixedOps.B3 : List Nat := [0, 0, 3, 0, 0, 31, 63, 127, 255, 255, 1023, 255, 255, 8191, 16383, 32767, 65535, 131071, 131071, 524287, 131071, 131071, 4194303, 8388607, 16777215, 33554431, 67108863, 67108863, 268435455, 67108863, 67108863, 2147483647, 4294967295, 8589934591, 17179869183, 34359738367, 68719476735, 137438953471]
theorem bagatellelaw01_FixedOps.tab3 : rtab .any (opsOf Try.f9 3) = bagatellelaw01_FixedOps.T3 := by kernel_rfl
theorem bagatellelaw01_FixedOps.bits3 : waitsOk bagatellelaw01_FixedOps.T3.2 bagatellelaw01_FixedOps.B3 = true := by kernel_rfl
set_option maxHeartbeats 8000000 in
set_option maxRecDepth 100000 in
theorem bagatellelaw01_FixedOps.calls (k : Nat) (a0_0 : Int) (a0_1 : Bool) (a1_0 : Int) (a1_1 : Bool) (a2 : Int) (a3 : Int) (r : Bool) (w : World) (h : bagatellelaw01_FixedOps.f k a0_0 a0_1 a1_0 a1_1 a2 a3 = some r) :
    Calls Try.prog 9 #[.agg #[.int .i64 a0_0, .bool a0_1], .agg #[.int .i64 a1_0, .bool a1_1], .int .i64 a2, .int .i64 a3] w fun e w' => e = .returned (.bool r) ∧ Below w.heap.size w w' := by
  have hu23 := Try.underlying23
  have HB := Aside0.mk (Below.refl w.heap.size w)
  have H : ((fixed_Of.f a2).bind fun bt400 => ((bagatelleref01_Of.f a2).bind fun bt402 => (if (!(bt400.1 == bt402.1) || (!(bt400.2 == bt402.2))) = true then (none) else ((fixed_Int.f k a2).bind fun bt404 => ((bagatelleref01_Int.f k a2).bind fun bt406 => (if (!(bt404.1 == bt406.1) || (!(bt404.2 == bt406.2))) = true then (none) else ((fixed_Ratio.f k a2 a3).bind fun bt408 => ((bagatelleref01_Ratio.f k a2 a3).bind fun bt410 => (if (!(bt408.1 == bt410.1) || (!(bt408.2 == bt410.2))) = true then (none) else ((fixed_Neg.f a0_0 a0_1).bind fun bt412 => ((bagatelleref01_Neg.f a0_0 a0_1).bind fun bt414 => (if (!(bt412.1 == bt414.1) || (!(bt412.2 == bt414.2))) = true then (none) else ((fixed_Abs.f a0_0 a0_1).bind fun bt416 => ((bagatelleref01_Abs.f a0_0 a0_1).bind fun bt418 => (if (!(bt416.1 == bt418.1) || (!(bt416.2 == bt418.2))) = true then (none) else ((fixed_Add.f k a0_0 a0_1 a1_0 a1_1).bind fun bt420 => ((bagatelleref01_Add.f k a0_0 a0_1 a1_0 a1_1).bind fun bt422 => (if (bt420.1 == bt422.1 && (bt420.2 == bt422.2)) = true then ((fixed_Sub.f k a0_0 a0_1 a1_0 a1_1).bind fun bt424 => ((bagatelleref01_Sub.f k a0_0 a0_1 a1_0 a1_1).bind fun bt426 => (if (bt424.1 == bt426.1 && (bt424.2 == bt426.2)) = true then ((fixed_Mul.f k a0_0 a0_1 a1_0 a1_1).bind fun bt428 => ((bagatelleref01_Mul.f k a0_0 a0_1 a1_0 a1_1).bind fun bt430 => (if (bt428.1 == bt430.1 && (bt428.2 == bt430.2)) = true then ((fixed_Div.f k a0_0 a0_1 a1_0 a1_1).bind fun bt432 => ((bagatelleref01_Div.f k a0_0 a0_1 a1_0 a1_1).bind fun bt434 => (if (bt432.1 == bt434.1 && (bt432.2 == bt434.2)) = true then ((bagatellelaw01_awake.f k).bind fun t436 => (some t436)) else (none)))) else (none)))) else (none)))) else (none))))))))))))))))))) = some r := h
  clear h
  replace H := Option.bind_eq_some_iff.mp H
  obtain ⟨⟨t400, t401⟩, A50, H⟩ := H
  replace H : ((bagatelleref01_Of.f a2).bind fun bt402 => (if (!(t400 == bt402.1) || (!(t401 == bt402.2))) = true then (none) else ((fixed_Int.f k a2).bind fun bt404 => ((bagatelleref01_Int.f k a2).bind fun bt406 => (if (!(bt404.1 == bt406.1) || (!(bt404.2 == bt406.2))) = true then (none) else ((fixed_Ratio.f k a2 a3).bind fun bt408 => ((bagatelleref01_Ratio.f k a2 a3).bind fun bt410 => (if (!(bt408.1 == bt410.1) || (!(bt408.2 == bt410.2))) = true then (none) else ((fixed_Neg.f a0_0 a0_1).bind fun bt412 => ((bagatelleref01_Neg.f a0_0 a0_1).bind fun bt414 => (if (!(bt412.1 == bt414.1) || (!(bt412.2 == bt414.2))) = true then (none) else ((fixed_Abs.f a0_0 a0_1).bind fun bt416 => ((bagatelleref01_Abs.f a0_0 a0_1).bind fun bt418 => (if (!(bt416.1 == bt418.1) || (!(bt416.2 == bt418.2))) = true then (none) else ((fixed_Add.f k a0_0 a0_1 a1_0 a1_1).bind fun bt420 => ((bagatelleref01_Add.f k a0_0 a0_1 a1_0 a1_1).bind fun bt422 => (if (bt420.1 == bt422.1 && (bt420.2 == bt422.2)) = true then ((fixed_Sub.f k a0_0 a0_1 a1_0 a1_1).bind fun bt424 => ((bagatelleref01_Sub.f k a0_0 a0_1 a1_0 a1_1).bind fun bt426 => (if (bt424.1 == bt426.1 && (bt424.2 == bt426.2)) = true then ((fixed_Mul.f k a0_0 a0_1 a1_0 a1_1).bind fun bt428 => ((bagatelleref01_Mul.f k a0_0 a0_1 a1_0 a1_1).bind fun bt430 => (if (bt428.1 == bt430.1 && (bt428.2 == bt430.2)) = true then ((fixed_Div.f k a0_0 a0_1 a1_0 a1_1).bind fun bt432 => ((bagatelleref01_Div.f k a0_0 a0_1 a1_0 a1_1).bind fun bt434 => (if (bt432.1 == bt434.1 && (bt432.2 == bt434.2)) = true then ((bagatellelaw01_awake.f k).bind fun t436 => (some t436)) else (none)))) else (none)))) else (none)))) else (none)))))))))))))))))) = some r := H
  have A5 := Aside0.mk A50
  clear A50
  replace H := Option.bind_eq_some_iff.mp H
  obtain ⟨⟨t402, t403⟩, A60, H⟩ := H
  replace H : (if (!(t400 == t402) || (!(t401 == t403))) = true then (none) else ((fixed_Int.f k a2).bind fun bt404 => ((bagatelleref01_Int.f k a2).bind fun bt406 => (if (!(bt404.1 == bt406.1) || (!(bt404.2 == bt406.2))) = true then (none) else ((fixed_Ratio.f k a2 a3).bind fun bt408 => ((bagatelleref01_Ratio.f k a2 a3).bind fun bt410 => (if (!(bt408.1 == bt410.1) || (!(bt408.2 == bt410.2))) = true then (none) else ((fixed_Neg.f a0_0 a0_1).bind fun bt412 => ((bagatelleref01_Neg.f a0_0 a0_1).bind fun bt414 => (if (!(bt412.1 == bt414.1) || (!(bt412.2 == bt414.2))) = true then (none) else ((fixed_Abs.f a0_0 a0_1).bind fun bt416 => ((bagatelleref01_Abs.f a0_0 a0_1).bind fun bt418 => (if (!(bt416.1 == bt418.1) || (!(bt416.2 == bt418.2))) = true then (none) else ((fixed_Add.f k a0_0 a0_1 a1_0 a1_1).bind fun bt420 => ((bagatelleref01_Add.f k a0_0 a0_1 a1_0 a1_1).bind fun bt422 => (if (bt420.1 == bt422.1 && (bt420.2 == bt422.2)) = true then ((fixed_Sub.f k a0_0 a0_1 a1_0 a1_1).bind fun bt424 => ((bagatelleref01_Sub.f k a0_0 a0_1 a1_0 a1_1).bind fun bt426 => (if (bt424.1 == bt426.1 && (bt424.2 == bt426.2)) = true then ((fixed_Mul.f k a0_0 a0_1 a1_0 a1_1).bind fun bt428 => ((bagatelleref01_Mul.f k a0_0 a0_1 a1_0 a1_1).bind fun bt430 => (if (bt428.1 == bt430.1 && (bt428.2 == bt430.2)) = true then ((fixed_Div.f k a0_0 a0_1 a1_0 a1_1).bind fun bt432 => ((bagatelleref01_Div.f k a0_0 a0_1 a1_0 a1_1).bind fun bt434 => (if (bt432.1 == bt434.1 && (bt432.2 == bt434.2)) = true then ((bagatellelaw01_awake.f k).bind fun t436 => (some t436)) else (none)))) else (none)))) else (none)))) else (none))))))))))))))))) = some r := H
  have A6 := Aside0.mk A60
  clear A60
  by_cases c7 : (!(t400 == t402) || (!(t401 == t403))) = true
  · rw [if_pos c7] at H
    have c7b0 : (!(t400 == t402) || (!(t401 == t403))) = true := c7
    clear c7
    exact absurd H (by simp)
  · rw [if_neg c7] at H
    have c7b0 : (!(t400 == t402) || (!(t401 == t403))) = false := by simpa using c7
    clear c7
    replace H := Option.bind_eq_some_iff.mp H
    obtain ⟨⟨t404, t405⟩, A80, H⟩ := H
    replace H : ((bagatelleref01_Int.f k a2).bind fun bt406 => (if (!(t404 == bt406.1) || (!(t405 == bt406.2))) = true then (none) else ((fixed_Ratio.f k a2 a3).bind fun bt408 => ((bagatelleref01_Ratio.f k a2 a3).bind fun bt410 => (if (!(bt408.1 == bt410.1) || (!(bt408.2 == bt410.2))) = true then (none) else ((fixed_Neg.f a0_0 a0_1).bind fun bt412 => ((bagatelleref01_Neg.f a0_0 a0_1).bind fun bt414 => (if (!(bt412.1 == bt414.1) || (!(bt412.2 == bt414.2))) = true then (none) else ((fixed_Abs.f a0_0 a0_1).bind fun bt416 => ((bagatelleref01_Abs.f a0_0 a0_1).bind fun bt418 => (if (!(bt416.1 == bt418.1) || (!(bt416.2 == bt418.2))) = true then (none) else ((fixed_Add.f k a0_0 a0_1 a1_0 a1_1).bind fun bt420 => ((bagatelleref01_Add.f k a0_0 a0_1 a1_0 a1_1).bind fun bt422 => (if (bt420.1 == bt422.1 && (bt420.2 == bt422.2)) = true then ((fixed_Sub.f k a0_0 a0_1 a1_0 a1_1).bind fun bt424 => ((bagatelleref01_Sub.f k a0_0 a0_1 a1_0 a1_1).bind fun bt426 => (if (bt424.1 == bt426.1 && (bt424.2 == bt426.2)) = true then ((fixed_Mul.f k a0_0 a0_1 a1_0 a1_1).bind fun bt428 => ((bagatelleref01_Mul.f k a0_0 a0_1 a1_0 a1_1).bind fun bt430 => (if (bt428.1 == bt430.1 && (bt428.2 == bt430.2)) = true then ((fixed_Div.f k a0_0 a0_1 a1_0 a1_1).bind fun bt432 => ((bagatelleref01_Div.f k a0_0 a0_1 a1_0 a1_1).bind fun bt434 => (if (bt432.1 == bt434.1 && (bt432.2 == bt434.2)) = true then ((bagatellelaw01_awake.f k).bind fun t436 => (some t436)) else (none)))) else (none)))) else (none)))) else (none))))))))))))))) = some r := H
    have A8 := Aside0.mk A80
    clear A80
    replace H := Option.bind_eq_some_iff.mp H
    obtain ⟨⟨t406, t407⟩, A90, H⟩ := H
    replace H : (if (!(t404 == t406) || (!(t405 == t407))) = true then (none) else ((fixed_Ratio.f k a2 a3).bind fun bt408 => ((bagatelleref01_Ratio.f k a2 a3).bind fun bt410 => (if (!(bt408.1 == bt410.1) || (!(bt408.2 == bt410.2))) = true then (none) else ((fixed_Neg.f a0_0 a0_1).bind fun bt412 => ((bagatelleref01_Neg.f a0_0 a0_1).bind fun bt414 => (if (!(bt412.1 == bt414.1) || (!(bt412.2 == bt414.2))) = true then (none) else ((fixed_Abs.f a0_0 a0_1).bind fun bt416 => ((bagatelleref01_Abs.f a0_0 a0_1).bind fun bt418 => (if (!(bt416.1 == bt418.1) || (!(bt416.2 == bt418.2))) = true then (none) else ((fixed_Add.f k a0_0 a0_1 a1_0 a1_1).bind fun bt420 => ((bagatelleref01_Add.f k a0_0 a0_1 a1_0 a1_1).bind fun bt422 => (if (bt420.1 == bt422.1 && (bt420.2 == bt422.2)) = true then ((fixed_Sub.f k a0_0 a0_1 a1_0 a1_1).bind fun bt424 => ((bagatelleref01_Sub.f k a0_0 a0_1 a1_0 a1_1).bind fun bt426 => (if (bt424.1 == bt426.1 && (bt424.2 == bt426.2)) = true then ((fixed_Mul.f k a0_0 a0_1 a1_0 a1_1).bind fun bt428 => ((bagatelleref01_Mul.f k a0_0 a0_1 a1_0 a1_1).bind fun bt430 => (if (bt428.1 == bt430.1 && (bt428.2 == bt430.2)) = true then ((fixed_Div.f k a0_0 a0_1 a1_0 a1_1).bind fun bt432 => ((bagatelleref01_Div.f k a0_0 a0_1 a1_0 a1_1).bind fun bt434 => (if (bt432.1 == bt434.1 && (bt432.2 == bt434.2)) = true then ((bagatellelaw01_awake.f k).bind fun t436 => (some t436)) else (none)))) else (none)))) else (none)))) else (none)))))))))))))) = some r := H
    have A9 := Aside0.mk A90
    clear A90
    by_cases c10 : (!(t404 == t406) || (!(t405 == t407))) = true
    · rw [if_pos c10] at H
      have c10b0 : (!(t404 == t406) || (!(t405 == t407))) = true := c10
      clear c10
      exact absurd H (by simp)
    · rw [if_neg c10] at H
      have c10b0 : (!(t404 == t406) || (!(t405 == t407))) = false := by simpa using c10
      clear c10
      replace H := Option.bind_eq_some_iff.mp H
      obtain ⟨⟨t408, t409⟩, A110, H⟩ := H
      replace H : ((bagatelleref01_Ratio.f k a2 a3).bind fun bt410 => (if (!(t408 == bt410.1) || (!(t409 == bt410.2))) = true then (none) else ((fixed_Neg.f a0_0 a0_1).bind fun bt412 => ((bagatelleref01_Neg.f a0_0 a0_1).bind fun bt414 => (if (!(bt412.1 == bt414.1) || (!(bt412.2 == bt414.2))) = true then (none) else ((fixed_Abs.f a0_0 a0_1).bind fun bt416 => ((bagatelleref01_Abs.f a0_0 a0_1).bind fun bt418 => (if (!(bt416.1 == bt418.1) || (!(bt416.2 == bt418.2))) = true then (none) else ((fixed_Add.f k a0_0 a0_1 a1_0 a1_1).bind fun bt420 => ((bagatelleref01_Add.f k a0_0 a0_1 a1_0 a1_1).bind fun bt422 => (if (bt420.1 == bt422.1 && (bt420.2 == bt422.2)) = true then ((fixed_Sub.f k a0_0 a0_1 a1_0 a1_1).bind fun bt424 => ((bagatelleref01_Sub.f k a0_0 a0_1 a1_0 a1_1).bind fun bt426 => (if (bt424.1 == bt426.1 && (bt424.2 == bt426.2)) = true then ((fixed_Mul.f k a0_0 a0_1 a1_0 a1_1).bind fun bt428 => ((bagatelleref01_Mul.f k a0_0 a0_1 a1_0 a1_1).bind fun bt430 => (if (bt428.1 == bt430.1 && (bt428.2 == bt430.2)) = true then ((fixed_Div.f k a0_0 a0_1 a1_0 a1_1).bind fun bt432 => ((bagatelleref01_Div.f k a0_0 a0_1 a1_0 a1_1).bind fun bt434 => (if (bt432.1 == bt434.1 && (bt432.2 == bt434.2)) = true then ((bagatellelaw01_awake.f k).bind fun t436 => (some t436)) else (none)))) else (none)))) else (none)))) else (none)))))))))))) = some r := H
      have A11 := Aside0.mk A110
      clear A110
      replace H := Option.bind_eq_some_iff.mp H
      obtain ⟨⟨t410, t411⟩, A120, H⟩ := H
      replace H : (if (!(t408 == t410) || (!(t409 == t411))) = true then (none) else ((fixed_Neg.f a0_0 a0_1).bind fun bt412 => ((bagatelleref01_Neg.f a0_0 a0_1).bind fun bt414 => (if (!(bt412.1 == bt414.1) || (!(bt412.2 == bt414.2))) = true then (none) else ((fixed_Abs.f a0_0 a0_1).bind fun bt416 => ((bagatelleref01_Abs.f a0_0 a0_1).bind fun bt418 => (if (!(bt416.1 == bt418.1) || (!(bt416.2 == bt418.2))) = true then (none) else ((fixed_Add.f k a0_0 a0_1 a1_0 a1_1).bind fun bt420 => ((bagatelleref01_Add.f k a0_0 a0_1 a1_0 a1_1).bind fun bt422 => (if (bt420.1 == bt422.1 && (bt420.2 == bt422.2)) = true then ((fixed_Sub.f k a0_0 a0_1 a1_0 a1_1).bind fun bt424 => ((bagatelleref01_Sub.f k a0_0 a0_1 a1_0 a1_1).bind fun bt426 => (if (bt424.1 == bt426.1 && (bt424.2 == bt426.2)) = true then ((fixed_Mul.f k a0_0 a0_1 a1_0 a1_1).bind fun bt428 => ((bagatelleref01_Mul.f k a0_0 a0_1 a1_0 a1_1).bind fun bt430 => (if (bt428.1 == bt430.1 && (bt428.2 == bt430.2)) = true then ((fixed_Div.f k a0_0 a0_1 a1_0 a1_1).bind fun bt432 => ((bagatelleref01_Div.f k a0_0 a0_1 a1_0 a1_1).bind fun bt434 => (if (bt432.1 == bt434.1 && (bt432.2 == bt434.2)) = true then ((bagatellelaw01_awake.f k).bind fun t436 => (some t436)) else (none)))) else (none)))) else (none)))) else (none))))))))))) = some r := H
      have A12 := Aside0.mk A120
      clear A120
      by_cases c13 : (!(t408 == t410) || (!(t409 == t411))) = true
      · rw [if_pos c13] at H
        have c13b0 : (!(t408 == t410) || (!(t409 == t411))) = true := c13
        clear c13
        exact absurd H (by simp)
      · rw [if_neg c13] at H
        have c13b0 : (!(t408 == t410) || (!(t409 == t411))) = false := by simpa using c13
        clear c13
        replace H := Option.bind_eq_some_iff.mp H
        obtain ⟨⟨t412, t413⟩, A140, H⟩ := H
        replace H : ((bagatelleref01_Neg.f a0_0 a0_1).bind fun bt414 => (if (!(t412 == bt414.1) || (!(t413 == bt414.2))) = true then (none) else ((fixed_Abs.f a0_0 a0_1).bind fun bt416 => ((bagatelleref01_Abs.f a0_0 a0_1).bind fun bt418 => (if (!(bt416.1 == bt418.1) || (!(bt416.2 == bt418.2))) = true then (none) else ((fixed_Add.f k a0_0 a0_1 a1_0 a1_1).bind fun bt420 => ((bagatelleref01_Add.f k a0_0 a0_1 a1_0 a1_1).bind fun bt422 => (if (bt420.1 == bt422.1 && (bt420.2 == bt422.2)) = true then ((fixed_Sub.f k a0_0 a0_1 a1_0 a1_1).bind fun bt424 => ((bagatelleref01_Sub.f k a0_0 a0_1 a1_0 a1_1).bind fun bt426 => (if (bt424.1 == bt426.1 && (bt424.2 == bt426.2)) = true then ((fixed_Mul.f k a0_0 a0_1 a1_0 a1_1).bind fun bt428 => ((bagatelleref01_Mul.f k a0_0 a0_1 a1_0 a1_1).bind fun bt430 => (if (bt428.1 == bt430.1 && (bt428.2 == bt430.2)) = true then ((fixed_Div.f k a0_0 a0_1 a1_0 a1_1).bind fun bt432 => ((bagatelleref01_Div.f k a0_0 a0_1 a1_0 a1_1).bind fun bt434 => (if (bt432.1 == bt434.1 && (bt432.2 == bt434.2)) = true then ((bagatellelaw01_awake.f k).bind fun t436 => (some t436)) else (none)))) else (none)))) else (none)))) else (none))))))))) = some r := H
        have A14 := Aside0.mk A140
        clear A140
        replace H := Option.bind_eq_some_iff.mp H
        obtain ⟨⟨t414, t415⟩, A150, H⟩ := H
        replace H : (if (!(t412 == t414) || (!(t413 == t415))) = true then (none) else ((fixed_Abs.f a0_0 a0_1).bind fun bt416 => ((bagatelleref01_Abs.f a0_0 a0_1).bind fun bt418 => (if (!(bt416.1 == bt418.1) || (!(bt416.2 == bt418.2))) = true then (none) else ((fixed_Add.f k a0_0 a0_1 a1_0 a1_1).bind fun bt420 => ((bagatelleref01_Add.f k a0_0 a0_1 a1_0 a1_1).bind fun bt422 => (if (bt420.1 == bt422.1 && (bt420.2 == bt422.2)) = true then ((fixed_Sub.f k a0_0 a0_1 a1_0 a1_1).bind fun bt424 => ((bagatelleref01_Sub.f k a0_0 a0_1 a1_0 a1_1).bind fun bt426 => (if (bt424.1 == bt426.1 && (bt424.2 == bt426.2)) = true then ((fixed_Mul.f k a0_0 a0_1 a1_0 a1_1).bind fun bt428 => ((bagatelleref01_Mul.f k a0_0 a0_1 a1_0 a1_1).bind fun bt430 => (if (bt428.1 == bt430.1 && (bt428.2 == bt430.2)) = true then ((fixed_Div.f k a0_0 a0_1 a1_0 a1_1).bind fun bt432 => ((bagatelleref01_Div.f k a0_0 a0_1 a1_0 a1_1).bind fun bt434 => (if (bt432.1 == bt434.1 && (bt432.2 == bt434.2)) = true then ((bagatellelaw01_awake.f k).bind fun t436 => (some t436)) else (none)))) else (none)))) else (none)))) else (none)))))))) = some r := H
        have A15 := Aside0.mk A150
        clear A150
        by_cases c16 : (!(t412 == t414) || (!(t413 == t415))) = true
        · rw [if_pos c16] at H
          have c16b0 : (!(t412 == t414) || (!(t413 == t415))) = true := c16
          clear c16
          exact absurd H (by simp)
        · rw [if_neg c16] at H
          have c16b0 : (!(t412 == t414) || (!(t413 == t415))) = false := by simpa using c16
          clear c16
          replace H := Option.bind_eq_some_iff.mp H
          obtain ⟨⟨t416, t417⟩, A170, H⟩ := H
          replace H : ((bagatelleref01_Abs.f a0_0 a0_1).bind fun bt418 => (if (!(t416 == bt418.1) || (!(t417 == bt418.2))) = true then (none) else ((fixed_Add.f k a0_0 a0_1 a1_0 a1_1).bind fun bt420 => ((bagatelleref01_Add.f k a0_0 a0_1 a1_0 a1_1).bind fun bt422 => (if (bt420.1 == bt422.1 && (bt420.2 == bt422.2)) = true then ((fixed_Sub.f k a0_0 a0_1 a1_0 a1_1).bind fun bt424 => ((bagatelleref01_Sub.f k a0_0 a0_1 a1_0 a1_1).bind fun bt426 => (if (bt424.1 == bt426.1 && (bt424.2 == bt426.2)) = true then ((fixed_Mul.f k a0_0 a0_1 a1_0 a1_1).bind fun bt428 => ((bagatelleref01_Mul.f k a0_0 a0_1 a1_0 a1_1).bind fun bt430 => (if (bt428.1 == bt430.1 && (bt428.2 == bt430.2)) = true then ((fixed_Div.f k a0_0 a0_1 a1_0 a1_1).bind fun bt432 => ((bagatelleref01_Div.f k a0_0 a0_1 a1_0 a1_1).bind fun bt434 => (if (bt432.1 == bt434.1 && (bt432.2 == bt434.2)) = true then ((bagatellelaw01_awake.f k).bind fun t436 => (some t436)) else (none)))) else (none)))) else (none)))) else (none)))))) = some r := H
          have A17 := Aside0.mk A170
          clear A170
          replace H := Option.bind_eq_some_iff.mp H
          obtain ⟨⟨t418, t419⟩, A180, H⟩ := H
          replace H : (if (!(t416 == t418) || (!(t417 == t419))) = true then (none) else ((fixed_Add.f k a0_0 a0_1 a1_0 a1_1).bind fun bt420 => ((bagatelleref01_Add.f k a0_0 a0_1 a1_0 a1_1).bind fun bt422 => (if (bt420.1 == bt422.1 && (bt420.2 == bt422.2)) = true then ((fixed_Sub.f k a0_0 a0_1 a1_0 a1_1).bind fun bt424 => ((bagatelleref01_Sub.f k a0_0 a0_1 a1_0 a1_1).bind fun bt426 => (if (bt424.1 == bt426.1 && (bt424.2 == bt426.2)) = true then ((fixed_Mul.f k a0_0 a0_1 a1_0 a1_1).bind fun bt428 => ((bagatelleref01_Mul.f k a0_0 a0_1 a1_0 a1_1).bind fun bt430 => (if (bt428.1 == bt430.1 && (bt428.2 == bt430.2)) = true then ((fixed_Div.f k a0_0 a0_1 a1_0 a1_1).bind fun bt432 => ((bagatelleref01_Div.f k a0_0 a0_1 a1_0 a1_1).bind fun bt434 => (if (bt432.1 == bt434.1 && (bt432.2 == bt434.2)) = true then ((bagatellelaw01_awake.f k).bind fun t436 => (some t436)) else (none)))) else (none)))) else (none)))) else (none))))) = some r := H
          have A18 := Aside0.mk A180
          clear A180
          by_cases c19 : (!(t416 == t418) || (!(t417 == t419))) = true
          · rw [if_pos c19] at H
            exact absurd H (by simp)
          · rw [if_neg c19] at H
            have c19b0 : (!(t416 == t418) || (!(t417 == t419))) = false := by simpa using c19
            clear c19
            replace H := Option.bind_eq_some_iff.mp H
            obtain ⟨⟨t420, t421⟩, A200, H⟩ := H
            replace H : ((bagatelleref01_Add.f k a0_0 a0_1 a1_0 a1_1).bind fun bt422 => (if (t420 == bt422.1 && (t421 == bt422.2)) = true then ((fixed_Sub.f k a0_0 a0_1 a1_0 a1_1).bind fun bt424 => ((bagatelleref01_Sub.f k a0_0 a0_1 a1_0 a1_1).bind fun bt426 => (if (bt424.1 == bt426.1 && (bt424.2 == bt426.2)) = true then ((fixed_Mul.f k a0_0 a0_1 a1_0 a1_1).bind fun bt428 => ((bagatelleref01_Mul.f k a0_0 a0_1 a1_0 a1_1).bind fun bt430 => (if (bt428.1 == bt430.1 && (bt428.2 == bt430.2)) = true then ((fixed_Div.f k a0_0 a0_1 a1_0 a1_1).bind fun bt432 => ((bagatelleref01_Div.f k a0_0 a0_1 a1_0 a1_1).bind fun bt434 => (if (bt432.1 == bt434.1 && (bt432.2 == bt434.2)) = true then ((bagatellelaw01_awake.f k).bind fun t436 => (some t436)) else (none)))) else (none)))) else (none)))) else (none))) = some r := H
            have A20 := Aside0.mk A200
            clear A200
            replace H := Option.bind_eq_some_iff.mp H
            obtain ⟨⟨t422, t423⟩, A210, H⟩ := H
            replace H : (if (t420 == t422 && (t421 == t423)) = true then ((fixed_Sub.f k a0_0 a0_1 a1_0 a1_1).bind fun bt424 => ((bagatelleref01_Sub.f k a0_0 a0_1 a1_0 a1_1).bind fun bt426 => (if (bt424.1 == bt426.1 && (bt424.2 == bt426.2)) = true then ((fixed_Mul.f k a0_0 a0_1 a1_0 a1_1).bind fun bt428 => ((bagatelleref01_Mul.f k a0_0 a0_1 a1_0 a1_1).bind fun bt430 => (if (bt428.1 == bt430.1 && (bt428.2 == bt430.2)) = true then ((fixed_Div.f k a0_0 a0_1 a1_0 a1_1).bind fun bt432 => ((bagatelleref01_Div.f k a0_0 a0_1 a1_0 a1_1).bind fun bt434 => (if (bt432.1 == bt434.1 && (bt432.2 == bt434.2)) = true then ((bagatellelaw01_awake.f k).bind fun t436 => (some t436)) else (none)))) else (none)))) else (none)))) else (none)) = some r := H
            have A21 := Aside0.mk A210
            clear A210
            by_cases c22 : (t420 == t422 && (t421 == t423)) = true
            · rw [if_pos c22] at H
              have c22b0 : (t420 == t422 && (t421 == t423)) = true := c22
              (try (have c22b1 : decide (t420 = t422 && (t421 == t423)) = true := by simpa using c22))
              (try (have c22b2 : (t420 == t422 && (t421 == t423)) = true := by simpa using c22))
              clear c22
              replace H := Option.bind_eq_some_iff.mp H
              obtain ⟨⟨t424, t425⟩, A230, H⟩ := H
              replace H : ((bagatelleref01_Sub.f k a0_0 a0_1 a1_0 a1_1).bind fun bt426 => (if (t424 == bt426.1 && (t425 == bt426.2)) = true then ((fixed_Mul.f k a0_0 a0_1 a1_0 a1_1).bind fun bt428 => ((bagatelleref01_Mul.f k a0_0 a0_1 a1_0 a1_1).bind fun bt430 => (if (bt428.1 == bt430.1 && (bt428.2 == bt430.2)) = true then ((fixed_Div.f k a0_0 a0_1 a1_0 a1_1).bind fun bt432 => ((bagatelleref01_Div.f k a0_0 a0_1 a1_0 a1_1).bind fun bt434 => (if (bt432.1 == bt434.1 && (bt432.2 == bt434.2)) = true then ((bagatellelaw01_awake.f k).bind fun t436 => (some t436)) else (none)))) else (none)))) else (none))) = some r := H
              have A23 := Aside0.mk A230
              clear A230
              replace H := Option.bind_eq_some_iff.mp H
              obtain ⟨⟨t426, t427⟩, A240, H⟩ := H
              replace H : (if (t424 == t426 && (t425 == t427)) = true then ((fixed_Mul.f k a0_0 a0_1 a1_0 a1_1).bind fun bt428 => ((bagatelleref01_Mul.f k a0_0 a0_1 a1_0 a1_1).bind fun bt430 => (if (bt428.1 == bt430.1 && (bt428.2 == bt430.2)) = true then ((fixed_Div.f k a0_0 a0_1 a1_0 a1_1).bind fun bt432 => ((bagatelleref01_Div.f k a0_0 a0_1 a1_0 a1_1).bind fun bt434 => (if (bt432.1 == bt434.1 && (bt432.2 == bt434.2)) = true then ((bagatellelaw01_awake.f k).bind fun t436 => (some t436)) else (none)))) else (none)))) else (none)) = some r := H
              have A24 := Aside0.mk A240
              clear A240
              by_cases c25 : (t424 == t426 && (t425 == t427)) = true
              · rw [if_pos c25] at H
                have c25b0 : (t424 == t426 && (t425 == t427)) = true := c25
                (try (have c25b1 : decide (t424 = t426 && (t425 == t427)) = true := by simpa using c25))
                (try (have c25b2 : (t424 == t426 && (t425 == t427)) = true := by simpa using c25))
                clear c25
                replace H := Option.bind_eq_some_iff.mp H
                obtain ⟨⟨t428, t429⟩, A260, H⟩ := H
                replace H : ((bagatelleref01_Mul.f k a0_0 a0_1 a1_0 a1_1).bind fun bt430 => (if (t428 == bt430.1 && (t429 == bt430.2)) = true then ((fixed_Div.f k a0_0 a0_1 a1_0 a1_1).bind fun bt432 => ((bagatelleref01_Div.f k a0_0 a0_1 a1_0 a1_1).bind fun bt434 => (if (bt432.1 == bt434.1 && (bt432.2 == bt434.2)) = true then ((bagatellelaw01_awake.f k).bind fun t436 => (some t436)) else (none)))) else (none))) = some r := H
                have A26 := Aside0.mk A260
                clear A260
                replace H := Option.bind_eq_some_iff.mp H
                obtain ⟨⟨t430, t431⟩, A270, H⟩ := H
                replace H : (if (t428 == t430 && (t429 == t431)) = true then ((fixed_Div.f k a0_0 a0_1 a1_0 a1_1).bind fun bt432 => ((bagatelleref01_Div.f k a0_0 a0_1 a1_0 a1_1).bind fun bt434 => (if (bt432.1 == bt434.1 && (bt432.2 == bt434.2)) = true then ((bagatellelaw01_awake.f k).bind fun t436 => (some t436)) else (none)))) else (none)) = some r := H
                have A27 := Aside0.mk A270
                clear A270
                by_cases c28 : (t428 == t430 && (t429 == t431)) = true
                · rw [if_pos c28] at H
                  have c28b0 : (t428 == t430 && (t429 == t431)) = true := c28
                  (try (have c28b1 : decide (t428 = t430 && (t429 == t431)) = true := by simpa using c28))
                  (try (have c28b2 : (t428 == t430 && (t429 == t431)) = true := by simpa using c28))
                  clear c28
                  replace H := Option.bind_eq_some_iff.mp H
                  obtain ⟨⟨t432, t433⟩, A290, H⟩ := H
                  replace H : ((bagatelleref01_Div.f k a0_0 a0_1 a1_0 a1_1).bind fun bt434 => (if (t432 == bt434.1 && (t433 == bt434.2)) = true then ((bagatellelaw01_awake.f k).bind fun t436 => (some t436)) else (none))) = some r := H
                  have A29 := Aside0.mk A290
                  clear A290
                  replace H := Option.bind_eq_some_iff.mp H
                  obtain ⟨⟨t434, t435⟩, A300, H⟩ := H
                  replace H : (if (t432 == t434 && (t433 == t435)) = true then ((bagatellelaw01_awake.f k).bind fun t436 => (some t436)) else (none)) = some r := H
                  have A30 := Aside0.mk A300
                  clear A300
                  by_cases c31 : (t432 == t434 && (t433 == t435)) = true
                  · rw [if_pos c31] at H
                    have c31b0 : (t432 == t434 && (t433 == t435)) = true := c31
                    (try (have c31b1 : decide (t432 = t434 && (t433 == t435)) = true := by simpa using c31))
                    (try (have c31b2 : (t432 == t434 && (t433 == t435)) = true := by simpa using c31))
                    clear c31
                    replace H := Option.bind_eq_some_iff.mp H
                    obtain ⟨t436, A320, H⟩ := H
                    replace H : (some t436) = some r := H
                    have A32 := Aside0.mk A320
                    clear A320
                    obtain rfl := Option.some.inj H
                    go_enter Try.func9, Try.ntmps9
                    try go_wp2_with (first | ((with_reducible refine gate_dst (N := 4) rfl ?_); refine box_event ?hg (N := 4) ?hd (cs := #[.int .i64 a0_0, .bool a0_1]) (t := 23) ?hr ?_; (case hd => rfl); (case hg => rfl); (case hr => first | (go_simp; done) | (go_simp; rfl)); intro gb398 hg w33 hbox hb; have n0_ := Aside0.mk (below_step (by repeat (first | (with_reducible first | exact HB.out | apply below_alloc | apply pw_below_drewN | apply below_drew1) | exact HB.out)) hb); have n1_ := Aside0.mk (hbox); have n2_ := Aside0.mk ((by rw [hg]; exact (below_size (by repeat (first | (with_reducible first | exact HB.out | apply below_alloc | apply pw_below_drewN | apply below_drew1) | exact HB.out))) : w.heap.size ≤ gb398)); have n3_ := Aside0.mk ((by rw [hg]; exact (below_size (by repeat (first | (with_reducible first | exact HB.out | apply below_alloc | apply pw_below_drewN | apply below_drew1) | exact HB.out))) : w.heap.size ≤ gb398)); clear HB; have HB := n0_; have BK398 := n1_; have GW398 := n2_; have GE398 := n3_; clear n0_ n1_ n2_ n3_; clear hb hbox hg) | ((with_reducible refine gate_dst (N := 5) rfl ?_); refine box_event ?hg (N := 5) ?hd (cs := #[.int .i64 a1_0, .bool a1_1]) (t := 23) ?hr ?_; (case hd => rfl); (case hg => rfl); (case hr => first | (go_simp; done) | (go_simp; rfl)); intro gb399 hg w34 hbox hb; have n0_ := Aside0.mk (blk_below (g := gb398) (o := .cells #[.int .i64 a0_0, .bool a0_1] 23 (0, 0)) (by (with_reducible repeat (first | refine blk_drewN ?_ _ | refine blk_drew ?_ | refine blk_alloc ?_ _)); exact BK398.out) hb); have n1_ := Aside0.mk (below_step (by repeat (first | (with_reducible first | exact HB.out | apply below_alloc | apply pw_below_drewN | apply below_drew1 | refine below_set ?_ GE398.out) | exact HB.out)) hb); have n2_ := Aside0.mk (hbox); have n3_ := Aside0.mk ((by rw [hg]; exact (below_size (by repeat (first | (with_reducible first | exact HB.out | apply below_alloc | apply pw_below_drewN | apply below_drew1 | refine below_set ?_ GE398.out) | exact HB.out))) : w.heap.size ≤ gb399)); have n4_ := Aside0.mk ((by rw [hg]; exact (below_size (by repeat (first | (with_reducible first | exact HB.out | apply below_alloc | apply pw_below_drewN | apply below_drew1 | refine below_set ?_ GE398.out) | exact HB.out))) : w.heap.size ≤ gb399)); have n5_ := Aside0.mk ((by rw [hg]; exact Nat.ne_of_lt (blk_lt (g := gb398) (o := .cells #[.int .i64 a0_0, .bool a0_1] 23 (0, 0)) (by (with_reducible repeat (first | refine blk_drewN ?_ _ | refine blk_drew ?_ | refine blk_alloc ?_ _)); exact BK398.out)) : gb398 ≠ gb399)); have n6_ := Aside0.mk ((by rw [hg]; exact Nat.ne_of_gt (blk_lt (g := gb398) (o := .cells #[.int .i64 a0_0, .bool a0_1] 23 (0, 0)) (by (with_reducible repeat (first | refine blk_drewN ?_ _ | refine blk_drew ?_ | refine blk_alloc ?_ _)); exact BK398.out)) : gb399 ≠ gb398)); clear BK398; clear HB; have BK398 := n0_; have HB := n1_; have BK399 := n2_; have GW399 := n3_; have GE399 := n4_; have NB398_399 := n5_; have NB399_398 := n6_; clear n0_ n1_ n2_ n3_ n4_ n5_ n6_; clear hb hbox hg))
                    have n0_ := Aside0.mk (blk_drew BK398.out)
                    have n1_ := Aside0.mk (blk_drew BK399.out)
                    have n2_ := Aside0.mk (below_drew1 HB.out)
                    clear BK398
                    clear BK399
                    clear HB
                    have BK398 := n0_
                    have BK399 := n1_
                    have HB := n2_
                    clear n0_ n1_ n2_
                    refine start_ (n := 35) (S := fun w' => w'.cell? ⟨gb398, 0, none⟩ = some (.int .i64 a0_0) ∧ w'.cell? ⟨gb398, 1, none⟩ = some (.bool a0_1)) (ds := []) #[false, false, false, false, false, false, false, false, false, false, false, false, false, false, false, false, false, false, false, false, false, false, false, false, false, false, false, false, false, false, false, false, false, false, false] (by kernel_rfl) rfl rfl ⟨(blk_cell BK398.out 0).trans rfl, (blk_cell BK398.out 1).trans rfl⟩ (fun hHeld => ?_); refine with_tabW bagatellelaw01_FixedOps.tab1 bagatellelaw01_FixedOps.bits1 (fun HT_ HW_ => ?_)
                    generalize w34.drew = w35 at BK398 BK399 HB hHeld ⊢
                    refine pure_ (i := 0) (N := some 9) (v := ?_) (a' := ?_) #[true, false, false, false, false, false, false, false, false, false, false, false, false, false, false, false, false, false, false, false, false, false, false, false, false, false, false, false, false, false, false, false, false, false, false] rfl rfl (any_of HT_.out (by kernel_rfl)) (fun _ _ _ h => h) (Or.inl ⟨by rfl, ?_⟩) ?_ ?_
                    rotate_left
                    · intro w'
                      go_simp
                      with_reducible rfl
                    rotate_left
                    · simp only [Act.put, List.setIfInBounds_toArray, List.set_cons_zero, List.set_cons_succ, i64_w, i32_w]
                      rfl
                    refine pure_ (i := 2) (N := some 11) (v := ?_) (a' := ?_) #[true, false, true, false, false, false, false, false, false, false, false, false, false, false, false, false, false, false, false, false, false, false, false, false, false, false, false, false, false, false, false, false, false, false, false] rfl rfl (any_of HT_.out (by kernel_rfl)) (fun _ _ _ h => h) (Or.inl ⟨by rfl, ?_⟩) ?_ ?_
                    rotate_left
                    · intro w'
                      go_simp
                      with_reducible rfl
                    rotate_left
                    · simp only [Act.put, List.setIfInBounds_toArray, List.set_cons_zero, List.set_cons_succ, i64_w, i32_w]
                      rfl
                    refine one_ (i := 1) (N := some 10) #[true, true, true, false, false, false, false, false, false, false, false, false, false, false, false, false, false, false, false, false, false, false, false, false, false, false, false, false, false, false, false, false, false, false, false] rfl rfl (one_of HT_.out (by kernel_rfl)) (by decide) (fun K hK => ?_)
                    refine goes_ Try.func53 (by kernel_rfl) rfl #[.int .i64 a2] (by rfl) rfl rfl (by (try simp only [List.map_toArray, List.map_cons, List.map_nil]); first | done | rfl | (simp only [List.length_drop, List.length_take]; rfl)) ?_
                    with_reducible refine (fixed_Of.calls a2 t400 t401 _ A5.out).mono ?_
                    rintro e w36 ⟨rfl, hb⟩
                    refine ⟨_, rfl, ?_⟩
                    have n0_ := Aside0.mk (blk_below (g := gb398) (o := .cells #[.int .i64 a0_0, .bool a0_1] 23 (0, 0)) (by (with_reducible repeat (first | refine blk_drewN ?_ _ | refine blk_drew ?_ | refine blk_alloc ?_ _)); exact BK398.out) hb)
                    have n1_ := Aside0.mk (blk_below (g := gb399) (o := .cells #[.int .i64 a1_0, .bool a1_1] 23 (0, 0)) (by (with_reducible repeat (first | refine blk_drewN ?_ _ | refine blk_drew ?_ | refine blk_alloc ?_ _)); exact BK399.out) hb)
                    have n2_ := Aside0.mk (below_step (by repeat (first | (with_reducible first | exact HB.out | apply below_alloc | apply pw_below_drewN | apply below_drew1 | refine below_set ?_ GE398.out | refine below_set ?_ GE399.out) | exact HB.out)) hb)
                    clear BK398
                    clear BK399
                    clear HB
                    have BK398 := n0_
                    have BK399 := n1_
                    have HB := n2_
                    clear n0_ n1_ n2_
                    (try clear hb)
                    (try clear hb2)
                    (try clear hk)
                    (try clear hi)
                    refine hK.out _ _ ⟨(blk_cell BK398.out 0).trans rfl, (blk_cell BK398.out 1).trans rfl⟩ (fun hHeld => ?_)
                    clear hK K
                    refine norm_ (a' := ?_) ?_ ?_
                    rotate_left
                    · show Act.put _ (some 10) _ = _
                      simp only [Act.put, List.setIfInBounds_toArray, List.set_cons_zero, List.set_cons_succ, i64_w, i32_w]
                      rfl
                    refine one_ (i := 3) (N := some 12) #[true, true, true, true, false, false, false, false, false, false, false, false, false, false, false, false, false, false, false, false, false, false, false, false, false, false, false, false, false, false, false, false, false, false, false] rfl rfl (one_of HT_.out (by kernel_rfl)) (by decide) (fun K hK => ?_)
                    refine goes_ Try.func54 (by kernel_rfl) rfl #[.int .i64 a2] (by rfl) rfl rfl (by (try simp only [List.map_toArray, List.map_cons, List.map_nil]); first | done | rfl | (simp only [List.length_drop, List.length_take]; rfl)) ?_
                    with_reducible refine (bagatelleref01_Of.calls a2 t402 t403 _ A6.out).mono ?_
                    rintro e w37 ⟨rfl, hb⟩
                    refine ⟨_, rfl, ?_⟩
                    have n0_ := Aside0.mk (blk_below (g := gb398) (o := .cells #[.int .i64 a0_0, .bool a0_1] 23 (0, 0)) (by (with_reducible repeat (first | refine blk_drewN ?_ _ | refine blk_drew ?_ | refine blk_alloc ?_ _)); exact BK398.out) hb)
                    have n1_ := Aside0.mk (blk_below (g := gb399) (o := .cells #[.int .i64 a1_0, .bool a1_1] 23 (0, 0)) (by (with_reducible repeat (first | refine blk_drewN ?_ _ | refine blk_drew ?_ | refine blk_alloc ?_ _)); exact BK399.out) hb)
                    have n2_ := Aside0.mk (below_step (by repeat (first | (with_reducible first | exact HB.out | apply below_alloc | apply pw_below_drewN | apply below_drew1 | refine below_set ?_ GE398.out | refine below_set ?_ GE399.out) | exact HB.out)) hb)
                    clear BK398
                    clear BK399
                    clear HB
                    have BK398 := n0_
                    have BK399 := n1_
                    have HB := n2_
                    clear n0_ n1_ n2_
                    (try clear hb)
                    (try clear hb2)
                    (try clear hk)
                    (try clear hi)
                    refine hK.out _ _ ⟨(blk_cell BK398.out 0).trans rfl, (blk_cell BK398.out 1).trans rfl⟩ (fun hHeld => ?_)
                    clear hK K
                    refine norm_ (a' := ?_) ?_ ?_
                    rotate_left
                    · show Act.put _ (some 12) _ = _
                      simp only [Act.put, List.setIfInBounds_toArray, List.set_cons_zero, List.set_cons_succ, i64_w, i32_w]
                      rfl
                    refine pure_ (i := 4) (N := some 13) (v := ?_) (a' := ?_) #[true, true, true, true, true, false, false, false, false, false, false, false, false, false, false, false, false, false, false, false, false, false, false, false, false, false, false, false, false, false, false, false, false, false, false] rfl rfl (any_of HT_.out (by kernel_rfl)) (fun _ _ _ h => h) (Or.inl ⟨by rfl, ?_⟩) ?_ ?_
                    rotate_left
                    · intro w'
                      go_simp
                      with_reducible rfl
                    rotate_left
                    · simp only [Act.put, List.setIfInBounds_toArray, List.set_cons_zero, List.set_cons_succ, i64_w, i32_w]
                      rfl
                    refine pure_ (i := 5) (N := some 14) (v := ?_) (a' := ?_) #[true, true, true, true, true, true, false, false, false, false, false, false, false, false, false, false, false, false, false, false, false, false, false, false, false, false, false, false, false, false, false, false, false, false, false] rfl rfl (any_of HT_.out (by kernel_rfl)) (fun _ _ _ h => h) (Or.inl ⟨by rfl, ?_⟩) ?_ ?_
                    rotate_left
                    · intro w'
                      go_simp
                      with_reducible rfl
                    rotate_left
                    · simp only [Act.put, List.setIfInBounds_toArray, List.set_cons_zero, List.set_cons_succ, i64_w, i32_w]
                      rfl
                    refine pure_ (i := 6) (N := some 15) (v := ?_) (a' := ?_) #[true, true, true, true, true, true, true, false, false, false, false, false, false, false, false, false, false, false, false, false, false, false, false, false, false, false, false, false, false, false, false, false, false, false, false] rfl rfl (any_of HT_.out (by kernel_rfl)) (fun _ _ _ h => h) (Or.inl ⟨by rfl, ?_⟩) ?_ ?_
                    rotate_left
                    · intro w'
                      go_simp
                      with_reducible rfl
                    rotate_left
                    · simp only [Act.put, List.setIfInBounds_toArray, List.set_cons_zero, List.set_cons_succ, i64_w, i32_w]
                      rfl
                    refine pure_ (i := 8) (N := some 17) (v := ?_) (a' := ?_) #[true, true, true, true, true, true, true, false, true, false, false, false, false, false, false, false, false, false, false, false, false, false, false, false, false, false, false, false, false, false, false, false, false, false, false] rfl rfl (any_of HT_.out (by kernel_rfl)) (fun _ _ _ h => h) (Or.inl ⟨by rfl, ?_⟩) ?_ ?_
                    rotate_left
                    · intro w'
                      go_simp
                      with_reducible rfl
                    rotate_left
                    · simp only [Act.put, List.setIfInBounds_toArray, List.set_cons_zero, List.set_cons_succ, i64_w, i32_w]
                      rfl
                    refine one_ (i := 7) (N := some 16) #[true, true, true, true, true, true, true, true, true, false, false, false, false, false, false, false, false, false, false, false, false, false, false, false, false, false, false, false, false, false, false, false, false, false, false] rfl rfl (one_of HT_.out (by kernel_rfl)) (by decide) (fun K hK => ?_)
                    refine goes_ Try.func49 (by kernel_rfl) rfl #[.int .i64 a2] (by rfl) rfl rfl (by (try simp only [List.map_toArray, List.map_cons, List.map_nil]); first | done | rfl | (simp only [List.length_drop, List.length_take]; rfl)) ?_
                    with_reducible refine (fixed_Int.calls k a2 t404 t405 _ A8.out).mono ?_
                    rintro e w38 ⟨rfl, hb⟩
                    refine ⟨_, rfl, ?_⟩
                    have n0_ := Aside0.mk (blk_below (g := gb398) (o := .cells #[.int .i64 a0_0, .bool a0_1] 23 (0, 0)) (by (with_reducible repeat (first | refine blk_drewN ?_ _ | refine blk_drew ?_ | refine blk_alloc ?_ _)); exact BK398.out) hb)
                    have n1_ := Aside0.mk (blk_below (g := gb399) (o := .cells #[.int .i64 a1_0, .bool a1_1] 23 (0, 0)) (by (with_reducible repeat (first | refine blk_drewN ?_ _ | refine blk_drew ?_ | refine blk_alloc ?_ _)); exact BK399.out) hb)
                    have n2_ := Aside0.mk (below_step (by repeat (first | (with_reducible first | exact HB.out | apply below_alloc | apply pw_below_drewN | apply below_drew1 | refine below_set ?_ GE398.out | refine below_set ?_ GE399.out) | exact HB.out)) hb)
                    clear BK398
                    clear BK399
                    clear HB
                    have BK398 := n0_
                    have BK399 := n1_
                    have HB := n2_
                    clear n0_ n1_ n2_
                    (try clear hb)
                    (try clear hb2)
                    (try clear hk)
                    (try clear hi)
                    refine hK.out _ _ ⟨(blk_cell BK398.out 0).trans rfl, (blk_cell BK398.out 1).trans rfl⟩ (fun hHeld => ?_)
                    clear hK K
                    refine norm_ (a' := ?_) ?_ ?_
                    rotate_left
                    · show Act.put _ (some 16) _ = _
                      simp only [Act.put, List.setIfInBounds_toArray, List.set_cons_zero, List.set_cons_succ, i64_w, i32_w]
                      rfl
                    refine one_ (i := 9) (N := some 18) #[true, true, true, true, true, true, true, true, true, true, false, false, false, false, false, false, false, false, false, false, false, false, false, false, false, false, false, false, false, false, false, false, false, false, false] rfl rfl (one_of HT_.out (by kernel_rfl)) (by decide) (fun K hK => ?_)
                    refine goes_ Try.func55 (by kernel_rfl) rfl #[.int .i64 a2] (by rfl) rfl rfl (by (try simp only [List.map_toArray, List.map_cons, List.map_nil]); first | done | rfl | (simp only [List.length_drop, List.length_take]; rfl)) ?_
                    with_reducible refine (bagatelleref01_Int.calls k a2 t406 t407 _ A9.out).mono ?_
                    rintro e w39 ⟨rfl, hb⟩
                    refine ⟨_, rfl, ?_⟩
                    have n0_ := Aside0.mk (blk_below (g := gb398) (o := .cells #[.int .i64 a0_0, .bool a0_1] 23 (0, 0)) (by (with_reducible repeat (first | refine blk_drewN ?_ _ | refine blk_drew ?_ | refine blk_alloc ?_ _)); exact BK398.out) hb)
                    have n1_ := Aside0.mk (blk_below (g := gb399) (o := .cells #[.int .i64 a1_0, .bool a1_1] 23 (0, 0)) (by (with_reducible repeat (first | refine blk_drewN ?_ _ | refine blk_drew ?_ | refine blk_alloc ?_ _)); exact BK399.out) hb)
                    have n2_ := Aside0.mk (below_step (by repeat (first | (with_reducible first | exact HB.out | apply below_alloc | apply pw_below_drewN | apply below_drew1 | refine below_set ?_ GE398.out | refine below_set ?_ GE399.out) | exact HB.out)) hb)
                    clear BK398
                    clear BK399
                    clear HB
                    have BK398 := n0_
                    have BK399 := n1_
                    have HB := n2_
                    clear n0_ n1_ n2_
                    (try clear hb)
                    (try clear hb2)
                    (try clear hk)
                    (try clear hi)
                    refine hK.out _ _ ⟨(blk_cell BK398.out 0).trans rfl, (blk_cell BK398.out 1).trans rfl⟩ (fun hHeld => ?_)
                    clear hK K
                    refine norm_ (a' := ?_) ?_ ?_
                    rotate_left
                    · show Act.put _ (some 18) _ = _
                      simp only [Act.put, List.setIfInBounds_toArray, List.set_cons_zero, List.set_cons_succ, i64_w, i32_w]
                      rfl
                    refine pure_ (i := 10) (N := some 19) (v := ?_) (a' := ?_) #[true, true, true, true, true, true, true, true, true, true, true, false, false, false, false, false, false, false, false, false, false, false, false, false, false, false, false, false, false, false, false, false, false, false, false] rfl rfl (any_of HT_.out (by kernel_rfl)) (fun _ _ _ h => h) (Or.inl ⟨by rfl, ?_⟩) ?_ ?_
                    rotate_left
                    · intro w'
                      go_simp
                      with_reducible rfl
                    rotate_left
                    · simp only [Act.put, List.setIfInBounds_toArray, List.set_cons_zero, List.set_cons_succ, i64_w, i32_w]
                      rfl
                    refine pure_ (i := 11) (N := some 20) (v := ?_) (a' := ?_) #[true, true, true, true, true, true, true, true, true, true, true, true, false, false, false, false, false, false, false, false, false, false, false, false, false, false, false, false, false, false, false, false, false, false, false] rfl rfl (any_of HT_.out (by kernel_rfl)) (fun _ _ _ h => h) (Or.inl ⟨by rfl, ?_⟩) ?_ ?_
                    rotate_left
                    · intro w'
                      go_simp
                      with_reducible rfl
                    rotate_left
                    · simp only [Act.put, List.setIfInBounds_toArray, List.set_cons_zero, List.set_cons_succ, i64_w, i32_w]
                      rfl
                    refine pure_ (i := 12) (N := some 21) (v := ?_) (a' := ?_) #[true, true, true, true, true, true, true, true, true, true, true, true, true, false, false, false, false, false, false, false, false, false, false, false, false, false, false, false, false, false, false, false, false, false, false] rfl rfl (any_of HT_.out (by kernel_rfl)) (fun _ _ _ h => h) (Or.inl ⟨by rfl, ?_⟩) ?_ ?_
                    rotate_left
                    · intro w'
                      go_simp
                      with_reducible rfl
                    rotate_left
                    · simp only [Act.put, List.setIfInBounds_toArray, List.set_cons_zero, List.set_cons_succ, i64_w, i32_w]
                      rfl
                    refine pure_ (i := 13) (N := some 22) (v := ?_) (a' := ?_) #[true, true, true, true, true, true, true, true, true, true, true, true, true, true, false, false, false, false, false, false, false, false, false, false, false, false, false, false, false, false, false, false, false, false, false] rfl rfl (any_of HT_.out (by kernel_rfl)) (fun _ _ _ h => h) (Or.inl ⟨by rfl, ?_⟩) ?_ ?_
                    rotate_left
                    · intro w'
                      go_simp
                      with_reducible rfl
                    rotate_left
                    · simp only [Act.put, List.setIfInBounds_toArray, List.set_cons_zero, List.set_cons_succ, i64_w, i32_w]
                      rfl
                    refine pure_ (i := 14) (N := some 23) (v := ?_) (a' := ?_) #[true, true, true, true, true, true, true, true, true, true, true, true, true, true, true, false, false, false, false, false, false, false, false, false, false, false, false, false, false, false, false, false, false, false, false] rfl rfl (any_of HT_.out (by kernel_rfl)) (fun _ _ _ h => h) (Or.inl ⟨by rfl, ?_⟩) ?_ ?_
                    rotate_left
                    · intro w'
                      go_simp
                      with_reducible rfl
                    rotate_left
                    · simp only [Act.put, List.setIfInBounds_toArray, List.set_cons_zero, List.set_cons_succ, i64_w, i32_w]
                      rfl
                    refine pure_ (i := 16) (N := some 25) (v := ?_) (a' := ?_) #[true, true, true, true, true, true, true, true, true, true, true, true, true, true, true, false, true, false, false, false, false, false, false, false, false, false, false, false, false, false, false, false, false, false, false] rfl rfl (any_of HT_.out (by kernel_rfl)) (fun _ _ _ h => h) (Or.inl ⟨by rfl, ?_⟩) ?_ ?_
                    rotate_left
                    · intro w'
                      go_simp
                      with_reducible rfl
                    rotate_left
                    · simp only [Act.put, List.setIfInBounds_toArray, List.set_cons_zero, List.set_cons_succ, i64_w, i32_w]
                      rfl
                    refine pure_ (i := 17) (N := some 26) (v := ?_) (a' := ?_) #[true, true, true, true, true, true, true, true, true, true, true, true, true, true, true, false, true, true, false, false, false, false, false, false, false, false, false, false, false, false, false, false, false, false, false] rfl rfl (any_of HT_.out (by kernel_rfl)) (fun _ _ _ h => h) (Or.inl ⟨by rfl, ?_⟩) ?_ ?_
                    rotate_left
                    · intro w'
                      go_simp
                      with_reducible rfl
                    rotate_left
                    · simp only [Act.put, List.setIfInBounds_toArray, List.set_cons_zero, List.set_cons_succ, i64_w, i32_w]
                      rfl
                    refine one_ (i := 15) (N := some 24) #[true, true, true, true, true, true, true, true, true, true, true, true, true, true, true, true, true, true, false, false, false, false, false, false, false, false, false, false, false, false, false, false, false, false, false] rfl rfl (one_of HT_.out (by kernel_rfl)) (by decide) (fun K hK => ?_)
                    refine goes_ Try.func50 (by kernel_rfl) rfl #[.int .i64 a2, .int .i64 a3] (by rfl) rfl rfl (by (try simp only [List.map_toArray, List.map_cons, List.map_nil]); first | done | rfl | (simp only [List.length_drop, List.length_take]; rfl)) ?_
                    with_reducible refine (fixed_Ratio.calls k a2 a3 t408 t409 _ A11.out).mono ?_
                    rintro e w40 ⟨rfl, hb⟩
                    refine ⟨_, rfl, ?_⟩
                    have n0_ := Aside0.mk (blk_below (g := gb398) (o := .cells #[.int .i64 a0_0, .bool a0_1] 23 (0, 0)) (by (with_reducible repeat (first | refine blk_drewN ?_ _ | refine blk_drew ?_ | refine blk_alloc ?_ _)); exact BK398.out) hb)
                    have n1_ := Aside0.mk (blk_below (g := gb399) (o := .cells #[.int .i64 a1_0, .bool a1_1] 23 (0, 0)) (by (with_reducible repeat (first | refine blk_drewN ?_ _ | refine blk_drew ?_ | refine blk_alloc ?_ _)); exact BK399.out) hb)
                    have n2_ := Aside0.mk (below_step (by repeat (first | (with_reducible first | exact HB.out | apply below_alloc | apply pw_below_drewN | apply below_drew1 | refine below_set ?_ GE398.out | refine below_set ?_ GE399.out) | exact HB.out)) hb)
                    clear BK398
                    clear BK399
                    clear HB
                    have BK398 := n0_
                    have BK399 := n1_
                    have HB := n2_
                    clear n0_ n1_ n2_
                    (try clear hb)
                    (try clear hb2)
                    (try clear hk)
                    (try clear hi)
                    refine hK.out _ _ ⟨(blk_cell BK398.out 0).trans rfl, (blk_cell BK398.out 1).trans rfl⟩ (fun hHeld => ?_)
                    clear hK K
                    refine norm_ (a' := ?_) ?_ ?_
                    rotate_left
                    · show Act.put _ (some 24) _ = _
                      simp only [Act.put, List.setIfInBounds_toArray, List.set_cons_zero, List.set_cons_succ, i64_w, i32_w]
                      rfl
                    refine one_ (i := 18) (N := some 27) #[true, true, true, true, true, true, true, true, true, true, true, true, true, true, true, true, true, true, true, false, false, false, false, false, false, false, false, false, false, false, false, false, false, false, false] rfl rfl (one_of HT_.out (by kernel_rfl)) (by decide) (fun K hK => ?_)
                    refine goes_ Try.func56 (by kernel_rfl) rfl #[.int .i64 a2, .int .i64 a3] (by rfl) rfl rfl (by (try simp only [List.map_toArray, List.map_cons, List.map_nil]); first | done | rfl | (simp only [List.length_drop, List.length_take]; rfl)) ?_
                    with_reducible refine (bagatelleref01_Ratio.calls k a2 a3 t410 t411 _ A12.out).mono ?_
                    rintro e w41 ⟨rfl, hb⟩
                    refine ⟨_, rfl, ?_⟩
                    have n0_ := Aside0.mk (blk_below (g := gb398) (o := .cells #[.int .i64 a0_0, .bool a0_1] 23 (0, 0)) (by (with_reducible repeat (first | refine blk_drewN ?_ _ | refine blk_drew ?_ | refine blk_alloc ?_ _)); exact BK398.out) hb)
                    have n1_ := Aside0.mk (blk_below (g := gb399) (o := .cells #[.int .i64 a1_0, .bool a1_1] 23 (0, 0)) (by (with_reducible repeat (first | refine blk_drewN ?_ _ | refine blk_drew ?_ | refine blk_alloc ?_ _)); exact BK399.out) hb)
                    have n2_ := Aside0.mk (below_step (by repeat (first | (with_reducible first | exact HB.out | apply below_alloc | apply pw_below_drewN | apply below_drew1 | refine below_set ?_ GE398.out | refine below_set ?_ GE399.out) | exact HB.out)) hb)
                    clear BK398
                    clear BK399
                    clear HB
                    have BK398 := n0_
                    have BK399 := n1_
                    have HB := n2_
                    clear n0_ n1_ n2_
                    (try clear hb)
                    (try clear hb2)
                    (try clear hk)
                    (try clear hi)
                    refine hK.out _ _ ⟨(blk_cell BK398.out 0).trans rfl, (blk_cell BK398.out 1).trans rfl⟩ (fun hHeld => ?_)
                    clear hK K
                    refine norm_ (a' := ?_) ?_ ?_
                    rotate_left
                    · show Act.put _ (some 27) _ = _
                      simp only [Act.put, List.setIfInBounds_toArray, List.set_cons_zero, List.set_cons_succ, i64_w, i32_w]
                      rfl
                    refine pure_ (i := 19) (N := some 28) (v := ?_) (a' := ?_) #[true, true, true, true, true, true, true, true, true, true, true, true, true, true, true, true, true, true, true, true, false, false, false, false, false, false, false, false, false, false, false, false, false, false, false] rfl rfl (any_of HT_.out (by kernel_rfl)) (fun _ _ _ h => h) (Or.inl ⟨by rfl, ?_⟩) ?_ ?_
                    rotate_left
                    · intro w'
                      go_simp
                      with_reducible rfl
                    rotate_left
                    · simp only [Act.put, List.setIfInBounds_toArray, List.set_cons_zero, List.set_cons_succ, i64_w, i32_w]
                      rfl
                    refine pure_ (i := 20) (N := some 29) (v := ?_) (a' := ?_) #[true, true, true, true, true, true, true, true, true, true, true, true, true, true, true, true, true, true, true, true, true, false, false, false, false, false, false, false, false, false, false, false, false, false, false] rfl rfl (any_of HT_.out (by kernel_rfl)) (fun _ _ _ h => h) (Or.inl ⟨by rfl, ?_⟩) ?_ ?_
                    rotate_left
                    · intro w'
                      go_simp
                      with_reducible rfl
                    rotate_left
                    · simp only [Act.put, List.setIfInBounds_toArray, List.set_cons_zero, List.set_cons_succ, i64_w, i32_w]
                      rfl
                    refine pure_ (i := 21) (N := some 30) (v := ?_) (a' := ?_) #[true, true, true, true, true, true, true, true, true, true, true, true, true, true, true, true, true, true, true, true, true, true, false, false, false, false, false, false, false, false, false, false, false, false, false] rfl rfl (any_of HT_.out (by kernel_rfl)) (fun _ _ _ h => h) (Or.inl ⟨by rfl, ?_⟩) ?_ ?_
                    rotate_left
                    · intro w'
                      go_simp
                      with_reducible rfl
                    rotate_left
                    · simp only [Act.put, List.setIfInBounds_toArray, List.set_cons_zero, List.set_cons_succ, i64_w, i32_w]
                      rfl
                    refine take_ (i := 22) (N := some 31) (v := ?_) (a' := ?_) #[true, true, true, true, true, true, true, true, true, true, true, true, true, true, true, true, true, true, true, true, true, true, true, false, false, false, false, false, false, false, false, false, false, false, false] rfl rfl (take_ofW HT_.out HW_.out (by kernel_rfl)) (fun _ _ _ h => h) (Or.inl ⟨by rfl, ?_⟩) hHeld ?_ ?_
                    rotate_left
                    · rintro w' ⟨s0, s1⟩
                      go_simp
                      with_reducible rfl
                    rotate_left
                    · simp only [Act.put, List.setIfInBounds_toArray, List.set_cons_zero, List.set_cons_succ, i64_w, i32_w]
                      rfl
                    refine take_ (i := 24) (N := some 33) (v := ?_) (a' := ?_) #[true, true, true, true, true, true, true, true, true, true, true, true, true, true, true, true, true, true, true, true, true, true, true, false, true, false, false, false, false, false, false, false, false, false, false] rfl rfl (take_ofW HT_.out HW_.out (by kernel_rfl)) (fun _ _ _ h => h) (Or.inl ⟨by rfl, ?_⟩) hHeld ?_ ?_
                    rotate_left
                    · rintro w' ⟨s0, s1⟩
                      go_simp
                      with_reducible rfl
                    rotate_left
                    · simp only [Act.put, List.setIfInBounds_toArray, List.set_cons_zero, List.set_cons_succ, i64_w, i32_w]
                      rfl
                    refine one_ (i := 23) (N := some 32) #[true, true, true, true, true, true, true, true, true, true, true, true, true, true, true, true, true, true, true, true, true, true, true, true, true, false, false, false, false, false, false, false, false, false, false] rfl rfl (one_of HT_.out (by kernel_rfl)) (by decide) (fun K hK => ?_)
                    refine goes_ Try.func41 (by kernel_rfl) rfl #[.agg #[.int .i64 a0_0, .bool a0_1]] (by rfl) rfl rfl (by (try simp only [List.map_toArray, List.map_cons, List.map_nil]); first | done | rfl | (simp only [List.length_drop, List.length_take]; rfl)) ?_
                    with_reducible refine (fixed_Neg.calls a0_0 a0_1 t412 t413 _ A14.out).mono ?_
                    rintro e w42 ⟨rfl, hb⟩
                    refine ⟨_, rfl, ?_⟩
                    have n0_ := Aside0.mk (blk_below (g := gb398) (o := .cells #[.int .i64 a0_0, .bool a0_1] 23 (0, 0)) (by (with_reducible repeat (first | refine blk_drewN ?_ _ | refine blk_drew ?_ | refine blk_alloc ?_ _)); exact BK398.out) hb)
                    have n1_ := Aside0.mk (blk_below (g := gb399) (o := .cells #[.int .i64 a1_0, .bool a1_1] 23 (0, 0)) (by (with_reducible repeat (first | refine blk_drewN ?_ _ | refine blk_drew ?_ | refine blk_alloc ?_ _)); exact BK399.out) hb)
                    have n2_ := Aside0.mk (below_step (by repeat (first | (with_reducible first | exact HB.out | apply below_alloc | apply pw_below_drewN | apply below_drew1 | refine below_set ?_ GE398.out | refine below_set ?_ GE399.out) | exact HB.out)) hb)
                    clear BK398
                    clear BK399
                    clear HB
                    have BK398 := n0_
                    have BK399 := n1_
                    have HB := n2_
                    clear n0_ n1_ n2_
                    (try clear hb)
                    (try clear hb2)
                    (try clear hk)
                    (try clear hi)
                    refine hK.out _ _ ⟨(blk_cell BK398.out 0).trans rfl, (blk_cell BK398.out 1).trans rfl⟩ (fun hHeld => ?_)
                    clear hK K
                    refine norm_ (a' := ?_) ?_ ?_
                    rotate_left
                    · show Act.put _ (some 32) _ = _
                      simp only [Act.put, List.setIfInBounds_toArray, List.set_cons_zero, List.set_cons_succ, i64_w, i32_w]
                      rfl
                    refine one_ (i := 25) (N := some 34) #[true, true, true, true, true, true, true, true, true, true, true, true, true, true, true, true, true, true, true, true, true, true, true, true, true, true, false, false, false, false, false, false, false, false, false] rfl rfl (one_of HT_.out (by kernel_rfl)) (by decide) (fun K hK => ?_)
                    refine goes_ Try.func57 (by kernel_rfl) rfl #[.agg #[.int .i64 a0_0, .bool a0_1]] (by rfl) rfl rfl (by (try simp only [List.map_toArray, List.map_cons, List.map_nil]); first | done | rfl | (simp only [List.length_drop, List.length_take]; rfl)) ?_
                    with_reducible refine (bagatelleref01_Neg.calls a0_0 a0_1 t414 t415 _ A15.out).mono ?_
                    rintro e w43 ⟨rfl, hb⟩
                    refine ⟨_, rfl, ?_⟩
                    have n0_ := Aside0.mk (blk_below (g := gb398) (o := .cells #[.int .i64 a0_0, .bool a0_1] 23 (0, 0)) (by (with_reducible repeat (first | refine blk_drewN ?_ _ | refine blk_drew ?_ | refine blk_alloc ?_ _)); exact BK398.out) hb)
                    have n1_ := Aside0.mk (blk_below (g := gb399) (o := .cells #[.int .i64 a1_0, .bool a1_1] 23 (0, 0)) (by (with_reducible repeat (first | refine blk_drewN ?_ _ | refine blk_drew ?_ | refine blk_alloc ?_ _)); exact BK399.out) hb)
                    have n2_ := Aside0.mk (below_step (by repeat (first | (with_reducible first | exact HB.out | apply below_alloc | apply pw_below_drewN | apply below_drew1 | refine below_set ?_ GE398.out | refine below_set ?_ GE399.out) | exact HB.out)) hb)
                    clear BK398
                    clear BK399
                    clear HB
                    have BK398 := n0_
                    have BK399 := n1_
                    have HB := n2_
                    clear n0_ n1_ n2_
                    (try clear hb)
                    (try clear hb2)
                    (try clear hk)
                    (try clear hi)
                    refine hK.out _ _ ⟨(blk_cell BK398.out 0).trans rfl, (blk_cell BK398.out 1).trans rfl⟩ (fun hHeld => ?_)
                    clear hK K
                    refine norm_ (a' := ?_) ?_ ?_
                    rotate_left
                    · show Act.put _ (some 34) _ = _
                      simp only [Act.put, List.setIfInBounds_toArray, List.set_cons_zero, List.set_cons_succ, i64_w, i32_w]
                      rfl
                    refine pure_ (i := 26) (N := some 35) (v := ?_) (a' := ?_) #[true, true, true, true, true, true, true, true, true, true, true, true, true, true, true, true, true, true, true, true, true, true, true, true, true, true, true, false, false, false, false, false, false, false, false] rfl rfl (any_of HT_.out (by kernel_rfl)) (fun _ _ _ h => h) (Or.inl ⟨by rfl, ?_⟩) ?_ ?_
                    rotate_left
                    · intro w'
                      go_simp
                      with_reducible rfl
                    rotate_left
                    · simp only [Act.put, List.setIfInBounds_toArray, List.set_cons_zero, List.set_cons_succ, i64_w, i32_w]
                      rfl
                    refine pure_ (i := 27) (N := some 36) (v := ?_) (a' := ?_) #[true, true, true, true, true, true, true, true, true, true, true, true, true, true, true, true, true, true, true, true, true, true, true, true, true, true, true, true, false, false, false, false, false, false, false] rfl rfl (any_of HT_.out (by kernel_rfl)) (fun _ _ _ h => h) (Or.inl ⟨by rfl, ?_⟩) ?_ ?_
                    rotate_left
                    · intro w'
                      go_simp
                      with_reducible rfl
                    rotate_left
                    · simp only [Act.put, List.setIfInBounds_toArray, List.set_cons_zero, List.set_cons_succ, i64_w, i32_w]
                      rfl
                    refine pure_ (i := 28) (N := some 37) (v := ?_) (a' := ?_) #[true, true, true, true, true, true, true, true, true, true, true, true, true, true, true, true, true, true, true, true, true, true, true, true, true, true, true, true, true, false, false, false, false, false, false] rfl rfl (any_of HT_.out (by kernel_rfl)) (fun _ _ _ h => h) (Or.inl ⟨by rfl, ?_⟩) ?_ ?_
                    rotate_left
                    · intro w'
                      go_simp
                      with_reducible rfl
                    rotate_left
                    · simp only [Act.put, List.setIfInBounds_toArray, List.set_cons_zero, List.set_cons_succ, i64_w, i32_w]
                      rfl
                    refine take_ (i := 29) (N := some 38) (v := ?_) (a' := ?_) #[true, true, true, true, true, true, true, true, true, true, true, true, true, true, true, true, true, true, true, true, true, true, true, true, true, true, true, true, true, true, false, false, false, false, false] rfl rfl (take_ofW HT_.out HW_.out (by kernel_rfl)) (fun _ _ _ h => h) (Or.inl ⟨by rfl, ?_⟩) hHeld ?_ ?_
                    rotate_left
                    · rintro w' ⟨s0, s1⟩
                      go_simp
                      with_reducible rfl
                    rotate_left
                    · simp only [Act.put, List.setIfInBounds_toArray, List.set_cons_zero, List.set_cons_succ, i64_w, i32_w]
                      rfl
                    refine take_ (i := 31) (N := some 40) (v := ?_) (a' := ?_) #[true, true, true, true, true, true, true, true, true, true, true, true, true, true, true, true, true, true, true, true, true, true, true, true, true, true, true, true, true, true, false, true, false, false, false] rfl rfl (take_ofW HT_.out HW_.out (by kernel_rfl)) (fun _ _ _ h => h) (Or.inl ⟨by rfl, ?_⟩) hHeld ?_ ?_
                    rotate_left
                    · rintro w' ⟨s0, s1⟩
                      go_simp
                      with_reducible rfl
                    rotate_left
                    · simp only [Act.put, List.setIfInBounds_toArray, List.set_cons_zero, List.set_cons_succ, i64_w, i32_w]
                      rfl
                    refine one_ (i := 30) (N := some 39) #[true, true, true, true, true, true, true, true, true, true, true, true, true, true, true, true, true, true, true, true, true, true, true, true, true, true, true, true, true, true, true, true, false, false, false] rfl rfl (one_of HT_.out (by kernel_rfl)) (by decide) (fun K hK => ?_)
                    refine goes_ Try.func26 (by kernel_rfl) rfl #[.agg #[.int .i64 a0_0, .bool a0_1]] (by rfl) rfl rfl (by (try simp only [List.map_toArray, List.map_cons, List.map_nil]); first | done | rfl | (simp only [List.length_drop, List.length_take]; rfl)) ?_
                    with_reducible refine (fixed_Abs.calls a0_0 a0_1 t416 t417 _ A17.out).mono ?_
                    rintro e w44 ⟨rfl, hb⟩
                    refine ⟨_, rfl, ?_⟩
                    have n0_ := Aside0.mk (blk_below (g := gb398) (o := .cells #[.int .i64 a0_0, .bool a0_1] 23 (0, 0)) (by (with_reducible repeat (first | refine blk_drewN ?_ _ | refine blk_drew ?_ | refine blk_alloc ?_ _)); exact BK398.out) hb)
                    have n1_ := Aside0.mk (blk_below (g := gb399) (o := .cells #[.int .i64 a1_0, .bool a1_1] 23 (0, 0)) (by (with_reducible repeat (first | refine blk_drewN ?_ _ | refine blk_drew ?_ | refine blk_alloc ?_ _)); exact BK399.out) hb)
                    have n2_ := Aside0.mk (below_step (by repeat (first | (with_reducible first | exact HB.out | apply below_alloc | apply pw_below_drewN | apply below_drew1 | refine below_set ?_ GE398.out | refine below_set ?_ GE399.out) | exact HB.out)) hb)
                    clear BK398
                    clear BK399
                    clear HB
                    have BK398 := n0_
                    have BK399 := n1_
                    have HB := n2_
                    clear n0_ n1_ n2_
                    (try clear hb)
                    (try clear hb2)
                    (try clear hk)
                    (try clear hi)
                    refine hK.out _ _ ⟨(blk_cell BK398.out 0).trans rfl, (blk_cell BK398.out 1).trans rfl⟩ (fun hHeld => ?_)
                    clear hK K
                    refine norm_ (a' := ?_) ?_ ?_
                    rotate_left
                    · show Act.put _ (some 39) _ = _
                      simp only [Act.put, List.setIfInBounds_toArray, List.set_cons_zero, List.set_cons_succ, i64_w, i32_w]
                      rfl
                    refine one_ (i := 32) (N := some 41) #[true, true, true, true, true, true, true, true, true, true, true, true, true, true, true, true, true, true, true, true, true, true, true, true, true, true, true, true, true, true, true, true, true, false, false] rfl rfl (one_of HT_.out (by kernel_rfl)) (by decide) (fun K hK => ?_)
                    refine goes_ Try.func58 (by kernel_rfl) rfl #[.agg #[.int .i64 a0_0, .bool a0_1]] (by rfl) rfl rfl (by (try simp only [List.map_toArray, List.map_cons, List.map_nil]); first | done | rfl | (simp only [List.length_drop, List.length_take]; rfl)) ?_
                    with_reducible refine (bagatelleref01_Abs.calls a0_0 a0_1 t418 t419 _ A18.out).mono ?_
                    rintro e w45 ⟨rfl, hb⟩
                    refine ⟨_, rfl, ?_⟩
                    have n0_ := Aside0.mk (blk_below (g := gb398) (o := .cells #[.int .i64 a0_0, .bool a0_1] 23 (0, 0)) (by (with_reducible repeat (first | refine blk_drewN ?_ _ | refine blk_drew ?_ | refine blk_alloc ?_ _)); exact BK398.out) hb)
                    have n1_ := Aside0.mk (blk_below (g := gb399) (o := .cells #[.int .i64 a1_0, .bool a1_1] 23 (0, 0)) (by (with_reducible repeat (first | refine blk_drewN ?_ _ | refine blk_drew ?_ | refine blk_alloc ?_ _)); exact BK399.out) hb)
                    have n2_ := Aside0.mk (below_step (by repeat (first | (with_reducible first | exact HB.out | apply below_alloc | apply pw_below_drewN | apply below_drew1 | refine below_set ?_ GE398.out | refine below_set ?_ GE399.out) | exact HB.out)) hb)
                    clear BK398
                    clear BK399
                    clear HB
                    have BK398 := n0_
                    have BK399 := n1_
                    have HB := n2_
                    clear n0_ n1_ n2_
                    (try clear hb)
                    (try clear hb2)
                    (try clear hk)
                    (try clear hi)
                    refine hK.out _ _ ⟨(blk_cell BK398.out 0).trans rfl, (blk_cell BK398.out 1).trans rfl⟩ (fun hHeld => ?_)
                    clear hK K
                    refine norm_ (a' := ?_) ?_ ?_
                    rotate_left
                    · show Act.put _ (some 41) _ = _
                      simp only [Act.put, List.setIfInBounds_toArray, List.set_cons_zero, List.set_cons_succ, i64_w, i32_w]
                      rfl
                    refine pure_ (i := 33) (N := some 42) (v := ?_) (a' := ?_) #[true, true, true, true, true, true, true, true, true, true, true, true, true, true, true, true, true, true, true, true, true, true, true, true, true, true, true, true, true, true, true, true, true, true, false] rfl rfl (any_of HT_.out (by kernel_rfl)) (fun _ _ _ h => h) (Or.inl ⟨by rfl, ?_⟩) ?_ ?_
                    rotate_left
                    · intro w'
                      go_simp
                      with_reducible rfl
                    rotate_left
                    · simp only [Act.put, List.setIfInBounds_toArray, List.set_cons_zero, List.set_cons_succ, i64_w, i32_w]
                      rfl
                    refine pure_ (i := 34) (N := some 43) (v := ?_) (a' := ?_) #[true, true, true, true, true, true, true, true, true, true, true, true, true, true, true, true, true, true, true, true, true, true, true, true, true, true, true, true, true, true, true, true, true, true, true] rfl rfl (any_of HT_.out (by kernel_rfl)) (fun _ _ _ h => h) (Or.inl ⟨by rfl, ?_⟩) ?_ ?_
                    rotate_left
                    · intro w'
                      go_simp
                      with_reducible rfl
                    rotate_left
                    · simp only [Act.put, List.setIfInBounds_toArray, List.set_cons_zero, List.set_cons_succ, i64_w, i32_w]
                      rfl
                    refine done_ (done_of HT_.out (by kernel_rfl)) ?_
                    try go_wp2
                    have n0_ := Aside0.mk (blk_drew BK398.out)
                    have n1_ := Aside0.mk (blk_drew BK399.out)
                    have n2_ := Aside0.mk (below_drew1 HB.out)
                    clear BK398
                    clear BK399
                    clear HB
                    have BK398 := n0_
                    have BK399 := n1_
                    have HB := n2_
                    clear n0_ n1_ n2_
                    refine start_ (n := 38) (S := fun w' => w'.cell? ⟨gb398, 0, none⟩ = some (.int .i64 a0_0) ∧ w'.cell? ⟨gb398, 1, none⟩ = some (.bool a0_1) ∧ w'.cell? ⟨gb399, 0, none⟩ = some (.int .i64 a1_0) ∧ w'.cell? ⟨gb399, 1, none⟩ = some (.bool a1_1)) (ds := []) #[false, false, false, false, false, false, false, false, false, false, false, false, false, false, false, false, false, false, false, false, false, false, false, false, false, false, false, false, false, false, false, false, false, false, false, false, false, false] (by kernel_rfl) rfl rfl ⟨(blk_cell BK398.out 0).trans rfl, (blk_cell BK398.out 1).trans rfl, (blk_cell BK399.out 0).trans rfl, (blk_cell BK399.out 1).trans rfl⟩ (fun hHeld => ?_); refine with_tabW bagatellelaw01_FixedOps.tab3 bagatellelaw01_FixedOps.bits3 (fun HT_ HW_ => ?_)
                    generalize w45.drew = w46 at BK398 BK399 HB hHeld ⊢
                    refine take_ (i := 0) (N := some 44) (v := ?_) (a' := ?_) #[true, false, false, false, false, false, false, false, false, false, false, false, false, false, false, false, false, false, false, false, false, false, false, false, false, false, false, false, false, false, false, false, false, false, false, false, false, false] rfl rfl (take_ofW HT_.out HW_.out (by kernel_rfl)) (fun _ _ _ h => h) (Or.inl ⟨by rfl, ?_⟩) hHeld ?_ ?_
                    rotate_left
                    · rintro w' ⟨s0, s1, s2, s3⟩
                      go_simp
                      with_reducible rfl
                    rotate_left
                    · simp only [Act.put, List.setIfInBounds_toArray, List.set_cons_zero, List.set_cons_succ, i64_w, i32_w]
                      rfl
                    refine take_ (i := 1) (N := some 45) (v := ?_) (a' := ?_) #[true, true, false, false, false, false, false, false, false, false, false, false, false, false, false, false, false, false, false, false, false, false, false, false, false, false, false, false, false, false, false, false, false, false, false, false, false, false] rfl rfl (take_ofW HT_.out HW_.out (by kernel_rfl)) (fun _ _ _ h => h) (Or.inl ⟨by rfl, ?_⟩) hHeld ?_ ?_
                    rotate_left
                    · rintro w' ⟨s0, s1, s2, s3⟩
                      go_simp
                      with_reducible rfl
                    rotate_left
                    · simp only [Act.put, List.setIfInBounds_toArray, List.set_cons_zero, List.set_cons_succ, i64_w, i32_w]
                      rfl
                    refine take_ (i := 3) (N := some 47) (v := ?_) (a' := ?_) #[true, true, false, true, false, false, false, false, false, false, false, false, false, false, false, false, false, false, false, false, false, false, false, false, false, false, false, false, false, false, false, false, false, false, false, false, false, false] rfl rfl (take_ofW HT_.out HW_.out (by kernel_rfl)) (fun _ _ _ h => h) (Or.inl ⟨by rfl, ?_⟩) hHeld ?_ ?_
                    rotate_left
                    · rintro w' ⟨s0, s1, s2, s3⟩
                      go_simp
                      with_reducible rfl
                    rotate_left
                    · simp only [Act.put, List.setIfInBounds_toArray, List.set_cons_zero, List.set_cons_succ, i64_w, i32_w]
                      rfl
                    refine take_ (i := 4) (N := some 48) (v := ?_) (a' := ?_) #[true, true, false, true, true, false, false, false, false, false, false, false, false, false, false, false, false, false, false, false, false, false, false, false, false, false, false, false, false, false, false, false, false, false, false, false, false, false] rfl rfl (take_ofW HT_.out HW_.out (by kernel_rfl)) (fun _ _ _ h => h) (Or.inl ⟨by rfl, ?_⟩) hHeld ?_ ?_
                    rotate_left
                    · rintro w' ⟨s0, s1, s2, s3⟩
                      go_simp
                      with_reducible rfl
                    rotate_left
                    · simp only [Act.put, List.setIfInBounds_toArray, List.set_cons_zero, List.set_cons_succ, i64_w, i32_w]
                      rfl
                    refine one_ (i := 2) (N := some 46) #[true, true, true, true, true, false, false, false, false, false, false, false, false, false, false, false, false, false, false, false, false, false, false, false, false, false, false, false, false, false, false, false, false, false, false, false, false, false] rfl rfl (one_of HT_.out (by kernel_rfl)) (by decide) (fun K hK => ?_)
                    refine goes_ Try.func25 (by kernel_rfl) rfl #[.agg #[.int .i64 a0_0, .bool a0_1], .agg #[.int .i64 a1_0, .bool a1_1]] (by rfl) rfl rfl (by (try simp only [List.map_toArray, List.map_cons, List.map_nil]); first | done | rfl | (simp only [List.length_drop, List.length_take]; rfl)) ?_
                    with_reducible refine (fixed_Add.calls k a0_0 a0_1 a1_0 a1_1 t420 t421 _ A20.out).mono ?_
                    rintro e w47 ⟨rfl, hb⟩
                    refine ⟨_, rfl, ?_⟩
                    have n0_ := Aside0.mk (blk_below (g := gb398) (o := .cells #[.int .i64 a0_0, .bool a0_1] 23 (0, 0)) (by (with_reducible repeat (first | refine blk_drewN ?_ _ | refine blk_drew ?_ | refine blk_alloc ?_ _)); exact BK398.out) hb)
                    have n1_ := Aside0.mk (blk_below (g := gb399) (o := .cells #[.int .i64 a1_0, .bool a1_1] 23 (0, 0)) (by (with_reducible repeat (first | refine blk_drewN ?_ _ | refine blk_drew ?_ | refine blk_alloc ?_ _)); exact BK399.out) hb)
                    have n2_ := Aside0.mk (below_step (by repeat (first | (with_reducible first | exact HB.out | apply below_alloc | apply pw_below_drewN | apply below_drew1 | refine below_set ?_ GE398.out | refine below_set ?_ GE399.out) | exact HB.out)) hb)
                    clear BK398
                    clear BK399
                    clear HB
                    have BK398 := n0_
                    have BK399 := n1_
                    have HB := n2_
                    clear n0_ n1_ n2_
                    (try clear hb)
                    (try clear hb2)
                    (try clear hk)
                    (try clear hi)
                    refine hK.out _ _ ⟨(blk_cell BK398.out 0).trans rfl, (blk_cell BK398.out 1).trans rfl, (blk_cell BK399.out 0).trans rfl, (blk_cell BK399.out 1).trans rfl⟩ (fun hHeld => ?_)
                    clear hK K
                    refine norm_ (a' := ?_) ?_ ?_
                    rotate_left
                    · show Act.put _ (some 46) _ = _
                      simp only [Act.put, List.setIfInBounds_toArray, List.set_cons_zero, List.set_cons_succ, i64_w, i32_w]
                      rfl
                    refine one_ (i := 5) (N := some 49) #[true, true, true, true, true, true, false, false, false, false, false, false, false, false, false, false, false, false, false, false, false, false, false, false, false, false, false, false, false, false, false, false, false, false, false, false, false, false] rfl rfl (one_of HT_.out (by kernel_rfl)) (by decide) (fun K hK => ?_)
                    refine goes_ Try.func59 (by kernel_rfl) rfl #[.agg #[.int .i64 a0_0, .bool a0_1], .agg #[.int .i64 a1_0, .bool a1_1]] (by rfl) rfl rfl (by (try simp only [List.map_toArray, List.map_cons, List.map_nil]); first | done | rfl | (simp only [List.length_drop, List.length_take]; rfl)) ?_
                    with_reducible refine (bagatelleref01_Add.calls k a0_0 a0_1 a1_0 a1_1 t422 t423 _ A21.out).mono ?_
                    rintro e w48 ⟨rfl, hb⟩
                    refine ⟨_, rfl, ?_⟩
                    have n0_ := Aside0.mk (blk_below (g := gb398) (o := .cells #[.int .i64 a0_0, .bool a0_1] 23 (0, 0)) (by (with_reducible repeat (first | refine blk_drewN ?_ _ | refine blk_drew ?_ | refine blk_alloc ?_ _)); exact BK398.out) hb)
                    have n1_ := Aside0.mk (blk_below (g := gb399) (o := .cells #[.int .i64 a1_0, .bool a1_1] 23 (0, 0)) (by (with_reducible repeat (first | refine blk_drewN ?_ _ | refine blk_drew ?_ | refine blk_alloc ?_ _)); exact BK399.out) hb)
                    have n2_ := Aside0.mk (below_step (by repeat (first | (with_reducible first | exact HB.out | apply below_alloc | apply pw_below_drewN | apply below_drew1 | refine below_set ?_ GE398.out | refine below_set ?_ GE399.out) | exact HB.out)) hb)
                    clear BK398
                    clear BK399
                    clear HB
                    have BK398 := n0_
                    have BK399 := n1_
                    have HB := n2_
                    clear n0_ n1_ n2_
                    (try clear hb)
                    (try clear hb2)
                    (try clear hk)
                    (try clear hi)
                    refine hK.out _ _ ⟨(blk_cell BK398.out 0).trans rfl, (blk_cell BK398.out 1).trans rfl, (blk_cell BK399.out 0).trans rfl, (blk_cell BK399.out 1).trans rfl⟩ (fun hHeld => ?_)
                    clear hK K
                    refine norm_ (a' := ?_) ?_ ?_
                    rotate_left
                    · show Act.put _ (some 49) _ = _
                      simp only [Act.put, List.setIfInBounds_toArray, List.set_cons_zero, List.set_cons_succ, i64_w, i32_w]
                      rfl
                    refine pure_ (i := 6) (N := some 50) (v := ?_) (a' := ?_) #[true, true, true, true, true, true, true, false, false, false, false, false, false, false, false, false, false, false, false, false, false, false, false, false, false, false, false, false, false, false, false, false, false, false, false, false, false, false] rfl rfl (any_of HT_.out (by kernel_rfl)) (fun _ _ _ h => h) (Or.inl ⟨by rfl, ?_⟩) ?_ ?_
                    rotate_left
                    · intro w'
                      go_simp
                      with_reducible rfl
                    rotate_left
                    · simp only [Act.put, List.setIfInBounds_toArray, List.set_cons_zero, List.set_cons_succ, i64_w, i32_w]
                      rfl
                    refine pure_ (i := 7) (N := some 51) (v := ?_) (a' := ?_) #[true, true, true, true, true, true, true, true, false, false, false, false, false, false, false, false, false, false, false, false, false, false, false, false, false, false, false, false, false, false, false, false, false, false, false, false, false, false] rfl rfl (any_of HT_.out (by kernel_rfl)) (fun _ _ _ h => h) (Or.inl ⟨by rfl, ?_⟩) ?_ ?_
                    rotate_left
                    · intro w'
                      go_simp
                      with_reducible rfl
                    rotate_left
                    · simp only [Act.put, List.setIfInBounds_toArray, List.set_cons_zero, List.set_cons_succ, i64_w, i32_w]
                      rfl
                    refine take_ (i := 8) (N := some 52) (v := ?_) (a' := ?_) #[true, true, true, true, true, true, true, true, true, false, false, false, false, false, false, false, false, false, false, false, false, false, false, false, false, false, false, false, false, false, false, false, false, false, false, false, false, false] rfl rfl (take_ofW HT_.out HW_.out (by kernel_rfl)) (fun _ _ _ h => h) (Or.inl ⟨by rfl, ?_⟩) hHeld ?_ ?_
                    rotate_left
                    · rintro w' ⟨s0, s1, s2, s3⟩
                      go_simp
                      with_reducible rfl
                    rotate_left
                    · simp only [Act.put, List.setIfInBounds_toArray, List.set_cons_zero, List.set_cons_succ, i64_w, i32_w]
                      rfl
                    refine take_ (i := 9) (N := some 53) (v := ?_) (a' := ?_) #[true, true, true, true, true, true, true, true, true, true, false, false, false, false, false, false, false, false, false, false, false, false, false, false, false, false, false, false, false, false, false, false, false, false, false, false, false, false] rfl rfl (take_ofW HT_.out HW_.out (by kernel_rfl)) (fun _ _ _ h => h) (Or.inl ⟨by rfl, ?_⟩) hHeld ?_ ?_
                    rotate_left
                    · rintro w' ⟨s0, s1, s2, s3⟩
                      go_simp
                      with_reducible rfl
                    rotate_left
                    · simp only [Act.put, List.setIfInBounds_toArray, List.set_cons_zero, List.set_cons_succ, i64_w, i32_w]
                      rfl
                    refine take_ (i := 11) (N := some 55) (v := ?_) (a' := ?_) #[true, true, true, true, true, true, true, true, true, true, false, true, false, false, false, false, false, false, false, false, false, false, false, false, false, false, false, false, false, false, false, false, false, false, false, false, false, false] rfl rfl (take_ofW HT_.out HW_.out (by kernel_rfl)) (fun _ _ _ h => h) (Or.inl ⟨by rfl, ?_⟩) hHeld ?_ ?_
                    rotate_left
                    · rintro w' ⟨s0, s1, s2, s3⟩
                      go_simp
                      with_reducible rfl
                    rotate_left
                    · simp only [Act.put, List.setIfInBounds_toArray, List.set_cons_zero, List.set_cons_succ, i64_w, i32_w]
                      rfl
                    refine take_ (i := 12) (N := some 56) (v := ?_) (a' := ?_) #[true, true, true, true, true, true, true, true, true, true, false, true, true, false, false, false, false, false, false, false, false, false, false, false, false, false, false, false, false, false, false, false, false, false, false, false, false, false] rfl rfl (take_ofW HT_.out HW_.out (by kernel_rfl)) (fun _ _ _ h => h) (Or.inl ⟨by rfl, ?_⟩) hHeld ?_ ?_
                    rotate_left
                    · rintro w' ⟨s0, s1, s2, s3⟩
                      go_simp
                      with_reducible rfl
                    rotate_left
                    · simp only [Act.put, List.setIfInBounds_toArray, List.set_cons_zero, List.set_cons_succ, i64_w, i32_w]
                      rfl
                    refine one_ (i := 10) (N := some 54) #[true, true, true, true, true, true, true, true, true, true, true, true, true, false, false, false, false, false, false, false, false, false, false, false, false, false, false, false, false, false, false, false, false, false, false, false, false, false] rfl rfl (one_of HT_.out (by kernel_rfl)) (by decide) (fun K hK => ?_)
                    refine goes_ Try.func38 (by kernel_rfl) rfl #[.agg #[.int .i64 a0_0, .bool a0_1], .agg #[.int .i64 a1_0, .bool a1_1]] (by rfl) rfl rfl (by (try simp only [List.map_toArray, List.map_cons, List.map_nil]); first | done | rfl | (simp only [List.length_drop, List.length_take]; rfl)) ?_
                    with_reducible refine (fixed_Sub.calls k a0_0 a0_1 a1_0 a1_1 t424 t425 _ A23.out).mono ?_
                    rintro e w49 ⟨rfl, hb⟩
                    refine ⟨_, rfl, ?_⟩
                    have n0_ := Aside0.mk (blk_below (g := gb398) (o := .cells #[.int .i64 a0_0, .bool a0_1] 23 (0, 0)) (by (with_reducible repeat (first | refine blk_drewN ?_ _ | refine blk_drew ?_ | refine blk_alloc ?_ _)); exact BK398.out) hb)
                    have n1_ := Aside0.mk (blk_below (g := gb399) (o := .cells #[.int .i64 a1_0, .bool a1_1] 23 (0, 0)) (by (with_reducible repeat (first | refine blk_drewN ?_ _ | refine blk_drew ?_ | refine blk_alloc ?_ _)); exact BK399.out) hb)
                    have n2_ := Aside0.mk (below_step (by repeat (first | (with_reducible first | exact HB.out | apply below_alloc | apply pw_below_drewN | apply below_drew1 | refine below_set ?_ GE398.out | refine below_set ?_ GE399.out) | exact HB.out)) hb)
                    clear BK398
                    clear BK399
                    clear HB
                    have BK398 := n0_
                    have BK399 := n1_
                    have HB := n2_
                    clear n0_ n1_ n2_
                    (try clear hb)
                    (try clear hb2)
                    (try clear hk)
                    (try clear hi)
                    refine hK.out _ _ ⟨(blk_cell BK398.out 0).trans rfl, (blk_cell BK398.out 1).trans rfl, (blk_cell BK399.out 0).trans rfl, (blk_cell BK399.out 1).trans rfl⟩ (fun hHeld => ?_)
                    clear hK K
                    refine norm_ (a' := ?_) ?_ ?_
                    rotate_left
                    · show Act.put _ (some 54) _ = _
                      simp only [Act.put, List.setIfInBounds_toArray, List.set_cons_zero, List.set_cons_succ, i64_w, i32_w]
                      rfl
                    refine one_ (i := 13) (N := some 57) #[true, true, true, true, true, true, true, true, true, true, true, true, true, true, false, false, false, false, false, false, false, false, false, false, false, false, false, false, false, false, false, false, false, false, false, false, false, false] rfl rfl (one_of HT_.out (by kernel_rfl)) (by decide) (fun K hK => ?_)
                    refine goes_ Try.func60 (by kernel_rfl) rfl #[.agg #[.int .i64 a0_0, .bool a0_1], .agg #[.int .i64 a1_0, .bool a1_1]] (by rfl) rfl rfl (by (try simp only [List.map_toArray, List.map_cons, List.map_nil]); first | done | rfl | (simp only [List.length_drop, List.length_take]; rfl)) ?_
                    with_reducible refine (bagatelleref01_Sub.calls k a0_0 a0_1 a1_0 a1_1 t426 t427 _ A24.out).mono ?_
                    rintro e w50 ⟨rfl, hb⟩
                    refine ⟨_, rfl, ?_⟩
                    have n0_ := Aside0.mk (blk_below (g := gb398) (o := .cells #[.int .i64 a0_0, .bool a0_1] 23 (0, 0)) (by (with_reducible repeat (first | refine blk_drewN ?_ _ | refine blk_drew ?_ | refine blk_alloc ?_ _)); exact BK398.out) hb)
                    have n1_ := Aside0.mk (blk_below (g := gb399) (o := .cells #[.int .i64 a1_0, .bool a1_1] 23 (0, 0)) (by (with_reducible repeat (first | refine blk_drewN ?_ _ | refine blk_drew ?_ | refine blk_alloc ?_ _)); exact BK399.out) hb)
                    have n2_ := Aside0.mk (below_step (by repeat (first | (with_reducible first | exact HB.out | apply below_alloc | apply pw_below_drewN | apply below_drew1 | refine below_set ?_ GE398.out | refine below_set ?_ GE399.out) | exact HB.out)) hb)
                    clear BK398
                    clear BK399
                    clear HB
                    have BK398 := n0_
                    have BK399 := n1_
                    have HB := n2_
                    clear n0_ n1_ n2_
                    (try clear hb)
                    (try clear hb2)
                    (try clear hk)
                    (try clear hi)
                    refine hK.out _ _ ⟨(blk_cell BK398.out 0).trans rfl, (blk_cell BK398.out 1).trans rfl, (blk_cell BK399.out 0).trans rfl, (blk_cell BK399.out 1).trans rfl⟩ (fun hHeld => ?_)
                    clear hK K
                    refine norm_ (a' := ?_) ?_ ?_
                    rotate_left
                    · show Act.put _ (some 57) _ = _
                      simp only [Act.put, List.setIfInBounds_toArray, List.set_cons_zero, List.set_cons_succ, i64_w, i32_w]
                      rfl
                    refine pure_ (i := 14) (N := some 58) (v := ?_) (a' := ?_) #[true, true, true, true, true, true, true, true, true, true, true, true, true, true, true, false, false, false, false, false, false, false, false, false, false, false, false, false, false, false, false, false, false, false, false, false, false, false] rfl rfl (any_of HT_.out (by kernel_rfl)) (fun _ _ _ h => h) (Or.inl ⟨by rfl, ?_⟩) ?_ ?_
                    rotate_left
                    · intro w'
                      go_simp
                      with_reducible rfl
                    rotate_left
                    · simp only [Act.put, List.setIfInBounds_toArray, List.set_cons_zero, List.set_cons_succ, i64_w, i32_w]
                      rfl
                    refine pure_ (i := 15) (N := some 59) (v := ?_) (a' := ?_) #[true, true, true, true, true, true, true, true, true, true, true, true, true, true, true, true, false, false, false, false, false, false, false, false, false, false, false, false, false, false, false, false, false, false, false, false, false, false] rfl rfl (any_of HT_.out (by kernel_rfl)) (fun _ _ _ h => h) (Or.inl ⟨by rfl, ?_⟩) ?_ ?_
                    rotate_left
                    · intro w'
                      go_simp
                      with_reducible rfl
                    rotate_left
                    · simp only [Act.put, List.setIfInBounds_toArray, List.set_cons_zero, List.set_cons_succ, i64_w, i32_w]
                      rfl
                    refine pure_ (i := 16) (N := some 60) (v := ?_) (a' := ?_) #[true, true, true, true, true, true, true, true, true, true, true, true, true, true, true, true, true, false, false, false, false, false, false, false, false, false, false, false, false, false, false, false, false, false, false, false, false, false] rfl rfl (any_of HT_.out (by kernel_rfl)) (fun _ _ _ h => h) (Or.inl ⟨by rfl, ?_⟩) ?_ ?_
                    rotate_left
                    · intro w'
                      go_simp
                      with_reducible rfl
                    rotate_left
                    · simp only [Act.put, List.setIfInBounds_toArray, List.set_cons_zero, List.set_cons_succ, i64_w, i32_w]
                      rfl
                    refine take_ (i := 17) (N := some 61) (v := ?_) (a' := ?_) #[true, true, true, true, true, true, true, true, true, true, true, true, true, true, true, true, true, true, false, false, false, false, false, false, false, false, false, false, false, false, false, false, false, false, false, false, false, false] rfl rfl (take_ofW HT_.out HW_.out (by kernel_rfl)) (fun _ _ _ h => h) (Or.inl ⟨by rfl, ?_⟩) hHeld ?_ ?_
                    rotate_left
                    · rintro w' ⟨s0, s1, s2, s3⟩
                      go_simp
                      with_reducible rfl
                    rotate_left
                    · simp only [Act.put, List.setIfInBounds_toArray, List.set_cons_zero, List.set_cons_succ, i64_w, i32_w]
                      rfl
                    refine take_ (i := 18) (N := some 62) (v := ?_) (a' := ?_) #[true, true, true, true, true, true, true, true, true, true, true, true, true, true, true, true, true, true, true, false, false, false, false, false, false, false, false, false, false, false, false, false, false, false, false, false, false, false] rfl rfl (take_ofW HT_.out HW_.out (by kernel_rfl)) (fun _ _ _ h => h) (Or.inl ⟨by rfl, ?_⟩) hHeld ?_ ?_
                    rotate_left
                    · rintro w' ⟨s0, s1, s2, s3⟩
                      go_simp
                      with_reducible rfl
                    rotate_left
                    · simp only [Act.put, List.setIfInBounds_toArray, List.set_cons_zero, List.set_cons_succ, i64_w, i32_w]
                      rfl
                    refine take_ (i := 20) (N := some 64) (v := ?_) (a' := ?_) #[true, true, true, true, true, true, true, true, true, true, true, true, true, true, true, true, true, true, true, false, true, false, false, false, false, false, false, false, false, false, false, false, false, false, false, false, false, false] rfl rfl (take_ofW HT_.out HW_.out (by kernel_rfl)) (fun _ _ _ h => h) (Or.inl ⟨by rfl, ?_⟩) hHeld ?_ ?_
                    rotate_left
                    · rintro w' ⟨s0, s1, s2, s3⟩
                      go_simp
                      with_reducible rfl
                    rotate_left
                    · simp only [Act.put, List.setIfInBounds_toArray, List.set_cons_zero, List.set_cons_succ, i64_w, i32_w]
                      rfl
                    refine take_ (i := 21) (N := some 65) (v := ?_) (a' := ?_) #[true, true, true, true, true, true, true, true, true, true, true, true, true, true, true, true, true, true, true, false, true, true, false, false, false, false, false, false, false, false, false, false, false, false, false, false, false, false] rfl rfl (take_ofW HT_.out HW_.out (by kernel_rfl)) (fun _ _ _ h => h) (Or.inl ⟨by rfl, ?_⟩) hHeld ?_ ?_
                    rotate_left
                    · rintro w' ⟨s0, s1, s2, s3⟩
                      go_simp
                      with_reducible rfl
                    rotate_left
                    · simp only [Act.put, List.setIfInBounds_toArray, List.set_cons_zero, List.set_cons_succ, i64_w, i32_w]
                      rfl
                    refine one_ (i := 19) (N := some 63) #[true, true, true, true, true, true, true, true, true, true, true, true, true, true, true, true, true, true, true, true, true, true, false, false, false, false, false, false, false, false, false, false, false, false, false, false, false, false] rfl rfl (one_of HT_.out (by kernel_rfl)) (by decide) (fun K hK => ?_)
                    refine goes_ Try.func39 (by kernel_rfl) rfl #[.agg #[.int .i64 a0_0, .bool a0_1], .agg #[.int .i64 a1_0, .bool a1_1]] (by rfl) rfl rfl (by (try simp only [List.map_toArray, List.map_cons, List.map_nil]); first | done | rfl | (simp only [List.length_drop, List.length_take]; rfl)) ?_
                    with_reducible refine (fixed_Mul.calls k a0_0 a0_1 a1_0 a1_1 t428 t429 _ A26.out).mono ?_
                    rintro e w51 ⟨rfl, hb⟩
                    refine ⟨_, rfl, ?_⟩
                    have n0_ := Aside0.mk (blk_below (g := gb398) (o := .cells #[.int .i64 a0_0, .bool a0_1] 23 (0, 0)) (by (with_reducible repeat (first | refine blk_drewN ?_ _ | refine blk_drew ?_ | refine blk_alloc ?_ _)); exact BK398.out) hb)
                    have n1_ := Aside0.mk (blk_below (g := gb399) (o := .cells #[.int .i64 a1_0, .bool a1_1] 23 (0, 0)) (by (with_reducible repeat (first | refine blk_drewN ?_ _ | refine blk_drew ?_ | refine blk_alloc ?_ _)); exact BK399.out) hb)
                    have n2_ := Aside0.mk (below_step (by repeat (first | (with_reducible first | exact HB.out | apply below_alloc | apply pw_below_drewN | apply below_drew1 | refine below_set ?_ GE398.out | refine below_set ?_ GE399.out) | exact HB.out)) hb)
                    clear BK398
                    clear BK399
                    clear HB
                    have BK398 := n0_
                    have BK399 := n1_
                    have HB := n2_
                    clear n0_ n1_ n2_
                    (try clear hb)
                    (try clear hb2)
                    (try clear hk)
                    (try clear hi)
                    refine hK.out _ _ ⟨(blk_cell BK398.out 0).trans rfl, (blk_cell BK398.out 1).trans rfl, (blk_cell BK399.out 0).trans rfl, (blk_cell BK399.out 1).trans rfl⟩ (fun hHeld => ?_)
                    clear hK K
                    refine norm_ (a' := ?_) ?_ ?_
                    rotate_left
                    · show Act.put _ (some 63) _ = _
                      simp only [Act.put, List.setIfInBounds_toArray, List.set_cons_zero, List.set_cons_succ, i64_w, i32_w]
                      rfl
                    refine one_ (i := 22) (N := some 66) #[true, true, true, true, true, true, true, true, true, true, true, true, true, true, true, true, true, true, true, true, true, true, true, false, false, false, false, false, false, false, false, false, false, false, false, false, false, false] rfl rfl (one_of HT_.out (by kernel_rfl)) (by decide) (fun K hK => ?_)
                    refine goes_ Try.func61 (by kernel_rfl) rfl #[.agg #[.int .i64 a0_0, .bool a0_1], .agg #[.int .i64 a1_0, .bool a1_1]] (by rfl) rfl rfl (by (try simp only [List.map_toArray, List.map_cons, List.map_nil]); first | done | rfl | (simp only [List.length_drop, List.length_take]; rfl)) ?_
                    with_reducible refine (bagatelleref01_Mul.calls k a0_0 a0_1 a1_0 a1_1 t430 t431 _ A27.out).mono ?_
                    rintro e w52 ⟨rfl, hb⟩
                    refine ⟨_, rfl, ?_⟩
                    have n0_ := Aside0.mk (blk_below (g := gb398) (o := .cells #[.int .i64 a0_0, .bool a0_1] 23 (0, 0)) (by (with_reducible repeat (first | refine blk_drewN ?_ _ | refine blk_drew ?_ | refine blk_alloc ?_ _)); exact BK398.out) hb)
                    have n1_ := Aside0.mk (blk_below (g := gb399) (o := .cells #[.int .i64 a1_0, .bool a1_1] 23 (0, 0)) (by (with_reducible repeat (first | refine blk_drewN ?_ _ | refine blk_drew ?_ | refine blk_alloc ?_ _)); exact BK399.out) hb)
                    have n2_ := Aside0.mk (below_step (by repeat (first | (with_reducible first | exact HB.out | apply below_alloc | apply pw_below_drewN | apply below_drew1 | refine below_set ?_ GE398.out | refine below_set ?_ GE399.out) | exact HB.out)) hb)
                    clear BK398
                    clear BK399
                    clear HB
                    have BK398 := n0_
                    have BK399 := n1_
                    have HB := n2_
                    clear n0_ n1_ n2_
                    (try clear hb)
                    (try clear hb2)
                    (try clear hk)
                    (try clear hi)
                    refine hK.out _ _ ⟨(blk_cell BK398.out 0).trans rfl, (blk_cell BK398.out 1).trans rfl, (blk_cell BK399.out 0).trans rfl, (blk_cell BK399.out 1).trans rfl⟩ (fun hHeld => ?_)
                    clear hK K
                    refine norm_ (a' := ?_) ?_ ?_
                    rotate_left
                    · show Act.put _ (some 66) _ = _
                      simp only [Act.put, List.setIfInBounds_toArray, List.set_cons_zero, List.set_cons_succ, i64_w, i32_w]
                      rfl
                    refine pure_ (i := 23) (N := some 67) (v := ?_) (a' := ?_) #[true, true, true, true, true, true, true, true, true, true, true, true, true, true, true, true, true, true, true, true, true, true, true, true, false, false, false, false, false, false, false, false, false, false, false, false, false, false] rfl rfl (any_of HT_.out (by kernel_rfl)) (fun _ _ _ h => h) (Or.inl ⟨by rfl, ?_⟩) ?_ ?_
                    rotate_left
                    · intro w'
                      go_simp
                      with_reducible rfl
                    rotate_left
                    · simp only [Act.put, List.setIfInBounds_toArray, List.set_cons_zero, List.set_cons_succ, i64_w, i32_w]
                      rfl
                    refine pure_ (i := 24) (N := some 68) (v := ?_) (a' := ?_) #[true, true, true, true, true, true, true, true, true, true, true, true, true, true, true, true, true, true, true, true, true, true, true, true, true, false, false, false, false, false, false, false, false, false, false, false, false, false] rfl rfl (any_of HT_.out (by kernel_rfl)) (fun _ _ _ h => h) (Or.inl ⟨by rfl, ?_⟩) ?_ ?_
                    rotate_left
                    · intro w'
                      go_simp
                      with_reducible rfl
                    rotate_left
                    · simp only [Act.put, List.setIfInBounds_toArray, List.set_cons_zero, List.set_cons_succ, i64_w, i32_w]
                      rfl
                    refine pure_ (i := 25) (N := some 69) (v := ?_) (a' := ?_) #[true, true, true, true, true, true, true, true, true, true, true, true, true, true, true, true, true, true, true, true, true, true, true, true, true, true, false, false, false, false, false, false, false, false, false, false, false, false] rfl rfl (any_of HT_.out (by kernel_rfl)) (fun _ _ _ h => h) (Or.inl ⟨by rfl, ?_⟩) ?_ ?_
                    rotate_left
                    · intro w'
                      go_simp
                      with_reducible rfl
                    rotate_left
                    · simp only [Act.put, List.setIfInBounds_toArray, List.set_cons_zero, List.set_cons_succ, i64_w, i32_w]
                      rfl
                    refine take_ (i := 26) (N := some 70) (v := ?_) (a' := ?_) #[true, true, true, true, true, true, true, true, true, true, true, true, true, true, true, true, true, true, true, true, true, true, true, true, true, true, true, false, false, false, false, false, false, false, false, false, false, false] rfl rfl (take_ofW HT_.out HW_.out (by kernel_rfl)) (fun _ _ _ h => h) (Or.inl ⟨by rfl, ?_⟩) hHeld ?_ ?_
                    rotate_left
                    · rintro w' ⟨s0, s1, s2, s3⟩
                      go_simp
                      with_reducible rfl
                    rotate_left
                    · simp only [Act.put, List.setIfInBounds_toArray, List.set_cons_zero, List.set_cons_succ, i64_w, i32_w]
                      rfl
                    refine take_ (i := 27) (N := some 71) (v := ?_) (a' := ?_) #[true, true, true, true, true, true, true, true, true, true, true, true, true, true, true, true, true, true, true, true, true, true, true, true, true, true, true, true, false, false, false, false, false, false, false, false, false, false] rfl rfl (take_ofW HT_.out HW_.out (by kernel_rfl)) (fun _ _ _ h => h) (Or.inl ⟨by rfl, ?_⟩) hHeld ?_ ?_
                    rotate_left
                    · rintro w' ⟨s0, s1, s2, s3⟩
                      go_simp
                      with_reducible rfl
                    rotate_left
                    · simp only [Act.put, List.setIfInBounds_toArray, List.set_cons_zero, List.set_cons_succ, i64_w, i32_w]
                      rfl
                    refine take_ (i := 29) (N := some 73) (v := ?_) (a' := ?_) #[true, true, true, true, true, true, true, true, true, true, true, true, true, true, true, true, true, true, true, true, true, true, true, true, true, true, true, true, false, true, false, false, false, false, false, false, false, false] rfl rfl (take_ofW HT_.out HW_.out (by kernel_rfl)) (fun _ _ _ h => h) (Or.inl ⟨by rfl, ?_⟩) hHeld ?_ ?_
                    rotate_left
                    · rintro w' ⟨s0, s1, s2, s3⟩
                      go_simp
                      with_reducible rfl
                    rotate_left
                    · simp only [Act.put, List.setIfInBounds_toArray, List.set_cons_zero, List.set_cons_succ, i64_w, i32_w]
                      rfl
                    refine take_ (i := 30) (N := some 74) (v := ?_) (a' := ?_) #[true, true, true, true, true, true, true, true, true, true, true, true, true, true, true, true, true, true, true, true, true, true, true, true, true, true, true, true, false, true, true, false, false, false, false, false, false, false] rfl rfl (take_ofW HT_.out HW_.out (by kernel_rfl)) (fun _ _ _ h => h) (Or.inl ⟨by rfl, ?_⟩) hHeld ?_ ?_
                    rotate_left
                    · rintro w' ⟨s0, s1, s2, s3⟩
                      go_simp
                      with_reducible rfl
                    rotate_left
                    · simp only [Act.put, List.setIfInBounds_toArray, List.set_cons_zero, List.set_cons_succ, i64_w, i32_w]
                      rfl
                    refine one_ (i := 28) (N := some 72) #[true, true, true, true, true, true, true, true, true, true, true, true, true, true, true, true, true, true, true, true, true, true, true, true, true, true, true, true, true, true, true, false, false, false, false, false, false, false] rfl rfl (one_of HT_.out (by kernel_rfl)) (by decide) (fun K hK => ?_)
                    refine goes_ Try.func40 (by kernel_rfl) rfl #[.agg #[.int .i64 a0_0, .bool a0_1], .agg #[.int .i64 a1_0, .bool a1_1]] (by rfl) rfl rfl (by (try simp only [List.map_toArray, List.map_cons, List.map_nil]); first | done | rfl | (simp only [List.length_drop, List.length_take]; rfl)) ?_
                    with_reducible refine (fixed_Div.calls k a0_0 a0_1 a1_0 a1_1 t432 t433 _ A29.out).mono ?_
                    rintro e w53 ⟨rfl, hb⟩
                    refine ⟨_, rfl, ?_⟩
                    have n0_ := Aside0.mk (blk_below (g := gb398) (o := .cells #[.int .i64 a0_0, .bool a0_1] 23 (0, 0)) (by (with_reducible repeat (first | refine blk_drewN ?_ _ | refine blk_drew ?_ | refine blk_alloc ?_ _)); exact BK398.out) hb)
                    have n1_ := Aside0.mk (blk_below (g := gb399) (o := .cells #[.int .i64 a1_0, .bool a1_1] 23 (0, 0)) (by (with_reducible repeat (first | refine blk_drewN ?_ _ | refine blk_drew ?_ | refine blk_alloc ?_ _)); exact BK399.out) hb)
                    have n2_ := Aside0.mk (below_step (by repeat (first | (with_reducible first | exact HB.out | apply below_alloc | apply pw_below_drewN | apply below_drew1 | refine below_set ?_ GE398.out | refine below_set ?_ GE399.out) | exact HB.out)) hb)
                    clear BK398
                    clear BK399
                    clear HB
                    have BK398 := n0_
                    have BK399 := n1_
                    have HB := n2_
                    clear n0_ n1_ n2_
                    (try clear hb)
                    (try clear hb2)
                    (try clear hk)
                    (try clear hi)
                    refine hK.out _ _ ⟨(blk_cell BK398.out 0).trans rfl, (blk_cell BK398.out 1).trans rfl, (blk_cell BK399.out 0).trans rfl, (blk_cell BK399.out 1).trans rfl⟩ (fun hHeld => ?_)
                    clear hK K
                    refine norm_ (a' := ?_) ?_ ?_
                    rotate_left
                    · show Act.put _ (some 72) _ = _
                      simp only [Act.put, List.setIfInBounds_toArray, List.set_cons_zero, List.set_cons_succ, i64_w, i32_w]
                      rfl
                    refine one_ (i := 31) (N := some 75) #[true, true, true, true, true, true, true, true, true, true, true, true, true, true, true, true, true, true, true, true, true, true, true, true, true, true, true, true, true, true, true, true, false, false, false, false, false, false] rfl rfl (one_of HT_.out (by kernel_rfl)) (by decide) (fun K hK => ?_)
                    refine goes_ Try.func62 (by kernel_rfl) rfl #[.agg #[.int .i64 a0_0, .bool a0_1], .agg #[.int .i64 a1_0, .bool a1_1]] (by rfl) rfl rfl (by (try simp only [List.map_toArray, List.map_cons, List.map_nil]); first | done | rfl | (simp only [List.length_drop, List.length_take]; rfl)) ?_
                    with_reducible refine (bagatelleref01_Div.calls k a0_0 a0_1 a1_0 a1_1 t434 t435 _ A30.out).mono ?_
                    rintro e w54 ⟨rfl, hb⟩
                    refine ⟨_, rfl, ?_⟩
                    have n0_ := Aside0.mk (blk_below (g := gb398) (o := .cells #[.int .i64 a0_0, .bool a0_1] 23 (0, 0)) (by (with_reducible repeat (first | refine blk_drewN ?_ _ | refine blk_drew ?_ | refine blk_alloc ?_ _)); exact BK398.out) hb)
                    have n1_ := Aside0.mk (blk_below (g := gb399) (o := .cells #[.int .i64 a1_0, .bool a1_1] 23 (0, 0)) (by (with_reducible repeat (first | refine blk_drewN ?_ _ | refine blk_drew ?_ | refine blk_alloc ?_ _)); exact BK399.out) hb)
                    have n2_ := Aside0.mk (below_step (by repeat (first | (with_reducible first | exact HB.out | apply below_alloc | apply pw_below_drewN | apply below_drew1 | refine below_set ?_ GE398.out | refine below_set ?_ GE399.out) | exact HB.out)) hb)
                    clear BK398
                    clear BK399
                    clear HB
                    have BK398 := n0_
                    have BK399 := n1_
                    have HB := n2_
                    clear n0_ n1_ n2_
                    (try clear hb)
                    (try clear hb2)
                    (try clear hk)
                    (try clear hi)
                    refine hK.out _ _ ⟨(blk_cell BK398.out 0).trans rfl, (blk_cell BK398.out 1).trans rfl, (blk_cell BK399.out 0).trans rfl, (blk_cell BK399.out 1).trans rfl⟩ (fun hHeld => ?_)
                    clear hK K
                    refine norm_ (a' := ?_) ?_ ?_
                    rotate_left
                    · show Act.put _ (some 75) _ = _
                      simp only [Act.put, List.setIfInBounds_toArray, List.set_cons_zero, List.set_cons_succ, i64_w, i32_w]
                      rfl
                    refine pure_ (i := 32) (N := some 76) (v := ?_) (a' := ?_) #[true, true, true, true, true, true, true, true, true, true, true, true, true, true, true, true, true, true, true, true, true, true, true, true, true, true, true, true, true, true, true, true, true, false, false, false, false, false] rfl rfl (any_of HT_.out (by kernel_rfl)) (fun _ _ _ h => h) (Or.inl ⟨by rfl, ?_⟩) ?_ ?_
                    rotate_left
                    · intro w'
                      go_simp
                      with_reducible rfl
                    rotate_left
                    · simp only [Act.put, List.setIfInBounds_toArray, List.set_cons_zero, List.set_cons_succ, i64_w, i32_w]
                      rfl
                    refine pure_ (i := 33) (N := some 77) (v := ?_) (a' := ?_) #[true, true, true, true, true, true, true, true, true, true, true, true, true, true, true, true, true, true, true, true, true, true, true, true, true, true, true, true, true, true, true, true, true, true, false, false, false, false] rfl rfl (any_of HT_.out (by kernel_rfl)) (fun _ _ _ h => h) (Or.inl ⟨by rfl, ?_⟩) ?_ ?_
                    rotate_left
                    · intro w'
                      go_simp
                      with_reducible rfl
                    rotate_left
                    · simp only [Act.put, List.setIfInBounds_toArray, List.set_cons_zero, List.set_cons_succ, i64_w, i32_w]
                      rfl
                    refine pure_ (i := 34) (N := some 78) (v := ?_) (a' := ?_) #[true, true, true, true, true, true, true, true, true, true, true, true, true, true, true, true, true, true, true, true, true, true, true, true, true, true, true, true, true, true, true, true, true, true, true, false, false, false] rfl rfl (any_of HT_.out (by kernel_rfl)) (fun _ _ _ h => h) (Or.inl ⟨by rfl, ?_⟩) ?_ ?_
                    rotate_left
                    · intro w'
                      go_simp
                      with_reducible rfl
                    rotate_left
                    · simp only [Act.put, List.setIfInBounds_toArray, List.set_cons_zero, List.set_cons_succ, i64_w, i32_w]
                      rfl
                    refine one_ (i := 35) (N := some 79) #[true, true, true, true, true, true, true, true, true, true, true, true, true, true, true, true, true, true, true, true, true, true, true, true, true, true, true, true, true, true, true, true, true, true, true, true, false, false] rfl rfl (one_of HT_.out (by kernel_rfl)) (by decide) (fun K hK => ?_)
                    refine goes_ Try.func23 (by kernel_rfl) rfl #[] (by rfl) rfl rfl (by (try simp only [List.map_toArray, List.map_cons, List.map_nil]); first | done | rfl | (simp only [List.length_drop, List.length_take]; rfl)) ?_
                    with_reducible refine (bagatellelaw01_awake.calls k  t436 _ A32.out).mono ?_
                    rintro e w55 ⟨rfl, hb⟩
                    refine ⟨_, rfl, ?_⟩
                    have n0_ := Aside0.mk (blk_below (g := gb398) (o := .cells #[.int .i64 a0_0, .bool a0_1] 23 (0, 0)) (by (with_reducible repeat (first | refine blk_drewN ?_ _ | refine blk_drew ?_ | refine blk_alloc ?_ _)); exact BK398.out) hb)
                    have n1_ := Aside0.mk (blk_below (g := gb399) (o := .cells #[.int .i64 a1_0, .bool a1_1] 23 (0, 0)) (by (with_reducible repeat (first | refine blk_drewN ?_ _ | refine blk_drew ?_ | refine blk_alloc ?_ _)); exact BK399.out) hb)
                    have n2_ := Aside0.mk (below_step (by repeat (first | (with_reducible first | exact HB.out | apply below_alloc | apply pw_below_drewN | apply below_drew1 | refine below_set ?_ GE398.out | refine below_set ?_ GE399.out) | exact HB.out)) hb)
                    clear BK398
                    clear BK399
                    clear HB
                    have BK398 := n0_
                    have BK399 := n1_
                    have HB := n2_
                    clear n0_ n1_ n2_
                    (try clear hb)
                    (try clear hb2)
                    (try clear hk)
                    (try clear hi)
                    refine hK.out _ _ ⟨(blk_cell BK398.out 0).trans rfl, (blk_cell BK398.out 1).trans rfl, (blk_cell BK399.out 0).trans rfl, (blk_cell BK399.out 1).trans rfl⟩ (fun hHeld => ?_)
                    clear hK K
                    refine norm_ (a' := ?_) ?_ ?_
                    rotate_left
                    · show Act.put _ (some 79) _ = _
                      simp only [Act.put, List.setIfInBounds_toArray, List.set_cons_zero, List.set_cons_succ, i64_w, i32_w]
                      rfl
                    refine pure_ (i := 36) (N := some 80) (v := ?_) (a' := ?_) #[true, true, true, true, true, true, true, true, true, true, true, true, true, true, true, true, true, true, true, true, true, true, true, true, true, true, true, true, true, true, true, true, true, true, true, true, true, false] rfl rfl (any_of HT_.out (by kernel_rfl)) (fun _ _ _ h => h) (Or.inl ⟨by rfl, ?_⟩) ?_ ?_
                    rotate_left
                    · intro w'
                      go_simp
                      with_reducible rfl
                    rotate_left
                    · simp only [Act.put, List.setIfInBounds_toArray, List.set_cons_zero, List.set_cons_succ, i64_w, i32_w]
                      rfl
                    refine pure_ (i := 37) (N := some 8) (v := ?_) (a' := ?_) #[true, true, true, true, true, true, true, true, true, true, true, true, true, true, true, true, true, true, true, true, true, true, true, true, true, true, true, true, true, true, true, true, true, true, true, true, true, true] rfl rfl (any_of HT_.out (by kernel_rfl)) (fun _ _ _ h => h) (Or.inl ⟨by rfl, ?_⟩) ?_ ?_
                    rotate_left
                    · intro w'
                      go_simp
                      with_reducible rfl
                    rotate_left
                    · simp only [Act.put, List.setIfInBounds_toArray, List.set_cons_zero, List.set_cons_succ, i64_w, i32_w]
                      rfl
                    refine done_ (done_of HT_.out (by kernel_rfl)) ?_
                    try go_wp2
                    go_ret
                    exact ⟨by first | rfl | (simp [errW_none, errW_some] <;> rfl) | (simp [*, errW_none, errW_some] <;> rfl), by repeat (first | (with_reducible first | exact HB.out | apply below_alloc | apply pw_below_drewN | apply below_drew1 | refine below_set ?_ GE398.out | refine below_set ?_ GE399.out) | exact HB.out)⟩
                  · rw [if_neg c31] at H
                    have c31b0 : (t432 == t434 && (t433 == t435)) = false := by simpa using c31
                    (try (have c31b1 : decide (t432 = t434 && (t433 == t435)) = false := by simpa using c31))
                    (try (have c31b2 : (t432 == t434 && (t433 == t435)) = false := by simpa using c31))
                    (try (have c31b3 : ¬ (t432 = t434 && (t433 == t435)) := by simpa using c31))
                    clear c31
                    exact absurd H (by simp)
                · rw [if_neg c28] at H
                  have c28b0 : (t428 == t430 && (t429 == t431)) = false := by simpa using c28
                  (try (have c28b1 : decide (t428 = t430 && (t429 == t431)) = false := by simpa using c28))
                  (try (have c28b2 : (t428 == t430 && (t429 == t431)) = false := by simpa using c28))
                  (try (have c28b3 : ¬ (t428 = t430 && (t429 == t431)) := by simpa using c28))
                  clear c28
                  exact absurd H (by simp)
              · rw [if_neg c25] at H
                have c25b0 : (t424 == t426 && (t425 == t427)) = false := by simpa using c25
                (try (have c25b1 : decide (t424 = t426 && (t425 == t427)) = false := by simpa using c25))
                (try (have c25b2 : (t424 == t426 && (t425 == t427)) = false := by simpa using c25))
                (try (have c25b3 : ¬ (t424 = t426 && (t425 == t427)) := by simpa using c25))
                clear c25
                exact absurd H (by simp)
            · rw [if_neg c22] at H
              have c22b0 : (t420 == t422 && (t421 == t423)) = false := by simpa using c22
              (try (have c22b1 : decide (t420 = t422 && (t421 == t423)) = false := by simpa using c22))
              (try (have c22b2 : (t420 == t422 && (t421 == t423)) = false := by simpa using c22))
              (try (have c22b3 : ¬ (t420 = t422 && (t421 == t423)) := by simpa using c22))
              clear c22
              exact absurd H (by simp)
end Go.Proofs.Ytenpiaafkmfjfaa.B

end
section
namespace Go.Proofs.Ytenpiaafkmfjfaa.B
open Go.RowKit
theorem ratio_both (k : Nat) (hk : 129 ≤ k) {a b : Int} (ha : I64 a) (hb : I64 b) : ∃ r, fixed_Ratio.f k a b = some r ∧ bagatelleref01_Ratio.f k a b = some r := by
  by_cases h : b = 0
  · subst h; exact ⟨_, ratio_0 k a, ratio_0r k a⟩
  · exact ⟨_, ratio_f k (by omega) ha hb h, ratio_r k hk ha hb h⟩
theorem div_both (k : Nat) (hk : 129 ≤ k) {a b : Int} (fa fb : Bool) (ha : I64 a) (hb : I64 b) : ∃ r, fixed_Div.f k a fa b fb = some r ∧ bagatelleref01_Div.f k a fa b fb = some r := by
  by_cases h : sv b = 0
  · exact ⟨_, div_0 k fa fb h, div_0r k fa fb h⟩
  · exact ⟨_, div_f k (by omega) fa fb ha hb h, div_r k hk fa fb ha hb h⟩
theorem fixedOps_f (k : Nat) (hk : 129 ≤ k) {a b v w : Int} (f g : Bool) (ha : I64 a) (hb : I64 b) (hv : I64 v) (hw : I64 w) : bagatellelaw01_FixedOps.f k a f b g v w = some true := by
  unfold bagatellelaw01_FixedOps.f
  obtain ⟨r1, e1, e2⟩ := ratio_both k hk hv hw
  obtain ⟨r2, e3, e4⟩ := div_both k hk f g ha hb
  rw [of_p, Option.bind_some, of_r, Option.bind_some]
  dsimp only
  rw [if_neg (by simp), int_f k (by omega) hv, Option.bind_some, int_r k (by omega) hv, Option.bind_some]
  dsimp only
  rw [if_neg (by simp), e1, Option.bind_some, e2, Option.bind_some, if_neg (by simp), neg_f f ha, Option.bind_some, neg_r f ha, Option.bind_some]
  dsimp only
  rw [if_neg (by simp), abs_f f ha, Option.bind_some, abs_r f ha, Option.bind_some]
  dsimp only
  rw [if_neg (by simp), add_f k (by omega) f g ha hb, Option.bind_some, add_r k (by omega) f g ha hb, Option.bind_some]
  dsimp only
  rw [if_pos (by simp), sub_f k (by omega) f g ha hb, Option.bind_some, sub_r k (by omega) f g ha hb, Option.bind_some]
  dsimp only
  rw [if_pos (by simp), mul_f k (by omega) f g ha hb, Option.bind_some, mul_r k (by omega) f g ha hb, Option.bind_some]
  dsimp only
  rw [if_pos (by simp), e3, Option.bind_some, e4, Option.bind_some, if_pos (by simp), awake_f k (by omega)]
  rfl
theorem fixedOps_walk (a : Int) (f : Bool) (b : Int) (g : Bool) (v u : Int) (w : World) (ha : I64 a) (hb : I64 b) (hv : I64 v) (hu : I64 u) :
    Calls Try.prog 9 #[.agg #[.int .i64 a, .bool f], .agg #[.int .i64 b, .bool g], .int .i64 v, .int .i64 u] w fun e w' => e = .returned (.bool true) ∧ Below w.heap.size w w' :=
  bagatellelaw01_FixedOps.calls 129 a f b g v u true w (fixedOps_f 129 (by omega) f g ha hb hv hu)
end Go.Proofs.Ytenpiaafkmfjfaa.B

end
section
namespace Go.Proofs.Ytenpiaafkmfjfaa.B
open Go.ChangeShapes Go.WideShapes Go.ChangeAt Go.RowKit Go.Joins
open Go.ChangeMaps (open_string shut_string)
set_option linter.unusedVariables false
set_option maxRecDepth 100000 in
theorem fixedOps_lifted (os : Os) (started : os.Started) (H : Type) (enc : TypeId × Value → H) :
    ReturnsInHanded {} Try.checked os 9 .any (Rows.fixedOpsSpec.pre6 enc Try.prog Try.f9 Rows.fixedOpsRow.domain false) (Rows.fixedOpsSpec.post enc Try.prog Try.f9 false true false false) := by
  refine returnsInHanded_of_change_sized (C := Try.checked) own started (by kernel_rfl) Try.func9
    (ChangeSpec.witness6 (enc := enc) (C := Try.checked) false ⟨#[], #[.agg #[.int .i64 0, .bool false], .agg #[.int .i64 0, .bool false], .int .i64 0, .int .i64 0], []⟩ 8 (by kernel_rfl) (by kernel_rfl) (by kernel_rfl) (by kernel_rfl)) ?_
  intro W base args ds gs before hval0 hW hcnd hsz0 _
  have hsz : (DataW.weightsEach Try.prog (Try.f9.params.toList ++ Rows.fixedOpsSpec.plain.varTypes Try.prog) (ds ++ gs)).all (· ≤ reachBytes) = true := hsz0
  have hval : ∀ (j : Nat) t v, Try.f9.params[j]? = some t → args[j]? = some v → Value.okWide Try.prog W .any base t v := hval0
  have hW' := hW
  obtain ⟨p, q, hA0, hV, rfl, hfz, hnd⟩ := hW
  have hA : DataW.TrodAll enc Try.prog W 0 (fun _ => true) true Try.f9.params.toList args.toList ds p := hA0
  rw [Try.params9] at hA hval hsz
  obtain ⟨v0, vs0, d0, ds0, p0, q0, hargs, rfl, rfl, h0, r0⟩ := trodAll_cons hA
  obtain ⟨v1, vs1, d1, ds1, p1, q1, rfl, rfl, rfl, h1, r1⟩ := trodAll_cons r0
  obtain ⟨v2, vs2, d2, ds2, p2, q2, rfl, rfl, rfl, h2, r2⟩ := trodAll_cons r1
  obtain ⟨v3, vs3, d3, ds3, p3, q3, rfl, rfl, rfl, h3, r3⟩ := trodAll_cons r2
  obtain ⟨rfl, rfl, rfl⟩ := trodAll_nil r3
  obtain rfl : args = #[v0, v1, v2, v3] := by cases args; simp_all
  obtain ⟨rfl, rfl⟩ := trodVars_none hV
  obtain ⟨a0, f0, rfl, rfl, rfl, w0⟩ := open_num (hval 0 23 v0 rfl rfl) h0
  obtain ⟨a1, f1, rfl, rfl, rfl, w1⟩ := open_num (hval 1 23 v1 rfl rfl) h1
  obtain ⟨a2, rfl, rfl, rfl, w2⟩ := open_int Try.underlying2 (hval 2 2 v2 rfl rfl) h2
  obtain ⟨a3, rfl, rfl, rfl, w3⟩ := open_int Try.underlying2 (hval 3 2 v3 rfl rfl) h3
  clear hA0 hval0 hsz0 hsz
  refine (fixedOps_walk a0 f0 a1 f1 a2 a3 W (wf_i64 w0) (wf_i64 w1) (wf_i64 w2) (wf_i64 w3)).mono fun e W' ⟨he, bel⟩ => ?_
  subst he
  exact ⟨_, rfl, _, _, _, [], _, [], hW', trodAll_mk1 (shut_bool Try.underlying4 _), (trodAll_cons_mk (shut_num a0 f0 w0) (trodAll_cons_mk (shut_num a1 f1 w1) (trodAll_cons_mk (shut_int Try.underlying2 w2) (trodAll_cons_mk (shut_int Try.underlying2 w3) trodAll_mk0)))), rfl, bel.frame _, fun h => by cases h⟩
theorem fixedOps_over : Rows.fixedOpsRow.holds Try.pinned (OpenSpec.ofChange Rows.fixedOpsSpec) :=
  OpenClaim.holds_of_wide 9 Try.f9 rfl rfl rfl rfl rfl rfl rfl ⟨rfl, rfl, rfl, rfl, rfl⟩ rfl rfl rfl rfl rfl (by kernel_rfl) Try.func9 (by kernel_rfl)
    (of_decide_eq_true (by kernel_rfl)) (by unfold Func.isWrapper; first | (rw [if_pos (by decide +kernel)]; kernel_rfl) | (rw [if_neg (by decide +kernel)]; exact ⟨rfl, rfl⟩))
    (fun os started H enc _ => fixedOps_lifted os started H enc)
end Go.Proofs.Ytenpiaafkmfjfaa.B
namespace Go.Proofs.Ytenpiaafkmfjfaa
theorem fixedOps_holds : Rows.FixedOpsSaid := B.fixedOps_over
end Go.Proofs.Ytenpiaafkmfjfaa

end
#print axioms Go.Proofs.Ytenpiaafkmfjfaa.fixedOps_holds
