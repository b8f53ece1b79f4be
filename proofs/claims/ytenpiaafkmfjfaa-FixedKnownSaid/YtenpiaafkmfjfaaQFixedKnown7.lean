/- FixedKnown: part 7 of the proof. -/
import Derived.Test.YtenpiaafkmfjfaaQFixedKnown6
section
namespace Go.Proofs.Ytenpiaafkmfjfaa.B
open Go.RowKit Go.Proofs.YtenpiaafkmfjfaaW.PrintWords Go.Proofs.YtenpiaafkmfjfaaW.PrintLast Go.Proofs.YtenpiaafkmfjfaaW.PrintMore
attribute [local go_sem] max2_int min2_int max_two min_two max_three min_three max_four min_four
set_option linter.unusedVariables false
set_option linter.unusedSimpArgs false
attribute [local go_sem high] eqA23
def bagatellelaw01_FixedKnown.f (k : Nat)  : Option (Bool) := (fixed_Int.f k 3).bind fun bt372 => ((bagatellelaw01_text.f bt372.1 bt372.2 (⟨#[51]⟩ : ByteArray)).bind fun t374 => (if t374 = true then ((fixed_Int.f k 2147483648).bind fun bt375 => ((bagatellelaw01_text.f bt375.1 bt375.2 (⟨#[50, 49, 52, 55, 52, 56, 51, 54, 52, 55, 46, 57, 57, 57, 57, 57, 57, 57, 57, 57, 55, 54, 55, 49, 54, 57, 51, 53, 54, 51, 52, 54, 49, 51, 48, 51, 55, 49, 48, 57, 51, 55, 53, 33]⟩ : ByteArray)).bind fun t377 => (if t377 = true then ((fixed_Int.f k (-2147483648)).bind fun bt378 => (if 1 + 44 ≤ 9223372036854775807 then ((bagatellelaw01_text.f bt378.1 bt378.2 ((⟨#[45]⟩ : ByteArray) ++ (⟨#[50, 49, 52, 55, 52, 56, 51, 54, 52, 55, 46, 57, 57, 57, 57, 57, 57, 57, 57, 57, 55, 54, 55, 49, 54, 57, 51, 53, 54, 51, 52, 54, 49, 51, 48, 51, 55, 49, 48, 57, 51, 55, 53, 33]⟩ : ByteArray))).bind fun t380 => ((fixed_Ratio.f k 1 3).bind fun bt381 => (if (bt381.1 == 1431655765 && (!bt381.2)) = true then ((fixed_Ratio.f k (-1) 2).bind fun bt383 => ((bagatellelaw01_text.f bt383.1 bt383.2 (⟨#[45, 48, 46, 53]⟩ : ByteArray)).bind fun t385 => (if t385 = true then ((fixed_Ratio.f k 5 0).bind fun bt386 => ((bagatellelaw01_text.f bt386.1 bt386.2 (⟨#[50, 49, 52, 55, 52, 56, 51, 54, 52, 55, 46, 57, 57, 57, 57, 57, 57, 57, 57, 57, 55, 54, 55, 49, 54, 57, 51, 53, 54, 51, 52, 54, 49, 51, 48, 51, 55, 49, 48, 57, 51, 55, 53, 33]⟩ : ByteArray)).bind fun t388 => (if t388 = true then ((fixed_Ratio.f k 0 0).bind fun bt389 => ((bagatellelaw01_text.f bt389.1 bt389.2 (⟨#[48, 33]⟩ : ByteArray)).bind fun t391 => ((fixed_Ratio.f k 3 2).bind fun bt393 => ((fixed_Neg.f 2147483648 false).bind fun bt395 => ((fixed_Mul.f k bt393.1 bt393.2 bt395.1 bt395.2).bind fun bt397 => ((bagatellelaw01_text.f bt397.1 bt397.2 (⟨#[45, 48, 46, 55, 53]⟩ : ByteArray)).bind fun t399 => (if t399 = true then ((fixed_Int.f k 1).bind fun bt400 => ((fixed_Int.f k (-4)).bind fun bt402 => ((fixed_Div.f k bt400.1 bt400.2 bt402.1 bt402.2).bind fun bt404 => ((bagatellelaw01_text.f bt404.1 bt404.2 (⟨#[45, 48, 46, 50, 53]⟩ : ByteArray)).bind fun t406 => (if t406 = true then ((fixed_Int.f k (-1)).bind fun bt407 => ((fixed_Int.f k 3).bind fun bt409 => ((fixed_Div.f k bt407.1 bt407.2 bt409.1 bt409.2).bind fun bt411 => ((fixed_Int.f k 2).bind fun bt413 => ((fixed_Sqrt.f k bt413.1 bt413.2).bind fun bt415 => (if (bt415.1 == 6074000999 && (!bt415.2)) = true then ((fixed_Int.f k (-1)).bind fun bt417 => ((fixed_Sqrt.f k bt417.1 bt417.2).bind fun bt419 => ((bagatellelaw01_text.f bt419.1 bt419.2 (⟨#[48, 33]⟩ : ByteArray)).bind fun t421 => (if t421 = true then ((fixed_Int.f k 3).bind fun bt422 => ((fixed_Int.f k (-4)).bind fun bt424 => ((fixed_Hypot.f k bt422.1 bt422.2 bt424.1 bt424.2).bind fun bt426 => ((bagatellelaw01_text.f bt426.1 bt426.2 (⟨#[53]⟩ : ByteArray)).bind fun t428 => ((fixed_Sum.f k ([] : List (S23))).bind fun bt430 => ((bagatellelaw01_text.f bt430.1 bt430.2 (⟨#[48]⟩ : ByteArray)).bind fun t432 => (if t432 = true then ((fixed_Int.f k 1).bind fun bt433 => ((fixed_Int.f k (-3)).bind fun bt435 => ((fixed_Max.f k (([(⟨bt433.1, bt433.2⟩ : S23), (⟨8589934592, true⟩ : S23), (⟨bt435.1, bt435.2⟩ : S23)] : List (S23)))).bind fun bt440 => ((bagatellelaw01_text.f bt440.1 bt440.2 (⟨#[50, 33]⟩ : ByteArray)).bind fun t442 => (if t442 = true then ((fixed_Min.f k ([] : List (S23))).bind fun bt443 => ((bagatellelaw01_text.f bt443.1 bt443.2 (⟨#[48]⟩ : ByteArray)).bind fun t445 => (if t445 = true then ((fixed_Int.f k 5).bind fun bt446 => ((fixed_Int.f k 1).bind fun bt448 => ((fixed_Int.f k 3).bind fun bt450 => ((fixed_Clamp.f k bt446.1 bt446.2 bt448.1 bt448.2 bt450.1 bt450.2).bind fun bt452 => ((bagatellelaw01_text.f bt452.1 bt452.2 (⟨#[51]⟩ : ByteArray)).bind fun t454 => (if t454 = true then ((fixed_Int.f k 5).bind fun bt455 => ((fixed_Int.f k 3).bind fun bt457 => ((fixed_Int.f k 1).bind fun bt459 => ((fixed_Clamp.f k bt455.1 bt455.2 bt457.1 bt457.2 bt459.1 bt459.2).bind fun bt461 => ((bagatellelaw01_text.f bt461.1 bt461.2 (⟨#[51]⟩ : ByteArray)).bind fun t463 => ((fixed_Neg.f 2147483648 false).bind fun bt464 => ((fixed_Floor.f bt464.1 bt464.2).bind fun t466 => (if t466 = (-1) then ((fixed_Neg.f 2147483648 false).bind fun bt467 => ((fixed_Round.f bt467.1 bt467.2).bind fun t469 => (if t469 = 0 then ((fixed_Round.f 2147483648 false).bind fun t470 => (if t470 = 1 then ((fixed_Ratio.f k 5 4).bind fun bt471 => ((fixed_Round.f bt471.1 bt471.2).bind fun t473 => ((fixed_Order.f k 2 3 6 1).bind fun t474 => (if t474 = 0 then ((fixed_Order.f k (-2) 3 1 1).bind fun t475 => (if t475 = (-1) then ((fixed_Order.f k 9223372036854775807 9223372036854775807 (-9223372036854775808) (-9223372036854775808)).bind fun t476 => ((fixed_Wrap.f 13493037705 false).bind fun bt477 => (if (bt477.1 == (-13493037704) && (!bt477.2)) = true then ((fixed_Sin.f k 0 false).bind fun bt479 => ((bagatellelaw01_text.f bt479.1 bt479.2 (⟨#[48]⟩ : ByteArray)).bind fun t481 => ((fixed_Parse.f k (⟨#[48, 46, 53]⟩ : ByteArray)).bind fun bt482 => ((fixed_Parse.f k (⟨#[49, 33]⟩ : ByteArray)).bind fun bt486 => (if (bt482.1 == 2147483648 && (!bt482.2.1)) = true then (if bt482.2.2 = 0 then (if (bt486.1 == 4294967296 && (bt486.2.1)) = true then (if bt486.2.2 = 0 then ((bagatellelaw01_no.f k (⟨#[45, 48]⟩ : ByteArray)).bind fun t490 => (if t490 = true then ((bagatellelaw01_no.f k (⟨#[46, 53]⟩ : ByteArray)).bind fun t491 => (if t491 = true then ((bagatellelaw01_no.f k (⟨#[48, 46, 53, 48]⟩ : ByteArray)).bind fun t492 => (if t380 = true then (if t391 = true then (if (bt411.1 == (-1431655765) && (!bt411.2)) = true then (if t428 = true then (if t463 = true then (if t473 = 1 then (if t476 = (-1) then (if t481 = true then (some t492) else (none)) else (none)) else (none)) else (none)) else (none)) else (none)) else (none)) else (none))) else (none))) else (none))) else (none)) else (none)) else (none)) else (none)))))) else (none)))) else (none))) else (none))))) else (none))) else (none)))) else (none))))))))) else (none))))))) else (none)))) else (none)))))) else (none)))))))) else (none))))) else (none))))))) else (none)))))) else (none)))))))) else (none)))) else (none)))) else (none)))) else (none))) else (none)))) else (none)))
def bagatellelaw01_FixedKnown.T5 : Bool × List (List Nat × List Nat) := (true, [([], []), ([], []), ([1, 0], [1]), ([0, 2, 2], [0, 2]), ([3, 3], [3]), ([4, 4], [4]), ([5, 5], [5]), ([6, 5], [5]), ([6, 7, 7, 5], [5, 6, 7]), ([8, 8, 5], [5, 8]), ([5, 9], [5, 9]), ([10, 9], [10]), ([11, 11], [11]), ([12, 11], [11]), ([12, 13, 13, 11], [11, 12, 13]), ([11], [11]), ([14, 15, 11], [11, 14, 15]), ([11, 16], [11, 16]), ([17, 14, 0, 1, 2, 3, 4, 5, 6, 7, 8, 9, 10, 11, 12, 13, 14, 15, 16, 17], [17])])
def bagatellelaw01_FixedKnown.B5 : List Nat := [0, 0, 3, 7, 15, 31, 63, 127, 255, 511, 1023, 2047, 4095, 8191, 16383, 4095, 65535, 131071, 262143]
theorem bagatellelaw01_FixedKnown.tab5 : rtab .any (opsOf Try.f7 5) = bagatellelaw01_FixedKnown.T5 := by kernel_rfl
theorem bagatellelaw01_FixedKnown.bits5 : waitsOk bagatellelaw01_FixedKnown.T5.2 bagatellelaw01_FixedKnown.B5 = true := by kernel_rfl
def bagatellelaw01_FixedKnown.T8 : Bool × List (List Nat × List Nat) := (true, [([], []), ([0, 0], [0]), ([1, 1], [1]), ([2, 2], [2]), ([2], [2]), ([3, 2], [2]), ([3, 4, 5, 2], [2, 3, 4, 5]), ([6, 5, 2], [2, 6]), ([7, 7, 2], [2, 7]), ([2, 8], [2, 8]), ([9, 8], [9]), ([10, 10], [10]), ([11, 11, 10], [10, 11]), ([10, 12], [10, 12]), ([13, 12], [13]), ([14, 14], [14]), ([15, 14], [14]), ([16, 14], [14]), ([15, 16, 17, 17, 14], [14, 15, 16, 17]), ([18, 18, 14], [14, 18]), ([14, 19], [14, 19]), ([20, 19], [20]), ([21, 21], [21]), ([22, 21], [21]), ([23, 21], [21]), ([22, 23, 24, 24, 21], [21, 22, 23, 24]), ([25, 25, 21], [21, 25]), ([21, 26], [21, 26]), ([27, 26, 0, 1, 2, 3, 4, 5, 6, 7, 8, 9, 10, 11, 12, 13, 14, 15, 16, 17, 18, 19, 20, 21, 22, 23, 24, 25, 26, 27], [27])])
def bagatellelaw01_FixedKnown.B8 : List Nat := [0, 1, 3, 7, 7, 15, 63, 127, 255, 511, 1023, 2047, 4095, 8191, 16383, 32767, 65535, 131071, 262143, 524287, 1048575, 2097151, 4194303, 8388607, 16777215, 33554431, 67108863, 134217727, 268435455]
theorem bagatellelaw01_FixedKnown.tab8 : rtab .any (opsOf Try.f7 8) = bagatellelaw01_FixedKnown.T8 := by kernel_rfl
theorem bagatellelaw01_FixedKnown.bits8 : waitsOk bagatellelaw01_FixedKnown.T8.2 bagatellelaw01_FixedKnown.B8 = true := by kernel_rfl
set_option maxHeartbeats 8000000 in
set_option maxRecDepth 100000 in
theorem bagatellelaw01_FixedKnown.calls (k : Nat)  (r : Bool) (w : World) (h : bagatellelaw01_FixedKnown.f k  = some r) :
    Calls Try.prog 7 #[] w fun e w' => e = .returned (.bool r) ∧ Below w.heap.size w w' := by
  have hu23 := Try.underlying23
  have HB := Aside0.mk (Below.refl w.heap.size w)
  have H : ((fixed_Int.f k 3).bind fun bt372 => ((bagatellelaw01_text.f bt372.1 bt372.2 (⟨#[51]⟩ : ByteArray)).bind fun t374 => (if t374 = true then ((fixed_Int.f k 2147483648).bind fun bt375 => ((bagatellelaw01_text.f bt375.1 bt375.2 (⟨#[50, 49, 52, 55, 52, 56, 51, 54, 52, 55, 46, 57, 57, 57, 57, 57, 57, 57, 57, 57, 55, 54, 55, 49, 54, 57, 51, 53, 54, 51, 52, 54, 49, 51, 48, 51, 55, 49, 48, 57, 51, 55, 53, 33]⟩ : ByteArray)).bind fun t377 => (if t377 = true then ((fixed_Int.f k (-2147483648)).bind fun bt378 => (if 1 + 44 ≤ 9223372036854775807 then ((bagatellelaw01_text.f bt378.1 bt378.2 ((⟨#[45]⟩ : ByteArray) ++ (⟨#[50, 49, 52, 55, 52, 56, 51, 54, 52, 55, 46, 57, 57, 57, 57, 57, 57, 57, 57, 57, 55, 54, 55, 49, 54, 57, 51, 53, 54, 51, 52, 54, 49, 51, 48, 51, 55, 49, 48, 57, 51, 55, 53, 33]⟩ : ByteArray))).bind fun t380 => ((fixed_Ratio.f k 1 3).bind fun bt381 => (if (bt381.1 == 1431655765 && (!bt381.2)) = true then ((fixed_Ratio.f k (-1) 2).bind fun bt383 => ((bagatellelaw01_text.f bt383.1 bt383.2 (⟨#[45, 48, 46, 53]⟩ : ByteArray)).bind fun t385 => (if t385 = true then ((fixed_Ratio.f k 5 0).bind fun bt386 => ((bagatellelaw01_text.f bt386.1 bt386.2 (⟨#[50, 49, 52, 55, 52, 56, 51, 54, 52, 55, 46, 57, 57, 57, 57, 57, 57, 57, 57, 57, 55, 54, 55, 49, 54, 57, 51, 53, 54, 51, 52, 54, 49, 51, 48, 51, 55, 49, 48, 57, 51, 55, 53, 33]⟩ : ByteArray)).bind fun t388 => (if t388 = true then ((fixed_Ratio.f k 0 0).bind fun bt389 => ((bagatellelaw01_text.f bt389.1 bt389.2 (⟨#[48, 33]⟩ : ByteArray)).bind fun t391 => ((fixed_Ratio.f k 3 2).bind fun bt393 => ((fixed_Neg.f 2147483648 false).bind fun bt395 => ((fixed_Mul.f k bt393.1 bt393.2 bt395.1 bt395.2).bind fun bt397 => ((bagatellelaw01_text.f bt397.1 bt397.2 (⟨#[45, 48, 46, 55, 53]⟩ : ByteArray)).bind fun t399 => (if t399 = true then ((fixed_Int.f k 1).bind fun bt400 => ((fixed_Int.f k (-4)).bind fun bt402 => ((fixed_Div.f k bt400.1 bt400.2 bt402.1 bt402.2).bind fun bt404 => ((bagatellelaw01_text.f bt404.1 bt404.2 (⟨#[45, 48, 46, 50, 53]⟩ : ByteArray)).bind fun t406 => (if t406 = true then ((fixed_Int.f k (-1)).bind fun bt407 => ((fixed_Int.f k 3).bind fun bt409 => ((fixed_Div.f k bt407.1 bt407.2 bt409.1 bt409.2).bind fun bt411 => ((fixed_Int.f k 2).bind fun bt413 => ((fixed_Sqrt.f k bt413.1 bt413.2).bind fun bt415 => (if (bt415.1 == 6074000999 && (!bt415.2)) = true then ((fixed_Int.f k (-1)).bind fun bt417 => ((fixed_Sqrt.f k bt417.1 bt417.2).bind fun bt419 => ((bagatellelaw01_text.f bt419.1 bt419.2 (⟨#[48, 33]⟩ : ByteArray)).bind fun t421 => (if t421 = true then ((fixed_Int.f k 3).bind fun bt422 => ((fixed_Int.f k (-4)).bind fun bt424 => ((fixed_Hypot.f k bt422.1 bt422.2 bt424.1 bt424.2).bind fun bt426 => ((bagatellelaw01_text.f bt426.1 bt426.2 (⟨#[53]⟩ : ByteArray)).bind fun t428 => ((fixed_Sum.f k ([] : List (S23))).bind fun bt430 => ((bagatellelaw01_text.f bt430.1 bt430.2 (⟨#[48]⟩ : ByteArray)).bind fun t432 => (if t432 = true then ((fixed_Int.f k 1).bind fun bt433 => ((fixed_Int.f k (-3)).bind fun bt435 => ((fixed_Max.f k (([(⟨bt433.1, bt433.2⟩ : S23), (⟨8589934592, true⟩ : S23), (⟨bt435.1, bt435.2⟩ : S23)] : List (S23)))).bind fun bt440 => ((bagatellelaw01_text.f bt440.1 bt440.2 (⟨#[50, 33]⟩ : ByteArray)).bind fun t442 => (if t442 = true then ((fixed_Min.f k ([] : List (S23))).bind fun bt443 => ((bagatellelaw01_text.f bt443.1 bt443.2 (⟨#[48]⟩ : ByteArray)).bind fun t445 => (if t445 = true then ((fixed_Int.f k 5).bind fun bt446 => ((fixed_Int.f k 1).bind fun bt448 => ((fixed_Int.f k 3).bind fun bt450 => ((fixed_Clamp.f k bt446.1 bt446.2 bt448.1 bt448.2 bt450.1 bt450.2).bind fun bt452 => ((bagatellelaw01_text.f bt452.1 bt452.2 (⟨#[51]⟩ : ByteArray)).bind fun t454 => (if t454 = true then ((fixed_Int.f k 5).bind fun bt455 => ((fixed_Int.f k 3).bind fun bt457 => ((fixed_Int.f k 1).bind fun bt459 => ((fixed_Clamp.f k bt455.1 bt455.2 bt457.1 bt457.2 bt459.1 bt459.2).bind fun bt461 => ((bagatellelaw01_text.f bt461.1 bt461.2 (⟨#[51]⟩ : ByteArray)).bind fun t463 => ((fixed_Neg.f 2147483648 false).bind fun bt464 => ((fixed_Floor.f bt464.1 bt464.2).bind fun t466 => (if t466 = (-1) then ((fixed_Neg.f 2147483648 false).bind fun bt467 => ((fixed_Round.f bt467.1 bt467.2).bind fun t469 => (if t469 = 0 then ((fixed_Round.f 2147483648 false).bind fun t470 => (if t470 = 1 then ((fixed_Ratio.f k 5 4).bind fun bt471 => ((fixed_Round.f bt471.1 bt471.2).bind fun t473 => ((fixed_Order.f k 2 3 6 1).bind fun t474 => (if t474 = 0 then ((fixed_Order.f k (-2) 3 1 1).bind fun t475 => (if t475 = (-1) then ((fixed_Order.f k 9223372036854775807 9223372036854775807 (-9223372036854775808) (-9223372036854775808)).bind fun t476 => ((fixed_Wrap.f 13493037705 false).bind fun bt477 => (if (bt477.1 == (-13493037704) && (!bt477.2)) = true then ((fixed_Sin.f k 0 false).bind fun bt479 => ((bagatellelaw01_text.f bt479.1 bt479.2 (⟨#[48]⟩ : ByteArray)).bind fun t481 => ((fixed_Parse.f k (⟨#[48, 46, 53]⟩ : ByteArray)).bind fun bt482 => ((fixed_Parse.f k (⟨#[49, 33]⟩ : ByteArray)).bind fun bt486 => (if (bt482.1 == 2147483648 && (!bt482.2.1)) = true then (if bt482.2.2 = 0 then (if (bt486.1 == 4294967296 && (bt486.2.1)) = true then (if bt486.2.2 = 0 then ((bagatellelaw01_no.f k (⟨#[45, 48]⟩ : ByteArray)).bind fun t490 => (if t490 = true then ((bagatellelaw01_no.f k (⟨#[46, 53]⟩ : ByteArray)).bind fun t491 => (if t491 = true then ((bagatellelaw01_no.f k (⟨#[48, 46, 53, 48]⟩ : ByteArray)).bind fun t492 => (if t380 = true then (if t391 = true then (if (bt411.1 == (-1431655765) && (!bt411.2)) = true then (if t428 = true then (if t463 = true then (if t473 = 1 then (if t476 = (-1) then (if t481 = true then (some t492) else (none)) else (none)) else (none)) else (none)) else (none)) else (none)) else (none)) else (none))) else (none))) else (none))) else (none)) else (none)) else (none)) else (none)))))) else (none)))) else (none))) else (none))))) else (none))) else (none)))) else (none))))))))) else (none))))))) else (none)))) else (none)))))) else (none)))))))) else (none))))) else (none))))))) else (none)))))) else (none)))))))) else (none)))) else (none)))) else (none)))) else (none))) else (none)))) else (none)))) = some r := h
  clear h
  obtain ⟨⟨t372, t373⟩, A10, H⟩ := Option.bind_eq_some_iff.mp H
  (try dsimp only at H)
  have A1 := Aside0.mk A10
  clear A10
  obtain ⟨t374, A20, H⟩ := Option.bind_eq_some_iff.mp H
  (try dsimp only at H)
  have A2 := Aside0.mk A20
  clear A20
  by_cases c3 : t374 = true
  rotate_left
  · rw [if_neg c3] at H; exact absurd H (by simp)
  subst c3
  rw [if_pos rfl] at H
  obtain ⟨⟨t375, t376⟩, A40, H⟩ := Option.bind_eq_some_iff.mp H
  (try dsimp only at H)
  have A4 := Aside0.mk A40
  clear A40
  obtain ⟨t377, A50, H⟩ := Option.bind_eq_some_iff.mp H
  (try dsimp only at H)
  have A5 := Aside0.mk A50
  clear A50
  by_cases c6 : t377 = true
  rotate_left
  · rw [if_neg c6] at H; exact absurd H (by simp)
  subst c6
  rw [if_pos rfl] at H
  obtain ⟨⟨t378, t379⟩, A70, H⟩ := Option.bind_eq_some_iff.mp H
  (try dsimp only at H)
  have A7 := Aside0.mk A70
  clear A70
  by_cases c8 : 1 + 44 ≤ 9223372036854775807
  rotate_left
  · rw [if_neg c8] at H; exact absurd H (by simp)
  rw [if_pos c8] at H
  have c8b0 := eq_true c8
  have c8b1 : decide (1 + 44 ≤ 9223372036854775807) = true := decide_eq_true c8
  try have c8b2 : (9223372036854775807 < 1 + 44) = False := eq_false (Nat.not_lt.2 c8)
  obtain ⟨t380, A90, H⟩ := Option.bind_eq_some_iff.mp H
  (try dsimp only at H)
  have A9 := Aside0.mk A90
  clear A90
  obtain ⟨⟨t381, t382⟩, A100, H⟩ := Option.bind_eq_some_iff.mp H
  (try dsimp only at H)
  have A10 := Aside0.mk A100
  clear A100
  by_cases c11 : (t381 == 1431655765 && (!t382)) = true
  rotate_left
  · rw [if_neg c11] at H; exact absurd H (by simp)
  rw [if_pos c11] at H
  have c11b0 : (t381 == 1431655765 && (!t382)) = true := c11
  (try (have c11b1 : decide (t381 = 1431655765 && (!t382)) = true := by simpa using c11))
  (try (have c11b2 : (t381 == 1431655765 && (!t382)) = true := by simpa using c11))
  clear c11
  obtain ⟨⟨t383, t384⟩, A120, H⟩ := Option.bind_eq_some_iff.mp H
  (try dsimp only at H)
  have A12 := Aside0.mk A120
  clear A120
  obtain ⟨t385, A130, H⟩ := Option.bind_eq_some_iff.mp H
  (try dsimp only at H)
  have A13 := Aside0.mk A130
  clear A130
  by_cases c14 : t385 = true
  rotate_left
  · rw [if_neg c14] at H; exact absurd H (by simp)
  subst c14
  rw [if_pos rfl] at H
  obtain ⟨⟨t386, t387⟩, A150, H⟩ := Option.bind_eq_some_iff.mp H
  (try dsimp only at H)
  have A15 := Aside0.mk A150
  clear A150
  obtain ⟨t388, A160, H⟩ := Option.bind_eq_some_iff.mp H
  (try dsimp only at H)
  have A16 := Aside0.mk A160
  clear A160
  by_cases c17 : t388 = true
  rotate_left
  · rw [if_neg c17] at H; exact absurd H (by simp)
  subst c17
  rw [if_pos rfl] at H
  obtain ⟨⟨t389, t390⟩, A180, H⟩ := Option.bind_eq_some_iff.mp H
  (try dsimp only at H)
  have A18 := Aside0.mk A180
  clear A180
  obtain ⟨t391, A190, H⟩ := Option.bind_eq_some_iff.mp H
  (try dsimp only at H)
  have A19 := Aside0.mk A190
  clear A190
  obtain ⟨⟨t393, t394⟩, A200, H⟩ := Option.bind_eq_some_iff.mp H
  (try dsimp only at H)
  have A20 := Aside0.mk A200
  clear A200
  obtain ⟨⟨t395, t396⟩, A210, H⟩ := Option.bind_eq_some_iff.mp H
  (try dsimp only at H)
  have A21 := Aside0.mk A210
  clear A210
  obtain ⟨⟨t397, t398⟩, A220, H⟩ := Option.bind_eq_some_iff.mp H
  (try dsimp only at H)
  have A22 := Aside0.mk A220
  clear A220
  obtain ⟨t399, A230, H⟩ := Option.bind_eq_some_iff.mp H
  (try dsimp only at H)
  have A23 := Aside0.mk A230
  clear A230
  by_cases c24 : t399 = true
  rotate_left
  · rw [if_neg c24] at H; exact absurd H (by simp)
  subst c24
  rw [if_pos rfl] at H
  obtain ⟨⟨t400, t401⟩, A250, H⟩ := Option.bind_eq_some_iff.mp H
  (try dsimp only at H)
  have A25 := Aside0.mk A250
  clear A250
  obtain ⟨⟨t402, t403⟩, A260, H⟩ := Option.bind_eq_some_iff.mp H
  (try dsimp only at H)
  have A26 := Aside0.mk A260
  clear A260
  obtain ⟨⟨t404, t405⟩, A270, H⟩ := Option.bind_eq_some_iff.mp H
  (try dsimp only at H)
  have A27 := Aside0.mk A270
  clear A270
  obtain ⟨t406, A280, H⟩ := Option.bind_eq_some_iff.mp H
  (try dsimp only at H)
  have A28 := Aside0.mk A280
  clear A280
  by_cases c29 : t406 = true
  rotate_left
  · rw [if_neg c29] at H; exact absurd H (by simp)
  subst c29
  rw [if_pos rfl] at H
  obtain ⟨⟨t407, t408⟩, A300, H⟩ := Option.bind_eq_some_iff.mp H
  (try dsimp only at H)
  have A30 := Aside0.mk A300
  clear A300
  obtain ⟨⟨t409, t410⟩, A310, H⟩ := Option.bind_eq_some_iff.mp H
  (try dsimp only at H)
  have A31 := Aside0.mk A310
  clear A310
  obtain ⟨⟨t411, t412⟩, A320, H⟩ := Option.bind_eq_some_iff.mp H
  (try dsimp only at H)
  have A32 := Aside0.mk A320
  clear A320
  obtain ⟨⟨t413, t414⟩, A330, H⟩ := Option.bind_eq_some_iff.mp H
  (try dsimp only at H)
  have A33 := Aside0.mk A330
  clear A330
  obtain ⟨⟨t415, t416⟩, A340, H⟩ := Option.bind_eq_some_iff.mp H
  (try dsimp only at H)
  have A34 := Aside0.mk A340
  clear A340
  by_cases c35 : (t415 == 6074000999 && (!t416)) = true
  rotate_left
  · rw [if_neg c35] at H; exact absurd H (by simp)
  rw [if_pos c35] at H
  have c35b0 : (t415 == 6074000999 && (!t416)) = true := c35
  (try (have c35b1 : decide (t415 = 6074000999 && (!t416)) = true := by simpa using c35))
  (try (have c35b2 : (t415 == 6074000999 && (!t416)) = true := by simpa using c35))
  clear c35
  obtain ⟨⟨t417, t418⟩, A360, H⟩ := Option.bind_eq_some_iff.mp H
  (try dsimp only at H)
  have A36 := Aside0.mk A360
  clear A360
  obtain ⟨⟨t419, t420⟩, A370, H⟩ := Option.bind_eq_some_iff.mp H
  (try dsimp only at H)
  have A37 := Aside0.mk A370
  clear A370
  obtain ⟨t421, A380, H⟩ := Option.bind_eq_some_iff.mp H
  (try dsimp only at H)
  have A38 := Aside0.mk A380
  clear A380
  by_cases c39 : t421 = true
  rotate_left
  · rw [if_neg c39] at H; exact absurd H (by simp)
  subst c39
  rw [if_pos rfl] at H
  obtain ⟨⟨t422, t423⟩, A400, H⟩ := Option.bind_eq_some_iff.mp H
  (try dsimp only at H)
  have A40 := Aside0.mk A400
  clear A400
  obtain ⟨⟨t424, t425⟩, A410, H⟩ := Option.bind_eq_some_iff.mp H
  (try dsimp only at H)
  have A41 := Aside0.mk A410
  clear A410
  obtain ⟨⟨t426, t427⟩, A420, H⟩ := Option.bind_eq_some_iff.mp H
  (try dsimp only at H)
  have A42 := Aside0.mk A420
  clear A420
  obtain ⟨t428, A430, H⟩ := Option.bind_eq_some_iff.mp H
  (try dsimp only at H)
  have A43 := Aside0.mk A430
  clear A430
  obtain ⟨⟨t430, t431⟩, A440, H⟩ := Option.bind_eq_some_iff.mp H
  (try dsimp only at H)
  have A44 := Aside0.mk A440
  clear A440
  obtain ⟨t432, A450, H⟩ := Option.bind_eq_some_iff.mp H
  (try dsimp only at H)
  have A45 := Aside0.mk A450
  clear A450
  by_cases c46 : t432 = true
  rotate_left
  · rw [if_neg c46] at H; exact absurd H (by simp)
  subst c46
  rw [if_pos rfl] at H
  obtain ⟨⟨t433, t434⟩, A470, H⟩ := Option.bind_eq_some_iff.mp H
  (try dsimp only at H)
  have A47 := Aside0.mk A470
  clear A470
  obtain ⟨⟨t435, t436⟩, A480, H⟩ := Option.bind_eq_some_iff.mp H
  (try dsimp only at H)
  have A48 := Aside0.mk A480
  clear A480
  obtain ⟨y437, hy437⟩ : ∃ y_ : List (S23), y_ = (([(⟨t433, t434⟩ : S23), (⟨8589934592, true⟩ : S23), (⟨t435, t436⟩ : S23)] : List (S23))) := ⟨_, rfl⟩
  replace H : ((fixed_Max.f k y437).bind fun bt440 => ((bagatellelaw01_text.f bt440.1 bt440.2 (⟨#[50, 33]⟩ : ByteArray)).bind fun t442 => (if t442 = true then ((fixed_Min.f k ([] : List (S23))).bind fun bt443 => ((bagatellelaw01_text.f bt443.1 bt443.2 (⟨#[48]⟩ : ByteArray)).bind fun t445 => (if t445 = true then ((fixed_Int.f k 5).bind fun bt446 => ((fixed_Int.f k 1).bind fun bt448 => ((fixed_Int.f k 3).bind fun bt450 => ((fixed_Clamp.f k bt446.1 bt446.2 bt448.1 bt448.2 bt450.1 bt450.2).bind fun bt452 => ((bagatellelaw01_text.f bt452.1 bt452.2 (⟨#[51]⟩ : ByteArray)).bind fun t454 => (if t454 = true then ((fixed_Int.f k 5).bind fun bt455 => ((fixed_Int.f k 3).bind fun bt457 => ((fixed_Int.f k 1).bind fun bt459 => ((fixed_Clamp.f k bt455.1 bt455.2 bt457.1 bt457.2 bt459.1 bt459.2).bind fun bt461 => ((bagatellelaw01_text.f bt461.1 bt461.2 (⟨#[51]⟩ : ByteArray)).bind fun t463 => ((fixed_Neg.f 2147483648 false).bind fun bt464 => ((fixed_Floor.f bt464.1 bt464.2).bind fun t466 => (if t466 = (-1) then ((fixed_Neg.f 2147483648 false).bind fun bt467 => ((fixed_Round.f bt467.1 bt467.2).bind fun t469 => (if t469 = 0 then ((fixed_Round.f 2147483648 false).bind fun t470 => (if t470 = 1 then ((fixed_Ratio.f k 5 4).bind fun bt471 => ((fixed_Round.f bt471.1 bt471.2).bind fun t473 => ((fixed_Order.f k 2 3 6 1).bind fun t474 => (if t474 = 0 then ((fixed_Order.f k (-2) 3 1 1).bind fun t475 => (if t475 = (-1) then ((fixed_Order.f k 9223372036854775807 9223372036854775807 (-9223372036854775808) (-9223372036854775808)).bind fun t476 => ((fixed_Wrap.f 13493037705 false).bind fun bt477 => (if (bt477.1 == (-13493037704) && (!bt477.2)) = true then ((fixed_Sin.f k 0 false).bind fun bt479 => ((bagatellelaw01_text.f bt479.1 bt479.2 (⟨#[48]⟩ : ByteArray)).bind fun t481 => ((fixed_Parse.f k (⟨#[48, 46, 53]⟩ : ByteArray)).bind fun bt482 => ((fixed_Parse.f k (⟨#[49, 33]⟩ : ByteArray)).bind fun bt486 => (if (bt482.1 == 2147483648 && (!bt482.2.1)) = true then (if bt482.2.2 = 0 then (if (bt486.1 == 4294967296 && (bt486.2.1)) = true then (if bt486.2.2 = 0 then ((bagatellelaw01_no.f k (⟨#[45, 48]⟩ : ByteArray)).bind fun t490 => (if t490 = true then ((bagatellelaw01_no.f k (⟨#[46, 53]⟩ : ByteArray)).bind fun t491 => (if t491 = true then ((bagatellelaw01_no.f k (⟨#[48, 46, 53, 48]⟩ : ByteArray)).bind fun t492 => (if t380 = true then (if t391 = true then (if (t411 == (-1431655765) && (!t412)) = true then (if t428 = true then (if t463 = true then (if t473 = 1 then (if t476 = (-1) then (if t481 = true then (some t492) else (none)) else (none)) else (none)) else (none)) else (none)) else (none)) else (none)) else (none))) else (none))) else (none))) else (none)) else (none)) else (none)) else (none)))))) else (none)))) else (none))) else (none))))) else (none))) else (none)))) else (none))))))))) else (none))))))) else (none)))) else (none)))) = some r := by first | (rw [hy437]; with_reducible exact H) | (have H2_ := (Option.bind_some _ _).symm.trans H; rw [hy437]; with_reducible exact H2_) | (have H2_ := (Option.bind_some _ _).symm.trans H; with_reducible exact H2_) | with_reducible exact H | (rw [hy437]; exact H) | exact H
  have Ny437 := Aside0.mk hy437
  clear hy437
  obtain ⟨⟨t440, t441⟩, A490, H⟩ := Option.bind_eq_some_iff.mp H
  (try dsimp only at H)
  have A49 := Aside0.mk A490
  clear A490
  obtain ⟨t442, A500, H⟩ := Option.bind_eq_some_iff.mp H
  (try dsimp only at H)
  have A50 := Aside0.mk A500
  clear A500
  by_cases c51 : t442 = true
  rotate_left
  · rw [if_neg c51] at H; exact absurd H (by simp)
  subst c51
  rw [if_pos rfl] at H
  obtain ⟨⟨t443, t444⟩, A520, H⟩ := Option.bind_eq_some_iff.mp H
  (try dsimp only at H)
  have A52 := Aside0.mk A520
  clear A520
  obtain ⟨t445, A530, H⟩ := Option.bind_eq_some_iff.mp H
  (try dsimp only at H)
  have A53 := Aside0.mk A530
  clear A530
  by_cases c54 : t445 = true
  rotate_left
  · rw [if_neg c54] at H; exact absurd H (by simp)
  subst c54
  rw [if_pos rfl] at H
  obtain ⟨⟨t446, t447⟩, A550, H⟩ := Option.bind_eq_some_iff.mp H
  (try dsimp only at H)
  have A55 := Aside0.mk A550
  clear A550
  obtain ⟨⟨t448, t449⟩, A560, H⟩ := Option.bind_eq_some_iff.mp H
  (try dsimp only at H)
  have A56 := Aside0.mk A560
  clear A560
  obtain ⟨⟨t450, t451⟩, A570, H⟩ := Option.bind_eq_some_iff.mp H
  (try dsimp only at H)
  have A57 := Aside0.mk A570
  clear A570
  obtain ⟨⟨t452, t453⟩, A580, H⟩ := Option.bind_eq_some_iff.mp H
  (try dsimp only at H)
  have A58 := Aside0.mk A580
  clear A580
  obtain ⟨t454, A590, H⟩ := Option.bind_eq_some_iff.mp H
  (try dsimp only at H)
  have A59 := Aside0.mk A590
  clear A590
  by_cases c60 : t454 = true
  rotate_left
  · rw [if_neg c60] at H; exact absurd H (by simp)
  subst c60
  rw [if_pos rfl] at H
  obtain ⟨⟨t455, t456⟩, A610, H⟩ := Option.bind_eq_some_iff.mp H
  (try dsimp only at H)
  have A61 := Aside0.mk A610
  clear A610
  obtain ⟨⟨t457, t458⟩, A620, H⟩ := Option.bind_eq_some_iff.mp H
  (try dsimp only at H)
  have A62 := Aside0.mk A620
  clear A620
  obtain ⟨⟨t459, t460⟩, A630, H⟩ := Option.bind_eq_some_iff.mp H
  (try dsimp only at H)
  have A63 := Aside0.mk A630
  clear A630
  obtain ⟨⟨t461, t462⟩, A640, H⟩ := Option.bind_eq_some_iff.mp H
  (try dsimp only at H)
  have A64 := Aside0.mk A640
  clear A640
  obtain ⟨t463, A650, H⟩ := Option.bind_eq_some_iff.mp H
  (try dsimp only at H)
  have A65 := Aside0.mk A650
  clear A650
  obtain ⟨⟨t464, t465⟩, A660, H⟩ := Option.bind_eq_some_iff.mp H
  (try dsimp only at H)
  have A66 := Aside0.mk A660
  clear A660
  obtain ⟨t466, A670, H⟩ := Option.bind_eq_some_iff.mp H
  (try dsimp only at H)
  have A67 := Aside0.mk A670
  clear A670
  by_cases c68 : t466 = (-1)
  rotate_left
  · rw [if_neg c68] at H; exact absurd H (by simp)
  rw [if_pos c68] at H
  have c68b0 : (t466 == (-1)) = true := beq_iff_eq.mpr c68
  have c68b1 : (t466 != (-1)) = false := bne_eq_false_iff_eq.mpr c68
  clear c68
  obtain ⟨⟨t467, t468⟩, A690, H⟩ := Option.bind_eq_some_iff.mp H
  (try dsimp only at H)
  have A69 := Aside0.mk A690
  clear A690
  obtain ⟨t469, A700, H⟩ := Option.bind_eq_some_iff.mp H
  (try dsimp only at H)
  have A70 := Aside0.mk A700
  clear A700
  by_cases c71 : t469 = 0
  rotate_left
  · rw [if_neg c71] at H; exact absurd H (by simp)
  rw [if_pos c71] at H
  have c71b0 : (t469 == 0) = true := beq_iff_eq.mpr c71
  have c71b1 : (t469 != 0) = false := bne_eq_false_iff_eq.mpr c71
  clear c71
  obtain ⟨t470, A720, H⟩ := Option.bind_eq_some_iff.mp H
  (try dsimp only at H)
  have A72 := Aside0.mk A720
  clear A720
  by_cases c73 : t470 = 1
  rotate_left
  · rw [if_neg c73] at H; exact absurd H (by simp)
  rw [if_pos c73] at H
  have c73b0 : (t470 == 1) = true := beq_iff_eq.mpr c73
  have c73b1 : (t470 != 1) = false := bne_eq_false_iff_eq.mpr c73
  clear c73
  obtain ⟨⟨t471, t472⟩, A740, H⟩ := Option.bind_eq_some_iff.mp H
  (try dsimp only at H)
  have A74 := Aside0.mk A740
  clear A740
  obtain ⟨t473, A750, H⟩ := Option.bind_eq_some_iff.mp H
  (try dsimp only at H)
  have A75 := Aside0.mk A750
  clear A750
  obtain ⟨t474, A760, H⟩ := Option.bind_eq_some_iff.mp H
  (try dsimp only at H)
  have A76 := Aside0.mk A760
  clear A760
  by_cases c77 : t474 = 0
  rotate_left
  · rw [if_neg c77] at H; exact absurd H (by simp)
  rw [if_pos c77] at H
  have c77b0 : (t474 == 0) = true := beq_iff_eq.mpr c77
  have c77b1 : (t474 != 0) = false := bne_eq_false_iff_eq.mpr c77
  clear c77
  obtain ⟨t475, A780, H⟩ := Option.bind_eq_some_iff.mp H
  (try dsimp only at H)
  have A78 := Aside0.mk A780
  clear A780
  by_cases c79 : t475 = (-1)
  rotate_left
  · rw [if_neg c79] at H; exact absurd H (by simp)
  rw [if_pos c79] at H
  have c79b0 : (t475 == (-1)) = true := beq_iff_eq.mpr c79
  have c79b1 : (t475 != (-1)) = false := bne_eq_false_iff_eq.mpr c79
  clear c79
  obtain ⟨t476, A800, H⟩ := Option.bind_eq_some_iff.mp H
  (try dsimp only at H)
  have A80 := Aside0.mk A800
  clear A800
  obtain ⟨⟨t477, t478⟩, A810, H⟩ := Option.bind_eq_some_iff.mp H
  (try dsimp only at H)
  have A81 := Aside0.mk A810
  clear A810
  by_cases c82 : (t477 == (-13493037704) && (!t478)) = true
  rotate_left
  · rw [if_neg c82] at H; exact absurd H (by simp)
  rw [if_pos c82] at H
  have c82b0 : (t477 == (-13493037704) && (!t478)) = true := c82
  (try (have c82b1 : decide (t477 = (-13493037704) && (!t478)) = true := by simpa using c82))
  (try (have c82b2 : (t477 == (-13493037704) && (!t478)) = true := by simpa using c82))
  clear c82
  obtain ⟨⟨t479, t480⟩, A830, H⟩ := Option.bind_eq_some_iff.mp H
  (try dsimp only at H)
  have A83 := Aside0.mk A830
  clear A830
  obtain ⟨t481, A840, H⟩ := Option.bind_eq_some_iff.mp H
  (try dsimp only at H)
  have A84 := Aside0.mk A840
  clear A840
  obtain ⟨⟨t482, t483, t484⟩, A850, H⟩ := Option.bind_eq_some_iff.mp H
  (try dsimp only at H)
  have A85 := Aside0.mk A850
  clear A850
  obtain ⟨⟨t486, t487, t488⟩, A860, H⟩ := Option.bind_eq_some_iff.mp H
  (try dsimp only at H)
  have A86 := Aside0.mk A860
  clear A860
  by_cases c87 : (t482 == 2147483648 && (!t483)) = true
  rotate_left
  · rw [if_neg c87] at H; exact absurd H (by simp)
  rw [if_pos c87] at H
  have c87b0 : (t482 == 2147483648 && (!t483)) = true := c87
  (try (have c87b1 : decide (t482 = 2147483648 && (!t483)) = true := by simpa using c87))
  (try (have c87b2 : (t482 == 2147483648 && (!t483)) = true := by simpa using c87))
  clear c87
  by_cases c88 : t484 = 0
  rotate_left
  · rw [if_neg c88] at H; exact absurd H (by simp)
  rw [if_pos c88] at H
  have c88b0 : (t484 == 0) = true := beq_iff_eq.mpr c88
  have c88b1 : (t484 != 0) = false := bne_eq_false_iff_eq.mpr c88
  clear c88
  by_cases c89 : (t486 == 4294967296 && (t487)) = true
  rotate_left
  · rw [if_neg c89] at H; exact absurd H (by simp)
  rw [if_pos c89] at H
  have c89b0 : (t486 == 4294967296 && (t487)) = true := c89
  (try (have c89b1 : decide (t486 = 4294967296 && (t487)) = true := by simpa using c89))
  (try (have c89b2 : (t486 == 4294967296 && (t487)) = true := by simpa using c89))
  clear c89
  by_cases c90 : t488 = 0
  rotate_left
  · rw [if_neg c90] at H; exact absurd H (by simp)
  rw [if_pos c90] at H
  have c90b0 : (t488 == 0) = true := beq_iff_eq.mpr c90
  have c90b1 : (t488 != 0) = false := bne_eq_false_iff_eq.mpr c90
  clear c90
  obtain ⟨t490, A910, H⟩ := Option.bind_eq_some_iff.mp H
  (try dsimp only at H)
  have A91 := Aside0.mk A910
  clear A910
  by_cases c92 : t490 = true
  rotate_left
  · rw [if_neg c92] at H; exact absurd H (by simp)
  subst c92
  rw [if_pos rfl] at H
  obtain ⟨t491, A930, H⟩ := Option.bind_eq_some_iff.mp H
  (try dsimp only at H)
  have A93 := Aside0.mk A930
  clear A930
  by_cases c94 : t491 = true
  rotate_left
  · rw [if_neg c94] at H; exact absurd H (by simp)
  subst c94
  rw [if_pos rfl] at H
  obtain ⟨t492, A950, H⟩ := Option.bind_eq_some_iff.mp H
  (try dsimp only at H)
  have A95 := Aside0.mk A950
  clear A950
  by_cases c96 : t380 = true
  rotate_left
  · rw [if_neg c96] at H; exact absurd H (by simp)
  subst c96
  rw [if_pos rfl] at H
  by_cases c97 : t391 = true
  rotate_left
  · rw [if_neg c97] at H; exact absurd H (by simp)
  subst c97
  rw [if_pos rfl] at H
  by_cases c98 : (t411 == (-1431655765) && (!t412)) = true
  rotate_left
  · rw [if_neg c98] at H; exact absurd H (by simp)
  rw [if_pos c98] at H
  have c98b0 : (t411 == (-1431655765) && (!t412)) = true := c98
  (try (have c98b1 : decide (t411 = (-1431655765) && (!t412)) = true := by simpa using c98))
  (try (have c98b2 : (t411 == (-1431655765) && (!t412)) = true := by simpa using c98))
  clear c98
  by_cases c99 : t428 = true
  rotate_left
  · rw [if_neg c99] at H; exact absurd H (by simp)
  subst c99
  rw [if_pos rfl] at H
  by_cases c100 : t463 = true
  rotate_left
  · rw [if_neg c100] at H; exact absurd H (by simp)
  subst c100
  rw [if_pos rfl] at H
  by_cases c101 : t473 = 1
  rotate_left
  · rw [if_neg c101] at H; exact absurd H (by simp)
  rw [if_pos c101] at H
  have c101b0 : (t473 == 1) = true := beq_iff_eq.mpr c101
  have c101b1 : (t473 != 1) = false := bne_eq_false_iff_eq.mpr c101
  clear c101
  by_cases c102 : t476 = (-1)
  rotate_left
  · rw [if_neg c102] at H; exact absurd H (by simp)
  rw [if_pos c102] at H
  have c102b0 : (t476 == (-1)) = true := beq_iff_eq.mpr c102
  have c102b1 : (t476 != (-1)) = false := bne_eq_false_iff_eq.mpr c102
  clear c102
  by_cases c103 : t481 = true
  rotate_left
  · rw [if_neg c103] at H; exact absurd H (by simp)
  subst c103
  rw [if_pos rfl] at H
  obtain rfl := Option.some.inj H
  go_enter Try.func7, Try.ntmps7
  try go_wp2_with (first | ((with_reducible refine gate_callee (f := 49) rfl ?_); refine goesL_ (some 17) rfl rfl Try.func49 (by kernel_rfl) rfl #[.int .i64 3] rfl (by (try simp only [List.map_toArray, List.map_cons, List.map_nil]); first | done | rfl | (simp only [List.length_drop, List.length_take]; rfl)) ?_; (with_reducible refine (fixed_Int.calls k 3 t372 t373 _ A1.out).mono ?_); rintro e w104 ⟨rfl, hb⟩; refine ⟨_, rfl, ?_⟩; have n0_ := Aside0.mk (below_step (by repeat (first | (with_reducible first | exact HB.out | apply below_alloc | apply pw_below_drewN | apply below_drew1) | exact HB.out)) hb); clear HB; have HB := n0_; clear n0_; (try clear hb); (try clear hb2); (try clear hk); (try clear hi)) | ((with_reducible refine gate_callee (f := 48) rfl ?_); refine goesL_ (some 18) rfl rfl Try.func48 (by kernel_rfl) rfl #[.agg #[.int .i64 t372, .bool t373], .string (⟨#[51]⟩ : ByteArray)] rfl (by (try simp only [List.map_toArray, List.map_cons, List.map_nil]); first | done | rfl | (simp only [List.length_drop, List.length_take]; rfl)) ?_; (with_reducible refine (bagatellelaw01_text.calls t372 t373 (⟨#[51]⟩ : ByteArray) true _ A2.out).mono ?_); rintro e w105 ⟨rfl, hb⟩; refine ⟨_, rfl, ?_⟩; have n0_ := Aside0.mk (below_step (by repeat (first | (with_reducible first | exact HB.out | apply below_alloc | apply pw_below_drewN | apply below_drew1) | exact HB.out)) hb); clear HB; have HB := n0_; clear n0_; (try clear hb); (try clear hb2); (try clear hk); (try clear hi)) | (go_at_call 49; (with_reducible refine (fixed_Int.calls k 2147483648 t375 t376 _ A4.out).mono ?_); rintro e w106 ⟨rfl, hb⟩; have n0_ := Aside0.mk (below_step (by repeat (first | (with_reducible first | exact HB.out | apply below_alloc | apply pw_below_drewN | apply below_drew1) | exact HB.out)) hb); clear HB; have HB := n0_; clear n0_; (try clear hb); (try clear hb2); (try clear hk); (try clear hi)) | (go_at_call 48; (with_reducible refine (bagatellelaw01_text.calls t375 t376 (⟨#[50, 49, 52, 55, 52, 56, 51, 54, 52, 55, 46, 57, 57, 57, 57, 57, 57, 57, 57, 57, 55, 54, 55, 49, 54, 57, 51, 53, 54, 51, 52, 54, 49, 51, 48, 51, 55, 49, 48, 57, 51, 55, 53, 33]⟩ : ByteArray) true _ A5.out).mono ?_); rintro e w107 ⟨rfl, hb⟩; have n0_ := Aside0.mk (below_step (by repeat (first | (with_reducible first | exact HB.out | apply below_alloc | apply pw_below_drewN | apply below_drew1) | exact HB.out)) hb); clear HB; have HB := n0_; clear n0_; (try clear hb); (try clear hb2); (try clear hk); (try clear hi)) | (go_at_call 49; (with_reducible refine (fixed_Int.calls k (-2147483648) t378 t379 _ A7.out).mono ?_); rintro e w108 ⟨rfl, hb⟩; have n0_ := Aside0.mk (below_step (by repeat (first | (with_reducible first | exact HB.out | apply below_alloc | apply pw_below_drewN | apply below_drew1) | exact HB.out)) hb); clear HB; have HB := n0_; clear n0_; (try clear hb); (try clear hb2); (try clear hk); (try clear hi)) | (go_at_call 48; (with_reducible refine (bagatellelaw01_text.calls t378 t379 ((⟨#[45]⟩ : ByteArray) ++ (⟨#[50, 49, 52, 55, 52, 56, 51, 54, 52, 55, 46, 57, 57, 57, 57, 57, 57, 57, 57, 57, 55, 54, 55, 49, 54, 57, 51, 53, 54, 51, 52, 54, 49, 51, 48, 51, 55, 49, 48, 57, 51, 55, 53, 33]⟩ : ByteArray)) true _ A9.out).mono ?_); rintro e w109 ⟨rfl, hb⟩; have n0_ := Aside0.mk (below_step (by repeat (first | (with_reducible first | exact HB.out | apply below_alloc | apply pw_below_drewN | apply below_drew1) | exact HB.out)) hb); clear HB; have HB := n0_; clear n0_; (try clear hb); (try clear hb2); (try clear hk); (try clear hi)) | ((with_reducible refine gate_callee (f := 50) rfl ?_); refine goesL_ (some 30) rfl rfl Try.func50 (by kernel_rfl) rfl #[.int .i64 1, .int .i64 3] rfl (by (try simp only [List.map_toArray, List.map_cons, List.map_nil]); first | done | rfl | (simp only [List.length_drop, List.length_take]; rfl)) ?_; (with_reducible refine (fixed_Ratio.calls k 1 3 t381 t382 _ A10.out).mono ?_); rintro e w110 ⟨rfl, hb⟩; refine ⟨_, rfl, ?_⟩; have n0_ := Aside0.mk (below_step (by repeat (first | (with_reducible first | exact HB.out | apply below_alloc | apply pw_below_drewN | apply below_drew1) | exact HB.out)) hb); clear HB; have HB := n0_; clear n0_; (try clear hb); (try clear hb2); (try clear hk); (try clear hi)) | (go_at_call 50; (with_reducible refine (fixed_Ratio.calls k (-1) 2 t383 t384 _ A12.out).mono ?_); rintro e w111 ⟨rfl, hb⟩; have n0_ := Aside0.mk (below_step (by repeat (first | (with_reducible first | exact HB.out | apply below_alloc | apply pw_below_drewN | apply below_drew1) | exact HB.out)) hb); clear HB; have HB := n0_; clear n0_; (try clear hb); (try clear hb2); (try clear hk); (try clear hi)) | (go_at_call 48; (with_reducible refine (bagatellelaw01_text.calls t383 t384 (⟨#[45, 48, 46, 53]⟩ : ByteArray) true _ A13.out).mono ?_); rintro e w112 ⟨rfl, hb⟩; have n0_ := Aside0.mk (below_step (by repeat (first | (with_reducible first | exact HB.out | apply below_alloc | apply pw_below_drewN | apply below_drew1) | exact HB.out)) hb); clear HB; have HB := n0_; clear n0_; (try clear hb); (try clear hb2); (try clear hk); (try clear hi)) | (go_at_call 50; (with_reducible refine (fixed_Ratio.calls k 5 0 t386 t387 _ A15.out).mono ?_); rintro e w113 ⟨rfl, hb⟩; have n0_ := Aside0.mk (below_step (by repeat (first | (with_reducible first | exact HB.out | apply below_alloc | apply pw_below_drewN | apply below_drew1) | exact HB.out)) hb); clear HB; have HB := n0_; clear n0_; (try clear hb); (try clear hb2); (try clear hk); (try clear hi)) | (go_at_call 48; (with_reducible refine (bagatellelaw01_text.calls t386 t387 (⟨#[50, 49, 52, 55, 52, 56, 51, 54, 52, 55, 46, 57, 57, 57, 57, 57, 57, 57, 57, 57, 55, 54, 55, 49, 54, 57, 51, 53, 54, 51, 52, 54, 49, 51, 48, 51, 55, 49, 48, 57, 51, 55, 53, 33]⟩ : ByteArray) true _ A16.out).mono ?_); rintro e w114 ⟨rfl, hb⟩; have n0_ := Aside0.mk (below_step (by repeat (first | (with_reducible first | exact HB.out | apply below_alloc | apply pw_below_drewN | apply below_drew1) | exact HB.out)) hb); clear HB; have HB := n0_; clear n0_; (try clear hb); (try clear hb2); (try clear hk); (try clear hi)) | (go_at_call 50; (with_reducible refine (fixed_Ratio.calls k 0 0 t389 t390 _ A18.out).mono ?_); rintro e w115 ⟨rfl, hb⟩; have n0_ := Aside0.mk (below_step (by repeat (first | (with_reducible first | exact HB.out | apply below_alloc | apply pw_below_drewN | apply below_drew1) | exact HB.out)) hb); clear HB; have HB := n0_; clear n0_; (try clear hb); (try clear hb2); (try clear hk); (try clear hi)) | (go_at_call 48; (with_reducible refine (bagatellelaw01_text.calls t389 t390 (⟨#[48, 33]⟩ : ByteArray) true _ A19.out).mono ?_); rintro e w116 ⟨rfl, hb⟩; have n0_ := Aside0.mk (below_step (by repeat (first | (with_reducible first | exact HB.out | apply below_alloc | apply pw_below_drewN | apply below_drew1) | exact HB.out)) hb); clear HB; have HB := n0_; clear n0_; (try clear hb); (try clear hb2); (try clear hk); (try clear hi)) | ((with_reducible refine gate_dst (N := 4) rfl ?_); (try (refine gate_guard (by rfl) ?_; dsimp only)); refine box_event ?hg (N := 4) ?hd (cs := #[.int .i64 0, .bool false]) (t := 23) ?hr ?_; (case hd => rfl); (case hg => rfl); (case hr => first | (go_simp; done) | (go_simp; rfl)); intro gb392 hg w117 hbox hb; have n0_ := Aside0.mk (below_step (by repeat (first | (with_reducible first | exact HB.out | apply below_alloc | apply pw_below_drewN | apply below_drew1) | exact HB.out)) hb); have n1_ := Aside0.mk (hbox); have n2_ := Aside0.mk ((by rw [hg]; exact (below_size (by repeat (first | (with_reducible first | exact HB.out | apply below_alloc | apply pw_below_drewN | apply below_drew1) | exact HB.out))) : w.heap.size ≤ gb392)); have n3_ := Aside0.mk ((by rw [hg]; exact (below_size (by repeat (first | (with_reducible first | exact HB.out | apply below_alloc | apply pw_below_drewN | apply below_drew1) | exact HB.out))) : w.heap.size ≤ gb392)); clear HB; have HB := n0_; have BK392 := n1_; have GW392 := n2_; have GE392 := n3_; clear n0_ n1_ n2_ n3_; clear hb hbox hg; have hcz118_0 : w117.cell? ⟨gb392, 0, none⟩ = some (.int .i64 0) := (blk_cell BK392.out 0).trans rfl; have hcz118_1 : w117.cell? ⟨gb392, 1, none⟩ = some (.bool false) := (blk_cell BK392.out 1).trans rfl; have hfz118_0 := blk_frozen BK392.out 0; have hfz118_1 := blk_frozen BK392.out 1))
  have n0_ : Aside0 (((w117.setCell ⟨gb392, 0, none⟩ (.int .i64 2147483648)).setCell ⟨gb392, 1, none⟩ (.bool false)).heap[gb392]? = some (.cells #[.int .i64 2147483648, .bool false] 23 (0, 0))) := ⟨by (with_reducible repeat (first | refine blk_drewN ?_ _ | refine blk_drew ?_ | refine blk_alloc ?_ _)); refine blk_put (cs := #[.int .i64 2147483648, .bool false]) ?_ 1 _ rfl; (with_reducible repeat (first | refine blk_drewN ?_ _ | refine blk_drew ?_ | refine blk_alloc ?_ _)); refine blk_put (cs := #[.int .i64 0, .bool false]) ?_ 0 _ rfl; (with_reducible repeat (first | refine blk_drewN ?_ _ | refine blk_drew ?_ | refine blk_alloc ?_ _)); exact BK392.out⟩
  have n1_ : Aside0 (Below w.heap.size w ((w117.setCell ⟨gb392, 0, none⟩ (.int .i64 2147483648)).setCell ⟨gb392, 1, none⟩ (.bool false))) := ⟨by repeat (first | (with_reducible first | exact HB.out | apply below_alloc | apply pw_below_drewN | apply below_drew1 | refine below_set ?_ GE392.out) | exact HB.out)⟩
  (try clear BK392)
  (try clear HB)
  generalize ((w117.setCell ⟨gb392, 0, none⟩ (.int .i64 2147483648)).setCell ⟨gb392, 1, none⟩ (.bool false)) = w119 at n0_ n1_ ⊢
  have BK392 := n0_
  have HB := n1_
  clear n0_ n1_
  have n0_ := Aside0.mk (blk_drew BK392.out)
  have n1_ := Aside0.mk (below_drew1 HB.out)
  clear BK392
  clear HB
  have BK392 := n0_
  have HB := n1_
  clear n0_ n1_
  refine start_ (n := 19) (S := fun w' => w'.cell? ⟨gb392, 0, none⟩ = some (.int .i64 2147483648) ∧ w'.cell? ⟨gb392, 1, none⟩ = some (.bool false)) (ds := []) #[false, false, false, false, false, false, false, false, false, false, false, false, false, false, false, false, false, false, false] (by kernel_rfl) rfl rfl ⟨(blk_cell BK392.out 0).trans rfl, (blk_cell BK392.out 1).trans rfl⟩ (fun hHeld => ?_); refine with_tabW bagatellelaw01_FixedKnown.tab5 bagatellelaw01_FixedKnown.bits5 (fun HT_ HW_ => ?_)
  generalize w119.drew = w120 at BK392 HB hHeld ⊢
  refine take_ (i := 1) (N := some 48) (v := ?_) (a' := ?_) #[false, true, false, false, false, false, false, false, false, false, false, false, false, false, false, false, false, false, false] rfl rfl (take_ofW HT_.out HW_.out (by kernel_rfl)) (fun _ _ _ h => h) (Or.inl ⟨by rfl, ?_⟩) hHeld ?_ ?_
  rotate_left
  · rintro w' ⟨s0, s1⟩
    go_simp
    with_reducible rfl
  rotate_left
  · simp only [Act.put, List.setIfInBounds_toArray, List.set_cons_zero, List.set_cons_succ, i64_w, i32_w]
    rfl
  refine one_ (i := 0) (N := some 47) #[true, true, false, false, false, false, false, false, false, false, false, false, false, false, false, false, false, false, false] rfl rfl (one_of HT_.out (by kernel_rfl)) (by decide) (fun K hK => ?_)
  refine goes_ Try.func50 (by kernel_rfl) rfl #[.int .i64 3, .int .i64 2] (by rfl) rfl rfl (by (try simp only [List.map_toArray, List.map_cons, List.map_nil]); first | done | rfl | (simp only [List.length_drop, List.length_take]; rfl)) ?_
  with_reducible refine (fixed_Ratio.calls k 3 2 t393 t394 _ A20.out).mono ?_
  rintro e w121 ⟨rfl, hb⟩
  refine ⟨_, rfl, ?_⟩
  have n0_ := Aside0.mk (blk_below (g := gb392) (o := .cells #[.int .i64 2147483648, .bool false] 23 (0, 0)) (by (with_reducible repeat (first | refine blk_drewN ?_ _ | refine blk_drew ?_ | refine blk_alloc ?_ _)); exact BK392.out) hb)
  have n1_ := Aside0.mk (below_step (by repeat (first | (with_reducible first | exact HB.out | apply below_alloc | apply pw_below_drewN | apply below_drew1 | refine below_set ?_ GE392.out) | exact HB.out)) hb)
  clear BK392
  clear HB
  have BK392 := n0_
  have HB := n1_
  clear n0_ n1_
  (try clear hb)
  (try clear hb2)
  (try clear hk)
  (try clear hi)
  refine hK.out _ _ ⟨(blk_cell BK392.out 0).trans rfl, (blk_cell BK392.out 1).trans rfl⟩ (fun hHeld => ?_)
  clear hK K
  refine norm_ (a' := ?_) ?_ ?_
  rotate_left
  · show Act.put _ (some 47) _ = _
    simp only [Act.put, List.setIfInBounds_toArray, List.set_cons_zero, List.set_cons_succ, i64_w, i32_w]
    rfl
  refine one_ (i := 2) (N := some 49) #[true, true, true, false, false, false, false, false, false, false, false, false, false, false, false, false, false, false, false] rfl rfl (one_of HT_.out (by kernel_rfl)) (by decide) (fun K hK => ?_)
  refine goes_ Try.func41 (by kernel_rfl) rfl #[.agg #[.int .i64 2147483648, .bool false]] (by rfl) rfl rfl (by (try simp only [List.map_toArray, List.map_cons, List.map_nil]); first | done | rfl | (simp only [List.length_drop, List.length_take]; rfl)) ?_
  with_reducible refine (fixed_Neg.calls 2147483648 false t395 t396 _ A21.out).mono ?_
  rintro e w122 ⟨rfl, hb⟩
  refine ⟨_, rfl, ?_⟩
  have n0_ := Aside0.mk (blk_below (g := gb392) (o := .cells #[.int .i64 2147483648, .bool false] 23 (0, 0)) (by (with_reducible repeat (first | refine blk_drewN ?_ _ | refine blk_drew ?_ | refine blk_alloc ?_ _)); exact BK392.out) hb)
  have n1_ := Aside0.mk (below_step (by repeat (first | (with_reducible first | exact HB.out | apply below_alloc | apply pw_below_drewN | apply below_drew1 | refine below_set ?_ GE392.out) | exact HB.out)) hb)
  clear BK392
  clear HB
  have BK392 := n0_
  have HB := n1_
  clear n0_ n1_
  (try clear hb)
  (try clear hb2)
  (try clear hk)
  (try clear hi)
  refine hK.out _ _ ⟨(blk_cell BK392.out 0).trans rfl, (blk_cell BK392.out 1).trans rfl⟩ (fun hHeld => ?_)
  clear hK K
  refine norm_ (a' := ?_) ?_ ?_
  rotate_left
  · show Act.put _ (some 49) _ = _
    simp only [Act.put, List.setIfInBounds_toArray, List.set_cons_zero, List.set_cons_succ, i64_w, i32_w]
    rfl
  refine one_ (i := 3) (N := some 50) #[true, true, true, true, false, false, false, false, false, false, false, false, false, false, false, false, false, false, false] rfl rfl (one_of HT_.out (by kernel_rfl)) (by decide) (fun K hK => ?_)
  refine goes_ Try.func39 (by kernel_rfl) rfl #[.agg #[.int .i64 t393, .bool t394], .agg #[.int .i64 t395, .bool t396]] (by rfl) rfl rfl (by (try simp only [List.map_toArray, List.map_cons, List.map_nil]); first | done | rfl | (simp only [List.length_drop, List.length_take]; rfl)) ?_
  with_reducible refine (fixed_Mul.calls k t393 t394 t395 t396 t397 t398 _ A22.out).mono ?_
  rintro e w123 ⟨rfl, hb⟩
  refine ⟨_, rfl, ?_⟩
  have n0_ := Aside0.mk (blk_below (g := gb392) (o := .cells #[.int .i64 2147483648, .bool false] 23 (0, 0)) (by (with_reducible repeat (first | refine blk_drewN ?_ _ | refine blk_drew ?_ | refine blk_alloc ?_ _)); exact BK392.out) hb)
  have n1_ := Aside0.mk (below_step (by repeat (first | (with_reducible first | exact HB.out | apply below_alloc | apply pw_below_drewN | apply below_drew1 | refine below_set ?_ GE392.out) | exact HB.out)) hb)
  clear BK392
  clear HB
  have BK392 := n0_
  have HB := n1_
  clear n0_ n1_
  (try clear hb)
  (try clear hb2)
  (try clear hk)
  (try clear hi)
  refine hK.out _ _ ⟨(blk_cell BK392.out 0).trans rfl, (blk_cell BK392.out 1).trans rfl⟩ (fun hHeld => ?_)
  clear hK K
  refine norm_ (a' := ?_) ?_ ?_
  rotate_left
  · show Act.put _ (some 50) _ = _
    simp only [Act.put, List.setIfInBounds_toArray, List.set_cons_zero, List.set_cons_succ, i64_w, i32_w]
    rfl
  refine one_ (i := 4) (N := some 51) #[true, true, true, true, true, false, false, false, false, false, false, false, false, false, false, false, false, false, false] rfl rfl (one_of HT_.out (by kernel_rfl)) (by decide) (fun K hK => ?_)
  refine goes_ Try.func48 (by kernel_rfl) rfl #[.agg #[.int .i64 t397, .bool t398], .string (⟨#[45, 48, 46, 55, 53]⟩ : ByteArray)] (by rfl) rfl rfl (by (try simp only [List.map_toArray, List.map_cons, List.map_nil]); first | done | rfl | (simp only [List.length_drop, List.length_take]; rfl)) ?_
  with_reducible refine (bagatellelaw01_text.calls t397 t398 (⟨#[45, 48, 46, 55, 53]⟩ : ByteArray) true _ A23.out).mono ?_
  rintro e w124 ⟨rfl, hb⟩
  refine ⟨_, rfl, ?_⟩
  have n0_ := Aside0.mk (blk_below (g := gb392) (o := .cells #[.int .i64 2147483648, .bool false] 23 (0, 0)) (by (with_reducible repeat (first | refine blk_drewN ?_ _ | refine blk_drew ?_ | refine blk_alloc ?_ _)); exact BK392.out) hb)
  have n1_ := Aside0.mk (below_step (by repeat (first | (with_reducible first | exact HB.out | apply below_alloc | apply pw_below_drewN | apply below_drew1 | refine below_set ?_ GE392.out) | exact HB.out)) hb)
  clear BK392
  clear HB
  have BK392 := n0_
  have HB := n1_
  clear n0_ n1_
  (try clear hb)
  (try clear hb2)
  (try clear hk)
  (try clear hi)
  refine hK.out _ _ ⟨(blk_cell BK392.out 0).trans rfl, (blk_cell BK392.out 1).trans rfl⟩ (fun hHeld => ?_)
  clear hK K
  refine norm_ (a' := ?_) ?_ ?_
  rotate_left
  · show Act.put _ (some 51) _ = _
    simp only [Act.put, List.setIfInBounds_toArray, List.set_cons_zero, List.set_cons_succ, i64_w, i32_w]
    rfl
  refine pure_ (i := 5) (N := some 52) (v := ?_) (a' := ?_) #[true, true, true, true, true, true, false, false, false, false, false, false, false, false, false, false, false, false, false] rfl rfl (any_of HT_.out (by kernel_rfl)) (fun _ _ _ h => h) (Or.inl ⟨by rfl, ?_⟩) ?_ ?_
  rotate_left
  · intro w'
    go_simp
    with_reducible rfl
  rotate_left
  · simp only [Act.put, List.setIfInBounds_toArray, List.set_cons_zero, List.set_cons_succ, i64_w, i32_w]
    rfl
  refine one_ (i := 6) (N := some 53) #[true, true, true, true, true, true, true, false, false, false, false, false, false, false, false, false, false, false, false] rfl rfl (one_of HT_.out (by kernel_rfl)) (by decide) (fun K hK => ?_)
  refine goes_ Try.func49 (by kernel_rfl) rfl #[.int .i64 1] (by rfl) rfl rfl (by (try simp only [List.map_toArray, List.map_cons, List.map_nil]); first | done | rfl | (simp only [List.length_drop, List.length_take]; rfl)) ?_
  with_reducible refine (fixed_Int.calls k 1 t400 t401 _ A25.out).mono ?_
  rintro e w125 ⟨rfl, hb⟩
  refine ⟨_, rfl, ?_⟩
  have n0_ := Aside0.mk (blk_below (g := gb392) (o := .cells #[.int .i64 2147483648, .bool false] 23 (0, 0)) (by (with_reducible repeat (first | refine blk_drewN ?_ _ | refine blk_drew ?_ | refine blk_alloc ?_ _)); exact BK392.out) hb)
  have n1_ := Aside0.mk (below_step (by repeat (first | (with_reducible first | exact HB.out | apply below_alloc | apply pw_below_drewN | apply below_drew1 | refine below_set ?_ GE392.out) | exact HB.out)) hb)
  clear BK392
  clear HB
  have BK392 := n0_
  have HB := n1_
  clear n0_ n1_
  (try clear hb)
  (try clear hb2)
  (try clear hk)
  (try clear hi)
  refine hK.out _ _ ⟨(blk_cell BK392.out 0).trans rfl, (blk_cell BK392.out 1).trans rfl⟩ (fun hHeld => ?_)
  clear hK K
  refine norm_ (a' := ?_) ?_ ?_
  rotate_left
  · show Act.put _ (some 53) _ = _
    simp only [Act.put, List.setIfInBounds_toArray, List.set_cons_zero, List.set_cons_succ, i64_w, i32_w]
    rfl
  refine one_ (i := 7) (N := some 54) #[true, true, true, true, true, true, true, true, false, false, false, false, false, false, false, false, false, false, false] rfl rfl (one_of HT_.out (by kernel_rfl)) (by decide) (fun K hK => ?_)
  refine goes_ Try.func49 (by kernel_rfl) rfl #[.int .i64 (-4)] (by rfl) rfl rfl (by (try simp only [List.map_toArray, List.map_cons, List.map_nil]); first | done | rfl | (simp only [List.length_drop, List.length_take]; rfl)) ?_
  with_reducible refine (fixed_Int.calls k (-4) t402 t403 _ A26.out).mono ?_
  rintro e w126 ⟨rfl, hb⟩
  refine ⟨_, rfl, ?_⟩
  have n0_ := Aside0.mk (blk_below (g := gb392) (o := .cells #[.int .i64 2147483648, .bool false] 23 (0, 0)) (by (with_reducible repeat (first | refine blk_drewN ?_ _ | refine blk_drew ?_ | refine blk_alloc ?_ _)); exact BK392.out) hb)
  have n1_ := Aside0.mk (below_step (by repeat (first | (with_reducible first | exact HB.out | apply below_alloc | apply pw_below_drewN | apply below_drew1 | refine below_set ?_ GE392.out) | exact HB.out)) hb)
  clear BK392
  clear HB
  have BK392 := n0_
  have HB := n1_
  clear n0_ n1_
  (try clear hb)
  (try clear hb2)
  (try clear hk)
  (try clear hi)
  refine hK.out _ _ ⟨(blk_cell BK392.out 0).trans rfl, (blk_cell BK392.out 1).trans rfl⟩ (fun hHeld => ?_)
  clear hK K
  refine norm_ (a' := ?_) ?_ ?_
  rotate_left
  · show Act.put _ (some 54) _ = _
    simp only [Act.put, List.setIfInBounds_toArray, List.set_cons_zero, List.set_cons_succ, i64_w, i32_w]
    rfl
  refine one_ (i := 8) (N := some 55) #[true, true, true, true, true, true, true, true, true, false, false, false, false, false, false, false, false, false, false] rfl rfl (one_of HT_.out (by kernel_rfl)) (by decide) (fun K hK => ?_)
  refine goes_ Try.func40 (by kernel_rfl) rfl #[.agg #[.int .i64 t400, .bool t401], .agg #[.int .i64 t402, .bool t403]] (by rfl) rfl rfl (by (try simp only [List.map_toArray, List.map_cons, List.map_nil]); first | done | rfl | (simp only [List.length_drop, List.length_take]; rfl)) ?_
  with_reducible refine (fixed_Div.calls k t400 t401 t402 t403 t404 t405 _ A27.out).mono ?_
  rintro e w127 ⟨rfl, hb⟩
  refine ⟨_, rfl, ?_⟩
  have n0_ := Aside0.mk (blk_below (g := gb392) (o := .cells #[.int .i64 2147483648, .bool false] 23 (0, 0)) (by (with_reducible repeat (first | refine blk_drewN ?_ _ | refine blk_drew ?_ | refine blk_alloc ?_ _)); exact BK392.out) hb)
  have n1_ := Aside0.mk (below_step (by repeat (first | (with_reducible first | exact HB.out | apply below_alloc | apply pw_below_drewN | apply below_drew1 | refine below_set ?_ GE392.out) | exact HB.out)) hb)
  clear BK392
  clear HB
  have BK392 := n0_
  have HB := n1_
  clear n0_ n1_
  (try clear hb)
  (try clear hb2)
  (try clear hk)
  (try clear hi)
  refine hK.out _ _ ⟨(blk_cell BK392.out 0).trans rfl, (blk_cell BK392.out 1).trans rfl⟩ (fun hHeld => ?_)
  clear hK K
  refine norm_ (a' := ?_) ?_ ?_
  rotate_left
  · show Act.put _ (some 55) _ = _
    simp only [Act.put, List.setIfInBounds_toArray, List.set_cons_zero, List.set_cons_succ, i64_w, i32_w]
    rfl
  refine one_ (i := 9) (N := some 56) #[true, true, true, true, true, true, true, true, true, true, false, false, false, false, false, false, false, false, false] rfl rfl (one_of HT_.out (by kernel_rfl)) (by decide) (fun K hK => ?_)
  refine goes_ Try.func48 (by kernel_rfl) rfl #[.agg #[.int .i64 t404, .bool t405], .string (⟨#[45, 48, 46, 50, 53]⟩ : ByteArray)] (by rfl) rfl rfl (by (try simp only [List.map_toArray, List.map_cons, List.map_nil]); first | done | rfl | (simp only [List.length_drop, List.length_take]; rfl)) ?_
  with_reducible refine (bagatellelaw01_text.calls t404 t405 (⟨#[45, 48, 46, 50, 53]⟩ : ByteArray) true _ A28.out).mono ?_
  rintro e w128 ⟨rfl, hb⟩
  refine ⟨_, rfl, ?_⟩
  have n0_ := Aside0.mk (blk_below (g := gb392) (o := .cells #[.int .i64 2147483648, .bool false] 23 (0, 0)) (by (with_reducible repeat (first | refine blk_drewN ?_ _ | refine blk_drew ?_ | refine blk_alloc ?_ _)); exact BK392.out) hb)
  have n1_ := Aside0.mk (below_step (by repeat (first | (with_reducible first | exact HB.out | apply below_alloc | apply pw_below_drewN | apply below_drew1 | refine below_set ?_ GE392.out) | exact HB.out)) hb)
  clear BK392
  clear HB
  have BK392 := n0_
  have HB := n1_
  clear n0_ n1_
  (try clear hb)
  (try clear hb2)
  (try clear hk)
  (try clear hi)
  refine hK.out _ _ ⟨(blk_cell BK392.out 0).trans rfl, (blk_cell BK392.out 1).trans rfl⟩ (fun hHeld => ?_)
  clear hK K
  refine norm_ (a' := ?_) ?_ ?_
  rotate_left
  · show Act.put _ (some 56) _ = _
    simp only [Act.put, List.setIfInBounds_toArray, List.set_cons_zero, List.set_cons_succ, i64_w, i32_w]
    rfl
  refine pure_ (i := 10) (N := some 57) (v := ?_) (a' := ?_) #[true, true, true, true, true, true, true, true, true, true, true, false, false, false, false, false, false, false, false] rfl rfl (any_of HT_.out (by kernel_rfl)) (fun _ _ _ h => h) (Or.inl ⟨by rfl, ?_⟩) ?_ ?_
  rotate_left
  · intro w'
    go_simp
    with_reducible rfl
  rotate_left
  · simp only [Act.put, List.setIfInBounds_toArray, List.set_cons_zero, List.set_cons_succ, i64_w, i32_w]
    rfl
  refine pure_ (i := 11) (N := some 58) (v := ?_) (a' := ?_) #[true, true, true, true, true, true, true, true, true, true, true, true, false, false, false, false, false, false, false] rfl rfl (any_of HT_.out (by kernel_rfl)) (fun _ _ _ h => h) (Or.inl ⟨by rfl, ?_⟩) ?_ ?_
  rotate_left
  · intro w'
    go_simp
    with_reducible rfl
  rotate_left
  · simp only [Act.put, List.setIfInBounds_toArray, List.set_cons_zero, List.set_cons_succ, i64_w, i32_w]
    rfl
  refine pure_ (i := 15) (N := some 62) (v := ?_) (a' := ?_) #[true, true, true, true, true, true, true, true, true, true, true, true, false, false, false, true, false, false, false] rfl rfl (any_of HT_.out (by kernel_rfl)) (fun _ _ _ h => h) (Or.inl ⟨by rfl, ?_⟩) ?_ ?_
  rotate_left
  · intro w'
    go_simp
    with_reducible rfl
  rotate_left
  · simp only [Act.put, List.setIfInBounds_toArray, List.set_cons_zero, List.set_cons_succ, i64_w, i32_w]
    rfl
  refine one_ (i := 12) (N := some 59) #[true, true, true, true, true, true, true, true, true, true, true, true, true, false, false, true, false, false, false] rfl rfl (one_of HT_.out (by kernel_rfl)) (by decide) (fun K hK => ?_)
  refine goes_ Try.func49 (by kernel_rfl) rfl #[.int .i64 (-1)] (by rfl) rfl rfl (by (try simp only [List.map_toArray, List.map_cons, List.map_nil]); first | done | rfl | (simp only [List.length_drop, List.length_take]; rfl)) ?_
  with_reducible refine (fixed_Int.calls k (-1) t407 t408 _ A30.out).mono ?_
  rintro e w129 ⟨rfl, hb⟩
  refine ⟨_, rfl, ?_⟩
  have n0_ := Aside0.mk (blk_below (g := gb392) (o := .cells #[.int .i64 2147483648, .bool false] 23 (0, 0)) (by (with_reducible repeat (first | refine blk_drewN ?_ _ | refine blk_drew ?_ | refine blk_alloc ?_ _)); exact BK392.out) hb)
  have n1_ := Aside0.mk (below_step (by repeat (first | (with_reducible first | exact HB.out | apply below_alloc | apply pw_below_drewN | apply below_drew1 | refine below_set ?_ GE392.out) | exact HB.out)) hb)
  clear BK392
  clear HB
  have BK392 := n0_
  have HB := n1_
  clear n0_ n1_
  (try clear hb)
  (try clear hb2)
  (try clear hk)
  (try clear hi)
  refine hK.out _ _ ⟨(blk_cell BK392.out 0).trans rfl, (blk_cell BK392.out 1).trans rfl⟩ (fun hHeld => ?_)
  clear hK K
  refine norm_ (a' := ?_) ?_ ?_
  rotate_left
  · show Act.put _ (some 59) _ = _
    simp only [Act.put, List.setIfInBounds_toArray, List.set_cons_zero, List.set_cons_succ, i64_w, i32_w]
    rfl
  refine one_ (i := 13) (N := some 60) #[true, true, true, true, true, true, true, true, true, true, true, true, true, true, false, true, false, false, false] rfl rfl (one_of HT_.out (by kernel_rfl)) (by decide) (fun K hK => ?_)
  refine goes_ Try.func49 (by kernel_rfl) rfl #[.int .i64 3] (by rfl) rfl rfl (by (try simp only [List.map_toArray, List.map_cons, List.map_nil]); first | done | rfl | (simp only [List.length_drop, List.length_take]; rfl)) ?_
  with_reducible refine (fixed_Int.calls k 3 t409 t410 _ A31.out).mono ?_
  rintro e w130 ⟨rfl, hb⟩
  refine ⟨_, rfl, ?_⟩
  have n0_ := Aside0.mk (blk_below (g := gb392) (o := .cells #[.int .i64 2147483648, .bool false] 23 (0, 0)) (by (with_reducible repeat (first | refine blk_drewN ?_ _ | refine blk_drew ?_ | refine blk_alloc ?_ _)); exact BK392.out) hb)
  have n1_ := Aside0.mk (below_step (by repeat (first | (with_reducible first | exact HB.out | apply below_alloc | apply pw_below_drewN | apply below_drew1 | refine below_set ?_ GE392.out) | exact HB.out)) hb)
  clear BK392
  clear HB
  have BK392 := n0_
  have HB := n1_
  clear n0_ n1_
  (try clear hb)
  (try clear hb2)
  (try clear hk)
  (try clear hi)
  refine hK.out _ _ ⟨(blk_cell BK392.out 0).trans rfl, (blk_cell BK392.out 1).trans rfl⟩ (fun hHeld => ?_)
  clear hK K
  refine norm_ (a' := ?_) ?_ ?_
  rotate_left
  · show Act.put _ (some 60) _ = _
    simp only [Act.put, List.setIfInBounds_toArray, List.set_cons_zero, List.set_cons_succ, i64_w, i32_w]
    rfl
  refine one_ (i := 14) (N := some 61) #[true, true, true, true, true, true, true, true, true, true, true, true, true, true, true, true, false, false, false] rfl rfl (one_of HT_.out (by kernel_rfl)) (by decide) (fun K hK => ?_)
  refine goes_ Try.func40 (by kernel_rfl) rfl #[.agg #[.int .i64 t407, .bool t408], .agg #[.int .i64 t409, .bool t410]] (by rfl) rfl rfl (by (try simp only [List.map_toArray, List.map_cons, List.map_nil]); first | done | rfl | (simp only [List.length_drop, List.length_take]; rfl)) ?_
  with_reducible refine (fixed_Div.calls k t407 t408 t409 t410 t411 t412 _ A32.out).mono ?_
  rintro e w131 ⟨rfl, hb⟩
  refine ⟨_, rfl, ?_⟩
  have n0_ := Aside0.mk (blk_below (g := gb392) (o := .cells #[.int .i64 2147483648, .bool false] 23 (0, 0)) (by (with_reducible repeat (first | refine blk_drewN ?_ _ | refine blk_drew ?_ | refine blk_alloc ?_ _)); exact BK392.out) hb)
  have n1_ := Aside0.mk (below_step (by repeat (first | (with_reducible first | exact HB.out | apply below_alloc | apply pw_below_drewN | apply below_drew1 | refine below_set ?_ GE392.out) | exact HB.out)) hb)
  clear BK392
  clear HB
  have BK392 := n0_
  have HB := n1_
  clear n0_ n1_
  (try clear hb)
  (try clear hb2)
  (try clear hk)
  (try clear hi)
  refine hK.out _ _ ⟨(blk_cell BK392.out 0).trans rfl, (blk_cell BK392.out 1).trans rfl⟩ (fun hHeld => ?_)
  clear hK K
  refine norm_ (a' := ?_) ?_ ?_
  rotate_left
  · show Act.put _ (some 61) _ = _
    simp only [Act.put, List.setIfInBounds_toArray, List.set_cons_zero, List.set_cons_succ, i64_w, i32_w]
    rfl
  refine pure_ (i := 16) (N := some 63) (v := ?_) (a' := ?_) #[true, true, true, true, true, true, true, true, true, true, true, true, true, true, true, true, true, false, false] rfl rfl (any_of HT_.out (by kernel_rfl)) (fun _ _ _ h => h) (Or.inl ⟨by rfl, ?_⟩) ?_ ?_
  rotate_left
  · intro w'
    go_simp
    with_reducible rfl
  rotate_left
  · simp only [Act.put, List.setIfInBounds_toArray, List.set_cons_zero, List.set_cons_succ, i64_w, i32_w]
    rfl
  refine pure_ (i := 17) (N := some 64) (v := ?_) (a' := ?_) #[true, true, true, true, true, true, true, true, true, true, true, true, true, true, true, true, true, true, false] rfl rfl (any_of HT_.out (by kernel_rfl)) (fun _ _ _ h => h) (Or.inl ⟨by rfl, ?_⟩) ?_ ?_
  rotate_left
  · intro w'
    go_simp
    with_reducible rfl
  rotate_left
  · simp only [Act.put, List.setIfInBounds_toArray, List.set_cons_zero, List.set_cons_succ, i64_w, i32_w]
    rfl
  refine pure_ (i := 18) (N := some 5) (v := ?_) (a' := ?_) #[true, true, true, true, true, true, true, true, true, true, true, true, true, true, true, true, true, true, true] rfl rfl (any_of HT_.out (by kernel_rfl)) (fun _ _ _ h => h) (Or.inl ⟨by rfl, ?_⟩) ?_ ?_
  rotate_left
  · intro w'
    go_simp
    with_reducible rfl
  rotate_left
  · simp only [Act.put, List.setIfInBounds_toArray, List.set_cons_zero, List.set_cons_succ, i64_w, i32_w]
    rfl
  refine done_ (done_of HT_.out (by kernel_rfl)) ?_
  try go_wp2_with (first | ((with_reducible refine gate_callee (f := 49) rfl ?_); refine goesL_ (some 65) rfl rfl Try.func49 (by kernel_rfl) rfl #[.int .i64 2] rfl (by (try simp only [List.map_toArray, List.map_cons, List.map_nil]); first | done | rfl | (simp only [List.length_drop, List.length_take]; rfl)) ?_; (with_reducible refine (fixed_Int.calls k 2 t413 t414 _ A33.out).mono ?_); rintro e w132 ⟨rfl, hb⟩; refine ⟨_, rfl, ?_⟩; have n0_ := Aside0.mk (blk_below (g := gb392) (o := .cells #[.int .i64 2147483648, .bool false] 23 (0, 0)) (by (with_reducible repeat (first | refine blk_drewN ?_ _ | refine blk_drew ?_ | refine blk_alloc ?_ _)); exact BK392.out) hb); have n1_ := Aside0.mk (below_step (by repeat (first | (with_reducible first | exact HB.out | apply below_alloc | apply pw_below_drewN | apply below_drew1 | refine below_set ?_ GE392.out) | exact HB.out)) hb); clear BK392; clear HB; have BK392 := n0_; have HB := n1_; clear n0_ n1_; (try clear hb); (try clear hb2); (try clear hk); (try clear hi)) | ((with_reducible refine gate_callee (f := 42) rfl ?_); refine goesL_ (some 66) rfl rfl Try.func42 (by kernel_rfl) rfl #[.agg #[.int .i64 t413, .bool t414]] rfl (by (try simp only [List.map_toArray, List.map_cons, List.map_nil]); first | done | rfl | (simp only [List.length_drop, List.length_take]; rfl)) ?_; (with_reducible refine (fixed_Sqrt.calls k t413 t414 t415 t416 _ A34.out).mono ?_); rintro e w133 ⟨rfl, hb⟩; refine ⟨_, rfl, ?_⟩; have n0_ := Aside0.mk (blk_below (g := gb392) (o := .cells #[.int .i64 2147483648, .bool false] 23 (0, 0)) (by (with_reducible repeat (first | refine blk_drewN ?_ _ | refine blk_drew ?_ | refine blk_alloc ?_ _)); exact BK392.out) hb); have n1_ := Aside0.mk (below_step (by repeat (first | (with_reducible first | exact HB.out | apply below_alloc | apply pw_below_drewN | apply below_drew1 | refine below_set ?_ GE392.out) | exact HB.out)) hb); clear BK392; clear HB; have BK392 := n0_; have HB := n1_; clear n0_ n1_; (try clear hb); (try clear hb2); (try clear hk); (try clear hi)) | (go_at_call 49; (with_reducible refine (fixed_Int.calls k (-1) t417 t418 _ A36.out).mono ?_); rintro e w134 ⟨rfl, hb⟩; have n0_ := Aside0.mk (blk_below (g := gb392) (o := .cells #[.int .i64 2147483648, .bool false] 23 (0, 0)) (by (with_reducible repeat (first | refine blk_drewN ?_ _ | refine blk_drew ?_ | refine blk_alloc ?_ _)); exact BK392.out) hb); have n1_ := Aside0.mk (below_step (by repeat (first | (with_reducible first | exact HB.out | apply below_alloc | apply pw_below_drewN | apply below_drew1 | refine below_set ?_ GE392.out) | exact HB.out)) hb); clear BK392; clear HB; have BK392 := n0_; have HB := n1_; clear n0_ n1_; (try clear hb); (try clear hb2); (try clear hk); (try clear hi)) | (go_at_call 42; (with_reducible refine (fixed_Sqrt.calls k t417 t418 t419 t420 _ A37.out).mono ?_); rintro e w135 ⟨rfl, hb⟩; have n0_ := Aside0.mk (blk_below (g := gb392) (o := .cells #[.int .i64 2147483648, .bool false] 23 (0, 0)) (by (with_reducible repeat (first | refine blk_drewN ?_ _ | refine blk_drew ?_ | refine blk_alloc ?_ _)); exact BK392.out) hb); have n1_ := Aside0.mk (below_step (by repeat (first | (with_reducible first | exact HB.out | apply below_alloc | apply pw_below_drewN | apply below_drew1 | refine below_set ?_ GE392.out) | exact HB.out)) hb); clear BK392; clear HB; have BK392 := n0_; have HB := n1_; clear n0_ n1_; (try clear hb); (try clear hb2); (try clear hk); (try clear hi)) | (go_at_call 48; (with_reducible refine (bagatellelaw01_text.calls t419 t420 (⟨#[48, 33]⟩ : ByteArray) true _ A38.out).mono ?_); rintro e w136 ⟨rfl, hb⟩; have n0_ := Aside0.mk (blk_below (g := gb392) (o := .cells #[.int .i64 2147483648, .bool false] 23 (0, 0)) (by (with_reducible repeat (first | refine blk_drewN ?_ _ | refine blk_drew ?_ | refine blk_alloc ?_ _)); exact BK392.out) hb); have n1_ := Aside0.mk (below_step (by repeat (first | (with_reducible first | exact HB.out | apply below_alloc | apply pw_below_drewN | apply below_drew1 | refine below_set ?_ GE392.out) | exact HB.out)) hb); clear BK392; clear HB; have BK392 := n0_; have HB := n1_; clear n0_ n1_; (try clear hb); (try clear hb2); (try clear hk); (try clear hi)) | (go_at_call 49; (with_reducible refine (fixed_Int.calls k 3 t422 t423 _ A40.out).mono ?_); rintro e w137 ⟨rfl, hb⟩; have n0_ := Aside0.mk (blk_below (g := gb392) (o := .cells #[.int .i64 2147483648, .bool false] 23 (0, 0)) (by (with_reducible repeat (first | refine blk_drewN ?_ _ | refine blk_drew ?_ | refine blk_alloc ?_ _)); exact BK392.out) hb); have n1_ := Aside0.mk (below_step (by repeat (first | (with_reducible first | exact HB.out | apply below_alloc | apply pw_below_drewN | apply below_drew1 | refine below_set ?_ GE392.out) | exact HB.out)) hb); clear BK392; clear HB; have BK392 := n0_; have HB := n1_; clear n0_ n1_; (try clear hb); (try clear hb2); (try clear hk); (try clear hi)) | (go_at_call 49; (with_reducible refine (fixed_Int.calls k (-4) t424 t425 _ A41.out).mono ?_); rintro e w138 ⟨rfl, hb⟩; have n0_ := Aside0.mk (blk_below (g := gb392) (o := .cells #[.int .i64 2147483648, .bool false] 23 (0, 0)) (by (with_reducible repeat (first | refine blk_drewN ?_ _ | refine blk_drew ?_ | refine blk_alloc ?_ _)); exact BK392.out) hb); have n1_ := Aside0.mk (below_step (by repeat (first | (with_reducible first | exact HB.out | apply below_alloc | apply pw_below_drewN | apply below_drew1 | refine below_set ?_ GE392.out) | exact HB.out)) hb); clear BK392; clear HB; have BK392 := n0_; have HB := n1_; clear n0_ n1_; (try clear hb); (try clear hb2); (try clear hk); (try clear hi)) | (go_at_call 44; (with_reducible refine (fixed_Hypot.calls k t422 t423 t424 t425 t426 t427 _ A42.out).mono ?_); rintro e w139 ⟨rfl, hb⟩; have n0_ := Aside0.mk (blk_below (g := gb392) (o := .cells #[.int .i64 2147483648, .bool false] 23 (0, 0)) (by (with_reducible repeat (first | refine blk_drewN ?_ _ | refine blk_drew ?_ | refine blk_alloc ?_ _)); exact BK392.out) hb); have n1_ := Aside0.mk (below_step (by repeat (first | (with_reducible first | exact HB.out | apply below_alloc | apply pw_below_drewN | apply below_drew1 | refine below_set ?_ GE392.out) | exact HB.out)) hb); clear BK392; clear HB; have BK392 := n0_; have HB := n1_; clear n0_ n1_; (try clear hb); (try clear hb2); (try clear hk); (try clear hi)) | (go_at_call 48; (with_reducible refine (bagatellelaw01_text.calls t426 t427 (⟨#[53]⟩ : ByteArray) true _ A43.out).mono ?_); rintro e w140 ⟨rfl, hb⟩; have n0_ := Aside0.mk (blk_below (g := gb392) (o := .cells #[.int .i64 2147483648, .bool false] 23 (0, 0)) (by (with_reducible repeat (first | refine blk_drewN ?_ _ | refine blk_drew ?_ | refine blk_alloc ?_ _)); exact BK392.out) hb); have n1_ := Aside0.mk (below_step (by repeat (first | (with_reducible first | exact HB.out | apply below_alloc | apply pw_below_drewN | apply below_drew1 | refine below_set ?_ GE392.out) | exact HB.out)) hb); clear BK392; clear HB; have BK392 := n0_; have HB := n1_; clear n0_ n1_; (try clear hb); (try clear hb2); (try clear hk); (try clear hi)) | ((with_reducible refine gate_dst (N := 7) rfl ?_); (try (refine gate_guard (by rfl) ?_; dsimp only)); refine box_event ?hg (N := 7) ?hd (cs := #[.int .i64 0, .bool false]) (t := 23) ?hr ?_; (case hd => rfl); (case hg => rfl); (case hr => first | (go_simp; done) | (go_simp; rfl)); intro gb429 hg w141 hbox hb; have n0_ := Aside0.mk (blk_below (g := gb392) (o := .cells #[.int .i64 2147483648, .bool false] 23 (0, 0)) (by (with_reducible repeat (first | refine blk_drewN ?_ _ | refine blk_drew ?_ | refine blk_alloc ?_ _)); exact BK392.out) hb); have n1_ := Aside0.mk (below_step (by repeat (first | (with_reducible first | exact HB.out | apply below_alloc | apply pw_below_drewN | apply below_drew1 | refine below_set ?_ GE392.out) | exact HB.out)) hb); have n2_ := Aside0.mk (hbox); have n3_ := Aside0.mk ((by rw [hg]; exact (below_size (by repeat (first | (with_reducible first | exact HB.out | apply below_alloc | apply pw_below_drewN | apply below_drew1 | refine below_set ?_ GE392.out) | exact HB.out))) : w.heap.size ≤ gb429)); have n4_ := Aside0.mk ((by rw [hg]; exact (below_size (by repeat (first | (with_reducible first | exact HB.out | apply below_alloc | apply pw_below_drewN | apply below_drew1 | refine below_set ?_ GE392.out) | exact HB.out))) : w.heap.size ≤ gb429)); have n5_ := Aside0.mk ((by rw [hg]; exact Nat.ne_of_lt (blk_lt (g := gb392) (o := .cells #[.int .i64 2147483648, .bool false] 23 (0, 0)) (by (with_reducible repeat (first | refine blk_drewN ?_ _ | refine blk_drew ?_ | refine blk_alloc ?_ _)); exact BK392.out)) : gb392 ≠ gb429)); have n6_ := Aside0.mk ((by rw [hg]; exact Nat.ne_of_gt (blk_lt (g := gb392) (o := .cells #[.int .i64 2147483648, .bool false] 23 (0, 0)) (by (with_reducible repeat (first | refine blk_drewN ?_ _ | refine blk_drew ?_ | refine blk_alloc ?_ _)); exact BK392.out)) : gb429 ≠ gb392)); clear BK392; clear HB; have BK392 := n0_; have HB := n1_; have BK429 := n2_; have GW429 := n3_; have GE429 := n4_; have NB392_429 := n5_; have NB429_392 := n6_; clear n0_ n1_ n2_ n3_ n4_ n5_ n6_; clear hb hbox hg; have hnb142 := NB429_392.out; have hnc142 := NB392_429.out; have hcz143_0 : w141.cell? ⟨gb429, 0, none⟩ = some (.int .i64 0) := (blk_cell BK429.out 0).trans rfl; have hcz143_1 : w141.cell? ⟨gb429, 1, none⟩ = some (.bool false) := (blk_cell BK429.out 1).trans rfl; have hfz143_0 := blk_frozen BK429.out 0; have hfz143_1 := blk_frozen BK429.out 1))
  have n0_ : Aside0 (((w141.setCell ⟨gb429, 0, none⟩ (.int .i64 8589934592)).setCell ⟨gb429, 1, none⟩ (.bool true)).heap[gb392]? = some (.cells #[.int .i64 2147483648, .bool false] 23 (0, 0))) := ⟨by (with_reducible repeat (first | refine blk_drewN ?_ _ | refine blk_drew ?_ | refine blk_alloc ?_ _)); refine blk_far ?_ NB392_429.out _; (with_reducible repeat (first | refine blk_drewN ?_ _ | refine blk_drew ?_ | refine blk_alloc ?_ _)); refine blk_far ?_ NB392_429.out _; (with_reducible repeat (first | refine blk_drewN ?_ _ | refine blk_drew ?_ | refine blk_alloc ?_ _)); exact BK392.out⟩
  have n1_ : Aside0 (((w141.setCell ⟨gb429, 0, none⟩ (.int .i64 8589934592)).setCell ⟨gb429, 1, none⟩ (.bool true)).heap[gb429]? = some (.cells #[.int .i64 8589934592, .bool true] 23 (0, 0))) := ⟨by (with_reducible repeat (first | refine blk_drewN ?_ _ | refine blk_drew ?_ | refine blk_alloc ?_ _)); refine blk_put (cs := #[.int .i64 8589934592, .bool false]) ?_ 1 _ rfl; (with_reducible repeat (first | refine blk_drewN ?_ _ | refine blk_drew ?_ | refine blk_alloc ?_ _)); refine blk_put (cs := #[.int .i64 0, .bool false]) ?_ 0 _ rfl; (with_reducible repeat (first | refine blk_drewN ?_ _ | refine blk_drew ?_ | refine blk_alloc ?_ _)); exact BK429.out⟩
  have n2_ : Aside0 (Below w.heap.size w ((w141.setCell ⟨gb429, 0, none⟩ (.int .i64 8589934592)).setCell ⟨gb429, 1, none⟩ (.bool true))) := ⟨by repeat (first | (with_reducible first | exact HB.out | apply below_alloc | apply pw_below_drewN | apply below_drew1 | refine below_set ?_ GE392.out | refine below_set ?_ GE429.out) | exact HB.out)⟩
  (try clear BK392)
  (try clear BK429)
  (try clear HB)
  generalize ((w141.setCell ⟨gb429, 0, none⟩ (.int .i64 8589934592)).setCell ⟨gb429, 1, none⟩ (.bool true)) = w144 at n0_ n1_ n2_ ⊢
  have BK392 := n0_
  have BK429 := n1_
  have HB := n2_
  clear n0_ n1_ n2_
  have n0_ := Aside0.mk (blk_drew BK392.out)
  have n1_ := Aside0.mk (blk_drew BK429.out)
  have n2_ := Aside0.mk (below_drew1 HB.out)
  clear BK392
  clear BK429
  clear HB
  have BK392 := n0_
  have BK429 := n1_
  have HB := n2_
  clear n0_ n1_ n2_
  refine start_ (n := 29) (S := fun w' => w'.cell? ⟨gb429, 0, none⟩ = some (.int .i64 8589934592) ∧ w'.cell? ⟨gb429, 1, none⟩ = some (.bool true)) (ds := []) #[false, false, false, false, false, false, false, false, false, false, false, false, false, false, false, false, false, false, false, false, false, false, false, false, false, false, false, false, false] (by kernel_rfl) rfl rfl ⟨(blk_cell BK429.out 0).trans rfl, (blk_cell BK429.out 1).trans rfl⟩ (fun hHeld => ?_); refine with_tabW bagatellelaw01_FixedKnown.tab8 bagatellelaw01_FixedKnown.bits8 (fun HT_ HW_ => ?_)
  generalize w144.drew = w145 at BK392 BK429 HB hHeld ⊢
  refine one_ (i := 0) (N := some 81) #[true, false, false, false, false, false, false, false, false, false, false, false, false, false, false, false, false, false, false, false, false, false, false, false, false, false, false, false, false] rfl rfl (one_of HT_.out (by kernel_rfl)) (by decide) (fun K hK => ?_)
  refine goes_ Try.func32 (by kernel_rfl) rfl #[.slice none 0 0] (by rfl) rfl rfl (by (try simp only [List.map_toArray, List.map_cons, List.map_nil]); first | done | rfl | (simp only [List.length_drop, List.length_take]; rfl)) ?_
  refine (fixed_Sum.calls k _ _ ([] : List (S23)) t430 t431 _ ?side1 ?side2 A44.out).mono ?_
  (case side1 => exact Kd.C_nil _ _)
  (case side2 => exact Nat.le_refl _)
  rintro e w146 ⟨rfl, hb⟩
  refine ⟨_, rfl, ?_⟩
  have n0_ := Aside0.mk (blk_below (g := gb392) (o := .cells #[.int .i64 2147483648, .bool false] 23 (0, 0)) (by (with_reducible repeat (first | refine blk_drewN ?_ _ | refine blk_drew ?_ | refine blk_alloc ?_ _)); exact BK392.out) hb)
  have n1_ := Aside0.mk (blk_below (g := gb429) (o := .cells #[.int .i64 8589934592, .bool true] 23 (0, 0)) (by (with_reducible repeat (first | refine blk_drewN ?_ _ | refine blk_drew ?_ | refine blk_alloc ?_ _)); exact BK429.out) hb)
  have n2_ := Aside0.mk (below_step (by repeat (first | (with_reducible first | exact HB.out | apply below_alloc | apply pw_below_drewN | apply below_drew1 | refine below_set ?_ GE392.out | refine below_set ?_ GE429.out) | exact HB.out)) hb)
  clear BK392
  clear BK429
  clear HB
  have BK392 := n0_
  have BK429 := n1_
  have HB := n2_
  clear n0_ n1_ n2_
  (try clear hb)
  (try clear hb2)
  (try clear hk)
  (try clear hi)
  refine hK.out _ _ ⟨(blk_cell BK429.out 0).trans rfl, (blk_cell BK429.out 1).trans rfl⟩ (fun hHeld => ?_)
  clear hK K
  refine norm_ (a' := ?_) ?_ ?_
  rotate_left
  · show Act.put _ (some 81) _ = _
    simp only [Act.put, List.setIfInBounds_toArray, List.set_cons_zero, List.set_cons_succ, i64_w, i32_w]
    rfl
  refine one_ (i := 1) (N := some 82) #[true, true, false, false, false, false, false, false, false, false, false, false, false, false, false, false, false, false, false, false, false, false, false, false, false, false, false, false, false] rfl rfl (one_of HT_.out (by kernel_rfl)) (by decide) (fun K hK => ?_)
  refine goes_ Try.func48 (by kernel_rfl) rfl #[.agg #[.int .i64 t430, .bool t431], .string (⟨#[48]⟩ : ByteArray)] (by rfl) rfl rfl (by (try simp only [List.map_toArray, List.map_cons, List.map_nil]); first | done | rfl | (simp only [List.length_drop, List.length_take]; rfl)) ?_
  with_reducible refine (bagatellelaw01_text.calls t430 t431 (⟨#[48]⟩ : ByteArray) true _ A45.out).mono ?_
  rintro e w147 ⟨rfl, hb⟩
  refine ⟨_, rfl, ?_⟩
  have n0_ := Aside0.mk (blk_below (g := gb392) (o := .cells #[.int .i64 2147483648, .bool false] 23 (0, 0)) (by (with_reducible repeat (first | refine blk_drewN ?_ _ | refine blk_drew ?_ | refine blk_alloc ?_ _)); exact BK392.out) hb)
  have n1_ := Aside0.mk (blk_below (g := gb429) (o := .cells #[.int .i64 8589934592, .bool true] 23 (0, 0)) (by (with_reducible repeat (first | refine blk_drewN ?_ _ | refine blk_drew ?_ | refine blk_alloc ?_ _)); exact BK429.out) hb)
  have n2_ := Aside0.mk (below_step (by repeat (first | (with_reducible first | exact HB.out | apply below_alloc | apply pw_below_drewN | apply below_drew1 | refine below_set ?_ GE392.out | refine below_set ?_ GE429.out) | exact HB.out)) hb)
  clear BK392
  clear BK429
  clear HB
  have BK392 := n0_
  have BK429 := n1_
  have HB := n2_
  clear n0_ n1_ n2_
  (try clear hb)
  (try clear hb2)
  (try clear hk)
  (try clear hi)
  refine hK.out _ _ ⟨(blk_cell BK429.out 0).trans rfl, (blk_cell BK429.out 1).trans rfl⟩ (fun hHeld => ?_)
  clear hK K
  refine norm_ (a' := ?_) ?_ ?_
  rotate_left
  · show Act.put _ (some 82) _ = _
    simp only [Act.put, List.setIfInBounds_toArray, List.set_cons_zero, List.set_cons_succ, i64_w, i32_w]
    rfl
  refine pure_ (i := 2) (N := some 83) (v := ?_) (a' := ?_) #[true, true, true, false, false, false, false, false, false, false, false, false, false, false, false, false, false, false, false, false, false, false, false, false, false, false, false, false, false] rfl rfl (any_of HT_.out (by kernel_rfl)) (fun _ _ _ h => h) (Or.inl ⟨by rfl, ?_⟩) ?_ ?_
  rotate_left
  · intro w'
    go_simp
    with_reducible rfl
  rotate_left
  · simp only [Act.put, List.setIfInBounds_toArray, List.set_cons_zero, List.set_cons_succ, i64_w, i32_w]
    rfl
  refine take_ (i := 4) (N := some 85) (v := ?_) (a' := ?_) #[true, true, true, false, true, false, false, false, false, false, false, false, false, false, false, false, false, false, false, false, false, false, false, false, false, false, false, false, false] rfl rfl (take_ofW HT_.out HW_.out (by kernel_rfl)) (fun _ _ _ h => h) (Or.inl ⟨by rfl, ?_⟩) hHeld ?_ ?_
  rotate_left
  · rintro w' ⟨s0, s1⟩
    go_simp
    with_reducible rfl
  rotate_left
  · simp only [Act.put, List.setIfInBounds_toArray, List.set_cons_zero, List.set_cons_succ, i64_w, i32_w]
    rfl
  refine one_ (i := 3) (N := some 84) #[true, true, true, true, true, false, false, false, false, false, false, false, false, false, false, false, false, false, false, false, false, false, false, false, false, false, false, false, false] rfl rfl (one_of HT_.out (by kernel_rfl)) (by decide) (fun K hK => ?_)
  refine goes_ Try.func49 (by kernel_rfl) rfl #[.int .i64 1] (by rfl) rfl rfl (by (try simp only [List.map_toArray, List.map_cons, List.map_nil]); first | done | rfl | (simp only [List.length_drop, List.length_take]; rfl)) ?_
  with_reducible refine (fixed_Int.calls k 1 t433 t434 _ A47.out).mono ?_
  rintro e w148 ⟨rfl, hb⟩
  refine ⟨_, rfl, ?_⟩
  have n0_ := Aside0.mk (blk_below (g := gb392) (o := .cells #[.int .i64 2147483648, .bool false] 23 (0, 0)) (by (with_reducible repeat (first | refine blk_drewN ?_ _ | refine blk_drew ?_ | refine blk_alloc ?_ _)); exact BK392.out) hb)
  have n1_ := Aside0.mk (blk_below (g := gb429) (o := .cells #[.int .i64 8589934592, .bool true] 23 (0, 0)) (by (with_reducible repeat (first | refine blk_drewN ?_ _ | refine blk_drew ?_ | refine blk_alloc ?_ _)); exact BK429.out) hb)
  have n2_ := Aside0.mk (below_step (by repeat (first | (with_reducible first | exact HB.out | apply below_alloc | apply pw_below_drewN | apply below_drew1 | refine below_set ?_ GE392.out | refine below_set ?_ GE429.out) | exact HB.out)) hb)
  clear BK392
  clear BK429
  clear HB
  have BK392 := n0_
  have BK429 := n1_
  have HB := n2_
  clear n0_ n1_ n2_
  (try clear hb)
  (try clear hb2)
  (try clear hk)
  (try clear hi)
  refine hK.out _ _ ⟨(blk_cell BK429.out 0).trans rfl, (blk_cell BK429.out 1).trans rfl⟩ (fun hHeld => ?_)
  clear hK K
  refine norm_ (a' := ?_) ?_ ?_
  rotate_left
  · show Act.put _ (some 84) _ = _
    simp only [Act.put, List.setIfInBounds_toArray, List.set_cons_zero, List.set_cons_succ, i64_w, i32_w]
    rfl
  refine one_ (i := 5) (N := some 86) #[true, true, true, true, true, true, false, false, false, false, false, false, false, false, false, false, false, false, false, false, false, false, false, false, false, false, false, false, false] rfl rfl (one_of HT_.out (by kernel_rfl)) (by decide) (fun K hK => ?_)
  refine goes_ Try.func49 (by kernel_rfl) rfl #[.int .i64 (-3)] (by rfl) rfl rfl (by (try simp only [List.map_toArray, List.map_cons, List.map_nil]); first | done | rfl | (simp only [List.length_drop, List.length_take]; rfl)) ?_
  with_reducible refine (fixed_Int.calls k (-3) t435 t436 _ A48.out).mono ?_
  rintro e w149 ⟨rfl, hb⟩
  refine ⟨_, rfl, ?_⟩
  have n0_ := Aside0.mk (blk_below (g := gb392) (o := .cells #[.int .i64 2147483648, .bool false] 23 (0, 0)) (by (with_reducible repeat (first | refine blk_drewN ?_ _ | refine blk_drew ?_ | refine blk_alloc ?_ _)); exact BK392.out) hb)
  have n1_ := Aside0.mk (blk_below (g := gb429) (o := .cells #[.int .i64 8589934592, .bool true] 23 (0, 0)) (by (with_reducible repeat (first | refine blk_drewN ?_ _ | refine blk_drew ?_ | refine blk_alloc ?_ _)); exact BK429.out) hb)
  have n2_ := Aside0.mk (below_step (by repeat (first | (with_reducible first | exact HB.out | apply below_alloc | apply pw_below_drewN | apply below_drew1 | refine below_set ?_ GE392.out | refine below_set ?_ GE429.out) | exact HB.out)) hb)
  clear BK392
  clear BK429
  clear HB
  have BK392 := n0_
  have BK429 := n1_
  have HB := n2_
  clear n0_ n1_ n2_
  (try clear hb)
  (try clear hb2)
  (try clear hk)
  (try clear hi)
  refine hK.out _ _ ⟨(blk_cell BK429.out 0).trans rfl, (blk_cell BK429.out 1).trans rfl⟩ (fun hHeld => ?_)
  clear hK K
  refine norm_ (a' := ?_) ?_ ?_
  rotate_left
  · show Act.put _ (some 86) _ = _
    simp only [Act.put, List.setIfInBounds_toArray, List.set_cons_zero, List.set_cons_succ, i64_w, i32_w]
    rfl
  refine one_ (i := 6) (N := some 87) #[true, true, true, true, true, true, true, false, false, false, false, false, false, false, false, false, false, false, false, false, false, false, false, false, false, false, false, false, false] rfl rfl (one_of HT_.out (by kernel_rfl)) (by decide) (fun K hK => ?_)
  refine Kd.R_lit_step k23 _ 23 ?hg (N := 87) ?hd (xs := ([(⟨t433, t434⟩ : S23), (⟨8589934592, true⟩ : S23), (⟨t435, t436⟩ : S23)] : List (S23))) (inner := [.int .i64 t433, .bool t434, .int .i64 8589934592, .bool true, .int .i64 t435, .bool t436]) (ok := fun _ => True) (okp := fun _ => True) ?hr ?hp (fun _ hk => hk) trivial (Below.refl _ _) (Nat.le_refl _) (by simp) ?_; (case hd => rfl); (case hg => rfl); (case hr => first | (go_simp; done) | (go_simp; rfl)); (case hp => exact (Reps.c2 (show Kd.M k23 _ _ _ (⟨t433, t434⟩ : S23) [.int .i64 t433, .bool t434] from (k23_mkM _ _ _ (⟨t433, t434⟩ : S23) )) (Reps.c2 (show Kd.M k23 _ _ _ (⟨8589934592, true⟩ : S23) [.int .i64 8589934592, .bool true] from (k23_mkM _ _ _ (⟨8589934592, true⟩ : S23) )) (Reps.c2 (show Kd.M k23 _ _ _ (⟨t435, t436⟩ : S23) [.int .i64 t435, .bool t436] from (k23_mkM _ _ _ (⟨t435, t436⟩ : S23) )) (Reps.none _ _)))))
  intro v438 w150 ho151 hb hg_ hnew_
  clear hg_ hnew_
  (first | rw [← Ny437.out] at ho151 | (simp only [Int.reduceToNat] at ho151; rw [← Ny437.out] at ho151))
  have n0_ := Aside0.mk (Kd.R_lower (Kd.R_newB (Kd.R_newB ho151 (g := gb392) (o := .cells #[.int .i64 2147483648, .bool false] 23 (0, 0)) (by (with_reducible repeat (first | refine blk_drewN ?_ _ | refine blk_drew ?_ | refine blk_alloc ?_ _)); exact BK392.out)) (g := gb429) (o := .cells #[.int .i64 8589934592, .bool true] 23 (0, 0)) (by (with_reducible repeat (first | refine blk_drewN ?_ _ | refine blk_drew ?_ | refine blk_alloc ?_ _)); exact BK429.out)) (below_size (by repeat (first | (with_reducible first | exact HB.out | apply below_alloc | apply pw_below_drewN | apply below_drew1 | refine below_set ?_ GE392.out | refine below_set ?_ GE429.out) | exact HB.out))))
  have n1_ := Aside0.mk (blk_below (g := gb392) (o := .cells #[.int .i64 2147483648, .bool false] 23 (0, 0)) (by (with_reducible repeat (first | refine blk_drewN ?_ _ | refine blk_drew ?_ | refine blk_alloc ?_ _)); exact BK392.out) hb)
  have n2_ := Aside0.mk (blk_below (g := gb429) (o := .cells #[.int .i64 8589934592, .bool true] 23 (0, 0)) (by (with_reducible repeat (first | refine blk_drewN ?_ _ | refine blk_drew ?_ | refine blk_alloc ?_ _)); exact BK429.out) hb)
  have n3_ := Aside0.mk (below_step (by repeat (first | (with_reducible first | exact HB.out | apply below_alloc | apply pw_below_drewN | apply below_drew1 | refine below_set ?_ GE392.out | refine below_set ?_ GE429.out) | exact HB.out)) hb)
  clear BK392
  clear BK429
  clear HB
  have HO439 := n0_
  have BK392 := n1_
  have BK429 := n2_
  have HB := n3_
  clear n0_ n1_ n2_ n3_
  clear hb ho151
  obtain ⟨Ao152, co152, eo152⟩ := Kd.R_slice HO439.out
  (first | subst eo152 | (injection eo152 with f1_ f2_ f3_; have f4_ := f1_.symm; have f5_ := f3_.symm; clear f1_ f2_ f3_; subst f4_; subst f5_))
  refine hK.out _ _ ⟨(blk_cell BK429.out 0).trans rfl, (blk_cell BK429.out 1).trans rfl⟩ (fun hHeld => ?_)
  clear hK K
  refine norm_ (a' := ?_) ?_ ?_
  rotate_left
  · show Act.put _ (some 87) _ = _
    simp only [Act.put, List.setIfInBounds_toArray, List.set_cons_zero, List.set_cons_succ, i64_w, i32_w]
    rfl
  refine one_ (i := 7) (N := some 88) #[true, true, true, true, true, true, true, true, false, false, false, false, false, false, false, false, false, false, false, false, false, false, false, false, false, false, false, false, false] rfl rfl (one_of HT_.out (by kernel_rfl)) (by decide) (fun K hK => ?_)
  refine goes_ Try.func30 (by kernel_rfl) rfl #[.slice Ao152 y437.length co152] (by rfl) rfl rfl (by (try simp only [List.map_toArray, List.map_cons, List.map_nil]); first | done | rfl | (simp only [List.length_drop, List.length_take]; rfl)) ?_
  with_reducible refine (fixed_Max.calls k _ _ y437 t440 t441 _ ?side1 ?side2 A49.out).mono ?_
  (case side1 => repeat (first | exact (Kd.R_reads' HO439.out).2.2 | (with_reducible refine Kd.C_alloc ?_ _) | (with_reducible refine Kd.C_drewN ?_ _) | (with_reducible refine Kd.C_drew ?_)))
  (case side2 => exact (Kd.R_reads' HO439.out).2.1)
  rintro e w153 ⟨rfl, hb⟩
  refine ⟨_, rfl, ?_⟩
  have n0_ := Aside0.mk (Kd.R_below (by (with_reducible repeat (first | apply Kd.R_alloc | apply Kd.R_drewN | apply Kd.R_drew)); exact HO439.out) hb)
  have n1_ := Aside0.mk (blk_below (g := gb392) (o := .cells #[.int .i64 2147483648, .bool false] 23 (0, 0)) (by (with_reducible repeat (first | refine blk_drewN ?_ _ | refine blk_drew ?_ | refine blk_alloc ?_ _)); exact BK392.out) hb)
  have n2_ := Aside0.mk (blk_below (g := gb429) (o := .cells #[.int .i64 8589934592, .bool true] 23 (0, 0)) (by (with_reducible repeat (first | refine blk_drewN ?_ _ | refine blk_drew ?_ | refine blk_alloc ?_ _)); exact BK429.out) hb)
  have n3_ := Aside0.mk (below_step (by repeat (first | (with_reducible first | exact HB.out | apply below_alloc | apply pw_below_drewN | apply below_drew1 | refine below_set ?_ GE392.out | refine below_set ?_ GE429.out) | exact HB.out)) hb)
  clear HO439
  clear BK392
  clear BK429
  clear HB
  have HO439 := n0_
  have BK392 := n1_
  have BK429 := n2_
  have HB := n3_
  clear n0_ n1_ n2_ n3_
  (try clear hb)
  (try clear hb2)
  (try clear hk)
  (try clear hi)
  refine hK.out _ _ ⟨(blk_cell BK429.out 0).trans rfl, (blk_cell BK429.out 1).trans rfl⟩ (fun hHeld => ?_)
  clear hK K
  refine norm_ (a' := ?_) ?_ ?_
  rotate_left
  · show Act.put _ (some 88) _ = _
    simp only [Act.put, List.setIfInBounds_toArray, List.set_cons_zero, List.set_cons_succ, i64_w, i32_w]
    rfl
  refine one_ (i := 8) (N := some 89) #[true, true, true, true, true, true, true, true, true, false, false, false, false, false, false, false, false, false, false, false, false, false, false, false, false, false, false, false, false] rfl rfl (one_of HT_.out (by kernel_rfl)) (by decide) (fun K hK => ?_)
  refine goes_ Try.func48 (by kernel_rfl) rfl #[.agg #[.int .i64 t440, .bool t441], .string (⟨#[50, 33]⟩ : ByteArray)] (by rfl) rfl rfl (by (try simp only [List.map_toArray, List.map_cons, List.map_nil]); first | done | rfl | (simp only [List.length_drop, List.length_take]; rfl)) ?_
  with_reducible refine (bagatellelaw01_text.calls t440 t441 (⟨#[50, 33]⟩ : ByteArray) true _ A50.out).mono ?_
  rintro e w154 ⟨rfl, hb⟩
  refine ⟨_, rfl, ?_⟩
  have n0_ := Aside0.mk (Kd.R_below (by (with_reducible repeat (first | apply Kd.R_alloc | apply Kd.R_drewN | apply Kd.R_drew)); exact HO439.out) hb)
  have n1_ := Aside0.mk (blk_below (g := gb392) (o := .cells #[.int .i64 2147483648, .bool false] 23 (0, 0)) (by (with_reducible repeat (first | refine blk_drewN ?_ _ | refine blk_drew ?_ | refine blk_alloc ?_ _)); exact BK392.out) hb)
  have n2_ := Aside0.mk (blk_below (g := gb429) (o := .cells #[.int .i64 8589934592, .bool true] 23 (0, 0)) (by (with_reducible repeat (first | refine blk_drewN ?_ _ | refine blk_drew ?_ | refine blk_alloc ?_ _)); exact BK429.out) hb)
  have n3_ := Aside0.mk (below_step (by repeat (first | (with_reducible first | exact HB.out | apply below_alloc | apply pw_below_drewN | apply below_drew1 | refine below_set ?_ GE392.out | refine below_set ?_ GE429.out) | exact HB.out)) hb)
  clear HO439
  clear BK392
  clear BK429
  clear HB
  have HO439 := n0_
  have BK392 := n1_
  have BK429 := n2_
  have HB := n3_
  clear n0_ n1_ n2_ n3_
  (try clear hb)
  (try clear hb2)
  (try clear hk)
  (try clear hi)
  refine hK.out _ _ ⟨(blk_cell BK429.out 0).trans rfl, (blk_cell BK429.out 1).trans rfl⟩ (fun hHeld => ?_)
  clear hK K
  refine norm_ (a' := ?_) ?_ ?_
  rotate_left
  · show Act.put _ (some 89) _ = _
    simp only [Act.put, List.setIfInBounds_toArray, List.set_cons_zero, List.set_cons_succ, i64_w, i32_w]
    rfl
  refine pure_ (i := 9) (N := some 90) (v := ?_) (a' := ?_) #[true, true, true, true, true, true, true, true, true, true, false, false, false, false, false, false, false, false, false, false, false, false, false, false, false, false, false, false, false] rfl rfl (any_of HT_.out (by kernel_rfl)) (fun _ _ _ h => h) (Or.inl ⟨by rfl, ?_⟩) ?_ ?_
  rotate_left
  · intro w'
    go_simp
    with_reducible rfl
  rotate_left
  · simp only [Act.put, List.setIfInBounds_toArray, List.set_cons_zero, List.set_cons_succ, i64_w, i32_w]
    rfl
  refine pure_ (i := 10) (N := some 91) (v := ?_) (a' := ?_) #[true, true, true, true, true, true, true, true, true, true, true, false, false, false, false, false, false, false, false, false, false, false, false, false, false, false, false, false, false] rfl rfl (any_of HT_.out (by kernel_rfl)) (fun _ _ _ h => h) (Or.inl ⟨by rfl, ?_⟩) ?_ ?_
  rotate_left
  · intro w'
    go_simp
    with_reducible rfl
  rotate_left
  · simp only [Act.put, List.setIfInBounds_toArray, List.set_cons_zero, List.set_cons_succ, i64_w, i32_w]
    rfl
  refine one_ (i := 11) (N := some 92) #[true, true, true, true, true, true, true, true, true, true, true, true, false, false, false, false, false, false, false, false, false, false, false, false, false, false, false, false, false] rfl rfl (one_of HT_.out (by kernel_rfl)) (by decide) (fun K hK => ?_)
  refine goes_ Try.func28 (by kernel_rfl) rfl #[.slice none 0 0] (by rfl) rfl rfl (by (try simp only [List.map_toArray, List.map_cons, List.map_nil]); first | done | rfl | (simp only [List.length_drop, List.length_take]; rfl)) ?_
  refine (fixed_Min.calls k _ _ ([] : List (S23)) t443 t444 _ ?side1 ?side2 A52.out).mono ?_
  (case side1 => exact Kd.C_nil _ _)
  (case side2 => exact Nat.le_refl _)
  rintro e w155 ⟨rfl, hb⟩
  refine ⟨_, rfl, ?_⟩
  have n0_ := Aside0.mk (Kd.R_below (by (with_reducible repeat (first | apply Kd.R_alloc | apply Kd.R_drewN | apply Kd.R_drew)); exact HO439.out) hb)
  have n1_ := Aside0.mk (blk_below (g := gb392) (o := .cells #[.int .i64 2147483648, .bool false] 23 (0, 0)) (by (with_reducible repeat (first | refine blk_drewN ?_ _ | refine blk_drew ?_ | refine blk_alloc ?_ _)); exact BK392.out) hb)
  have n2_ := Aside0.mk (blk_below (g := gb429) (o := .cells #[.int .i64 8589934592, .bool true] 23 (0, 0)) (by (with_reducible repeat (first | refine blk_drewN ?_ _ | refine blk_drew ?_ | refine blk_alloc ?_ _)); exact BK429.out) hb)
  have n3_ := Aside0.mk (below_step (by repeat (first | (with_reducible first | exact HB.out | apply below_alloc | apply pw_below_drewN | apply below_drew1 | refine below_set ?_ GE392.out | refine below_set ?_ GE429.out) | exact HB.out)) hb)
  clear HO439
  clear BK392
  clear BK429
  clear HB
  have HO439 := n0_
  have BK392 := n1_
  have BK429 := n2_
  have HB := n3_
  clear n0_ n1_ n2_ n3_
  (try clear hb)
  (try clear hb2)
  (try clear hk)
  (try clear hi)
  refine hK.out _ _ ⟨(blk_cell BK429.out 0).trans rfl, (blk_cell BK429.out 1).trans rfl⟩ (fun hHeld => ?_)
  clear hK K
  refine norm_ (a' := ?_) ?_ ?_
  rotate_left
  · show Act.put _ (some 92) _ = _
    simp only [Act.put, List.setIfInBounds_toArray, List.set_cons_zero, List.set_cons_succ, i64_w, i32_w]
    rfl
  refine one_ (i := 12) (N := some 93) #[true, true, true, true, true, true, true, true, true, true, true, true, true, false, false, false, false, false, false, false, false, false, false, false, false, false, false, false, false] rfl rfl (one_of HT_.out (by kernel_rfl)) (by decide) (fun K hK => ?_)
  refine goes_ Try.func48 (by kernel_rfl) rfl #[.agg #[.int .i64 t443, .bool t444], .string (⟨#[48]⟩ : ByteArray)] (by rfl) rfl rfl (by (try simp only [List.map_toArray, List.map_cons, List.map_nil]); first | done | rfl | (simp only [List.length_drop, List.length_take]; rfl)) ?_
  with_reducible refine (bagatellelaw01_text.calls t443 t444 (⟨#[48]⟩ : ByteArray) true _ A53.out).mono ?_
  rintro e w156 ⟨rfl, hb⟩
  refine ⟨_, rfl, ?_⟩
  have n0_ := Aside0.mk (Kd.R_below (by (with_reducible repeat (first | apply Kd.R_alloc | apply Kd.R_drewN | apply Kd.R_drew)); exact HO439.out) hb)
  have n1_ := Aside0.mk (blk_below (g := gb392) (o := .cells #[.int .i64 2147483648, .bool false] 23 (0, 0)) (by (with_reducible repeat (first | refine blk_drewN ?_ _ | refine blk_drew ?_ | refine blk_alloc ?_ _)); exact BK392.out) hb)
  have n2_ := Aside0.mk (blk_below (g := gb429) (o := .cells #[.int .i64 8589934592, .bool true] 23 (0, 0)) (by (with_reducible repeat (first | refine blk_drewN ?_ _ | refine blk_drew ?_ | refine blk_alloc ?_ _)); exact BK429.out) hb)
  have n3_ := Aside0.mk (below_step (by repeat (first | (with_reducible first | exact HB.out | apply below_alloc | apply pw_below_drewN | apply below_drew1 | refine below_set ?_ GE392.out | refine below_set ?_ GE429.out) | exact HB.out)) hb)
  clear HO439
  clear BK392
  clear BK429
  clear HB
  have HO439 := n0_
  have BK392 := n1_
  have BK429 := n2_
  have HB := n3_
  clear n0_ n1_ n2_ n3_
  (try clear hb)
  (try clear hb2)
  (try clear hk)
  (try clear hi)
  refine hK.out _ _ ⟨(blk_cell BK429.out 0).trans rfl, (blk_cell BK429.out 1).trans rfl⟩ (fun hHeld => ?_)
  clear hK K
  refine norm_ (a' := ?_) ?_ ?_
  rotate_left
  · show Act.put _ (some 93) _ = _
    simp only [Act.put, List.setIfInBounds_toArray, List.set_cons_zero, List.set_cons_succ, i64_w, i32_w]
    rfl
  refine pure_ (i := 13) (N := some 94) (v := ?_) (a' := ?_) #[true, true, true, true, true, true, true, true, true, true, true, true, true, true, false, false, false, false, false, false, false, false, false, false, false, false, false, false, false] rfl rfl (any_of HT_.out (by kernel_rfl)) (fun _ _ _ h => h) (Or.inl ⟨by rfl, ?_⟩) ?_ ?_
  rotate_left
  · intro w'
    go_simp
    with_reducible rfl
  rotate_left
  · simp only [Act.put, List.setIfInBounds_toArray, List.set_cons_zero, List.set_cons_succ, i64_w, i32_w]
    rfl
  refine pure_ (i := 14) (N := some 95) (v := ?_) (a' := ?_) #[true, true, true, true, true, true, true, true, true, true, true, true, true, true, true, false, false, false, false, false, false, false, false, false, false, false, false, false, false] rfl rfl (any_of HT_.out (by kernel_rfl)) (fun _ _ _ h => h) (Or.inl ⟨by rfl, ?_⟩) ?_ ?_
  rotate_left
  · intro w'
    go_simp
    with_reducible rfl
  rotate_left
  · simp only [Act.put, List.setIfInBounds_toArray, List.set_cons_zero, List.set_cons_succ, i64_w, i32_w]
    rfl
  refine one_ (i := 15) (N := some 96) #[true, true, true, true, true, true, true, true, true, true, true, true, true, true, true, true, false, false, false, false, false, false, false, false, false, false, false, false, false] rfl rfl (one_of HT_.out (by kernel_rfl)) (by decide) (fun K hK => ?_)
  refine goes_ Try.func49 (by kernel_rfl) rfl #[.int .i64 5] (by rfl) rfl rfl (by (try simp only [List.map_toArray, List.map_cons, List.map_nil]); first | done | rfl | (simp only [List.length_drop, List.length_take]; rfl)) ?_
  with_reducible refine (fixed_Int.calls k 5 t446 t447 _ A55.out).mono ?_
  rintro e w157 ⟨rfl, hb⟩
  refine ⟨_, rfl, ?_⟩
  have n0_ := Aside0.mk (Kd.R_below (by (with_reducible repeat (first | apply Kd.R_alloc | apply Kd.R_drewN | apply Kd.R_drew)); exact HO439.out) hb)
  have n1_ := Aside0.mk (blk_below (g := gb392) (o := .cells #[.int .i64 2147483648, .bool false] 23 (0, 0)) (by (with_reducible repeat (first | refine blk_drewN ?_ _ | refine blk_drew ?_ | refine blk_alloc ?_ _)); exact BK392.out) hb)
  have n2_ := Aside0.mk (blk_below (g := gb429) (o := .cells #[.int .i64 8589934592, .bool true] 23 (0, 0)) (by (with_reducible repeat (first | refine blk_drewN ?_ _ | refine blk_drew ?_ | refine blk_alloc ?_ _)); exact BK429.out) hb)
  have n3_ := Aside0.mk (below_step (by repeat (first | (with_reducible first | exact HB.out | apply below_alloc | apply pw_below_drewN | apply below_drew1 | refine below_set ?_ GE392.out | refine below_set ?_ GE429.out) | exact HB.out)) hb)
  clear HO439
  clear BK392
  clear BK429
  clear HB
  have HO439 := n0_
  have BK392 := n1_
  have BK429 := n2_
  have HB := n3_
  clear n0_ n1_ n2_ n3_
  (try clear hb)
  (try clear hb2)
  (try clear hk)
  (try clear hi)
  refine hK.out _ _ ⟨(blk_cell BK429.out 0).trans rfl, (blk_cell BK429.out 1).trans rfl⟩ (fun hHeld => ?_)
  clear hK K
  refine norm_ (a' := ?_) ?_ ?_
  rotate_left
  · show Act.put _ (some 96) _ = _
    simp only [Act.put, List.setIfInBounds_toArray, List.set_cons_zero, List.set_cons_succ, i64_w, i32_w]
    rfl
  refine one_ (i := 16) (N := some 97) #[true, true, true, true, true, true, true, true, true, true, true, true, true, true, true, true, true, false, false, false, false, false, false, false, false, false, false, false, false] rfl rfl (one_of HT_.out (by kernel_rfl)) (by decide) (fun K hK => ?_)
  refine goes_ Try.func49 (by kernel_rfl) rfl #[.int .i64 1] (by rfl) rfl rfl (by (try simp only [List.map_toArray, List.map_cons, List.map_nil]); first | done | rfl | (simp only [List.length_drop, List.length_take]; rfl)) ?_
  with_reducible refine (fixed_Int.calls k 1 t448 t449 _ A56.out).mono ?_
  rintro e w158 ⟨rfl, hb⟩
  refine ⟨_, rfl, ?_⟩
  have n0_ := Aside0.mk (Kd.R_below (by (with_reducible repeat (first | apply Kd.R_alloc | apply Kd.R_drewN | apply Kd.R_drew)); exact HO439.out) hb)
  have n1_ := Aside0.mk (blk_below (g := gb392) (o := .cells #[.int .i64 2147483648, .bool false] 23 (0, 0)) (by (with_reducible repeat (first | refine blk_drewN ?_ _ | refine blk_drew ?_ | refine blk_alloc ?_ _)); exact BK392.out) hb)
  have n2_ := Aside0.mk (blk_below (g := gb429) (o := .cells #[.int .i64 8589934592, .bool true] 23 (0, 0)) (by (with_reducible repeat (first | refine blk_drewN ?_ _ | refine blk_drew ?_ | refine blk_alloc ?_ _)); exact BK429.out) hb)
  have n3_ := Aside0.mk (below_step (by repeat (first | (with_reducible first | exact HB.out | apply below_alloc | apply pw_below_drewN | apply below_drew1 | refine below_set ?_ GE392.out | refine below_set ?_ GE429.out) | exact HB.out)) hb)
  clear HO439
  clear BK392
  clear BK429
  clear HB
  have HO439 := n0_
  have BK392 := n1_
  have BK429 := n2_
  have HB := n3_
  clear n0_ n1_ n2_ n3_
  (try clear hb)
  (try clear hb2)
  (try clear hk)
  (try clear hi)
  refine hK.out _ _ ⟨(blk_cell BK429.out 0).trans rfl, (blk_cell BK429.out 1).trans rfl⟩ (fun hHeld => ?_)
  clear hK K
  refine norm_ (a' := ?_) ?_ ?_
  rotate_left
  · show Act.put _ (some 97) _ = _
    simp only [Act.put, List.setIfInBounds_toArray, List.set_cons_zero, List.set_cons_succ, i64_w, i32_w]
    rfl
  refine one_ (i := 17) (N := some 98) #[true, true, true, true, true, true, true, true, true, true, true, true, true, true, true, true, true, true, false, false, false, false, false, false, false, false, false, false, false] rfl rfl (one_of HT_.out (by kernel_rfl)) (by decide) (fun K hK => ?_)
  refine goes_ Try.func49 (by kernel_rfl) rfl #[.int .i64 3] (by rfl) rfl rfl (by (try simp only [List.map_toArray, List.map_cons, List.map_nil]); first | done | rfl | (simp only [List.length_drop, List.length_take]; rfl)) ?_
  with_reducible refine (fixed_Int.calls k 3 t450 t451 _ A57.out).mono ?_
  rintro e w159 ⟨rfl, hb⟩
  refine ⟨_, rfl, ?_⟩
  have n0_ := Aside0.mk (Kd.R_below (by (with_reducible repeat (first | apply Kd.R_alloc | apply Kd.R_drewN | apply Kd.R_drew)); exact HO439.out) hb)
  have n1_ := Aside0.mk (blk_below (g := gb392) (o := .cells #[.int .i64 2147483648, .bool false] 23 (0, 0)) (by (with_reducible repeat (first | refine blk_drewN ?_ _ | refine blk_drew ?_ | refine blk_alloc ?_ _)); exact BK392.out) hb)
  have n2_ := Aside0.mk (blk_below (g := gb429) (o := .cells #[.int .i64 8589934592, .bool true] 23 (0, 0)) (by (with_reducible repeat (first | refine blk_drewN ?_ _ | refine blk_drew ?_ | refine blk_alloc ?_ _)); exact BK429.out) hb)
  have n3_ := Aside0.mk (below_step (by repeat (first | (with_reducible first | exact HB.out | apply below_alloc | apply pw_below_drewN | apply below_drew1 | refine below_set ?_ GE392.out | refine below_set ?_ GE429.out) | exact HB.out)) hb)
  clear HO439
  clear BK392
  clear BK429
  clear HB
  have HO439 := n0_
  have BK392 := n1_
  have BK429 := n2_
  have HB := n3_
  clear n0_ n1_ n2_ n3_
  (try clear hb)
  (try clear hb2)
  (try clear hk)
  (try clear hi)
  refine hK.out _ _ ⟨(blk_cell BK429.out 0).trans rfl, (blk_cell BK429.out 1).trans rfl⟩ (fun hHeld => ?_)
  clear hK K
  refine norm_ (a' := ?_) ?_ ?_
  rotate_left
  · show Act.put _ (some 98) _ = _
    simp only [Act.put, List.setIfInBounds_toArray, List.set_cons_zero, List.set_cons_succ, i64_w, i32_w]
    rfl
  refine one_ (i := 18) (N := some 99) #[true, true, true, true, true, true, true, true, true, true, true, true, true, true, true, true, true, true, true, false, false, false, false, false, false, false, false, false, false] rfl rfl (one_of HT_.out (by kernel_rfl)) (by decide) (fun K hK => ?_)
  refine goes_ Try.func35 (by kernel_rfl) rfl #[.agg #[.int .i64 t446, .bool t447], .agg #[.int .i64 t448, .bool t449], .agg #[.int .i64 t450, .bool t451]] (by rfl) rfl rfl (by (try simp only [List.map_toArray, List.map_cons, List.map_nil]); first | done | rfl | (simp only [List.length_drop, List.length_take]; rfl)) ?_
  with_reducible refine (fixed_Clamp.calls k t446 t447 t448 t449 t450 t451 t452 t453 _ A58.out).mono ?_
  rintro e w160 ⟨rfl, hb⟩
  refine ⟨_, rfl, ?_⟩
  have n0_ := Aside0.mk (Kd.R_below (by (with_reducible repeat (first | apply Kd.R_alloc | apply Kd.R_drewN | apply Kd.R_drew)); exact HO439.out) hb)
  have n1_ := Aside0.mk (blk_below (g := gb392) (o := .cells #[.int .i64 2147483648, .bool false] 23 (0, 0)) (by (with_reducible repeat (first | refine blk_drewN ?_ _ | refine blk_drew ?_ | refine blk_alloc ?_ _)); exact BK392.out) hb)
  have n2_ := Aside0.mk (blk_below (g := gb429) (o := .cells #[.int .i64 8589934592, .bool true] 23 (0, 0)) (by (with_reducible repeat (first | refine blk_drewN ?_ _ | refine blk_drew ?_ | refine blk_alloc ?_ _)); exact BK429.out) hb)
  have n3_ := Aside0.mk (below_step (by repeat (first | (with_reducible first | exact HB.out | apply below_alloc | apply pw_below_drewN | apply below_drew1 | refine below_set ?_ GE392.out | refine below_set ?_ GE429.out) | exact HB.out)) hb)
  clear HO439
  clear BK392
  clear BK429
  clear HB
  have HO439 := n0_
  have BK392 := n1_
  have BK429 := n2_
  have HB := n3_
  clear n0_ n1_ n2_ n3_
  (try clear hb)
  (try clear hb2)
  (try clear hk)
  (try clear hi)
  refine hK.out _ _ ⟨(blk_cell BK429.out 0).trans rfl, (blk_cell BK429.out 1).trans rfl⟩ (fun hHeld => ?_)
  clear hK K
  refine norm_ (a' := ?_) ?_ ?_
  rotate_left
  · show Act.put _ (some 99) _ = _
    simp only [Act.put, List.setIfInBounds_toArray, List.set_cons_zero, List.set_cons_succ, i64_w, i32_w]
    rfl
  refine one_ (i := 19) (N := some 100) #[true, true, true, true, true, true, true, true, true, true, true, true, true, true, true, true, true, true, true, true, false, false, false, false, false, false, false, false, false] rfl rfl (one_of HT_.out (by kernel_rfl)) (by decide) (fun K hK => ?_)
  refine goes_ Try.func48 (by kernel_rfl) rfl #[.agg #[.int .i64 t452, .bool t453], .string (⟨#[51]⟩ : ByteArray)] (by rfl) rfl rfl (by (try simp only [List.map_toArray, List.map_cons, List.map_nil]); first | done | rfl | (simp only [List.length_drop, List.length_take]; rfl)) ?_
  with_reducible refine (bagatellelaw01_text.calls t452 t453 (⟨#[51]⟩ : ByteArray) true _ A59.out).mono ?_
  rintro e w161 ⟨rfl, hb⟩
  refine ⟨_, rfl, ?_⟩
  have n0_ := Aside0.mk (Kd.R_below (by (with_reducible repeat (first | apply Kd.R_alloc | apply Kd.R_drewN | apply Kd.R_drew)); exact HO439.out) hb)
  have n1_ := Aside0.mk (blk_below (g := gb392) (o := .cells #[.int .i64 2147483648, .bool false] 23 (0, 0)) (by (with_reducible repeat (first | refine blk_drewN ?_ _ | refine blk_drew ?_ | refine blk_alloc ?_ _)); exact BK392.out) hb)
  have n2_ := Aside0.mk (blk_below (g := gb429) (o := .cells #[.int .i64 8589934592, .bool true] 23 (0, 0)) (by (with_reducible repeat (first | refine blk_drewN ?_ _ | refine blk_drew ?_ | refine blk_alloc ?_ _)); exact BK429.out) hb)
  have n3_ := Aside0.mk (below_step (by repeat (first | (with_reducible first | exact HB.out | apply below_alloc | apply pw_below_drewN | apply below_drew1 | refine below_set ?_ GE392.out | refine below_set ?_ GE429.out) | exact HB.out)) hb)
  clear HO439
  clear BK392
  clear BK429
  clear HB
  have HO439 := n0_
  have BK392 := n1_
  have BK429 := n2_
  have HB := n3_
  clear n0_ n1_ n2_ n3_
  (try clear hb)
  (try clear hb2)
  (try clear hk)
  (try clear hi)
  refine hK.out _ _ ⟨(blk_cell BK429.out 0).trans rfl, (blk_cell BK429.out 1).trans rfl⟩ (fun hHeld => ?_)
  clear hK K
  refine norm_ (a' := ?_) ?_ ?_
  rotate_left
  · show Act.put _ (some 100) _ = _
    simp only [Act.put, List.setIfInBounds_toArray, List.set_cons_zero, List.set_cons_succ, i64_w, i32_w]
    rfl
  refine pure_ (i := 20) (N := some 101) (v := ?_) (a' := ?_) #[true, true, true, true, true, true, true, true, true, true, true, true, true, true, true, true, true, true, true, true, true, false, false, false, false, false, false, false, false] rfl rfl (any_of HT_.out (by kernel_rfl)) (fun _ _ _ h => h) (Or.inl ⟨by rfl, ?_⟩) ?_ ?_
  rotate_left
  · intro w'
    go_simp
    with_reducible rfl
  rotate_left
  · simp only [Act.put, List.setIfInBounds_toArray, List.set_cons_zero, List.set_cons_succ, i64_w, i32_w]
    rfl
  refine pure_ (i := 21) (N := some 102) (v := ?_) (a' := ?_) #[true, true, true, true, true, true, true, true, true, true, true, true, true, true, true, true, true, true, true, true, true, true, false, false, false, false, false, false, false] rfl rfl (any_of HT_.out (by kernel_rfl)) (fun _ _ _ h => h) (Or.inl ⟨by rfl, ?_⟩) ?_ ?_
  rotate_left
  · intro w'
    go_simp
    with_reducible rfl
  rotate_left
  · simp only [Act.put, List.setIfInBounds_toArray, List.set_cons_zero, List.set_cons_succ, i64_w, i32_w]
    rfl
  refine one_ (i := 22) (N := some 103) #[true, true, true, true, true, true, true, true, true, true, true, true, true, true, true, true, true, true, true, true, true, true, true, false, false, false, false, false, false] rfl rfl (one_of HT_.out (by kernel_rfl)) (by decide) (fun K hK => ?_)
  refine goes_ Try.func49 (by kernel_rfl) rfl #[.int .i64 5] (by rfl) rfl rfl (by (try simp only [List.map_toArray, List.map_cons, List.map_nil]); first | done | rfl | (simp only [List.length_drop, List.length_take]; rfl)) ?_
  with_reducible refine (fixed_Int.calls k 5 t455 t456 _ A61.out).mono ?_
  rintro e w162 ⟨rfl, hb⟩
  refine ⟨_, rfl, ?_⟩
  have n0_ := Aside0.mk (Kd.R_below (by (with_reducible repeat (first | apply Kd.R_alloc | apply Kd.R_drewN | apply Kd.R_drew)); exact HO439.out) hb)
  have n1_ := Aside0.mk (blk_below (g := gb392) (o := .cells #[.int .i64 2147483648, .bool false] 23 (0, 0)) (by (with_reducible repeat (first | refine blk_drewN ?_ _ | refine blk_drew ?_ | refine blk_alloc ?_ _)); exact BK392.out) hb)
  have n2_ := Aside0.mk (blk_below (g := gb429) (o := .cells #[.int .i64 8589934592, .bool true] 23 (0, 0)) (by (with_reducible repeat (first | refine blk_drewN ?_ _ | refine blk_drew ?_ | refine blk_alloc ?_ _)); exact BK429.out) hb)
  have n3_ := Aside0.mk (below_step (by repeat (first | (with_reducible first | exact HB.out | apply below_alloc | apply pw_below_drewN | apply below_drew1 | refine below_set ?_ GE392.out | refine below_set ?_ GE429.out) | exact HB.out)) hb)
  clear HO439
  clear BK392
  clear BK429
  clear HB
  have HO439 := n0_
  have BK392 := n1_
  have BK429 := n2_
  have HB := n3_
  clear n0_ n1_ n2_ n3_
  (try clear hb)
  (try clear hb2)
  (try clear hk)
  (try clear hi)
  refine hK.out _ _ ⟨(blk_cell BK429.out 0).trans rfl, (blk_cell BK429.out 1).trans rfl⟩ (fun hHeld => ?_)
  clear hK K
  refine norm_ (a' := ?_) ?_ ?_
  rotate_left
  · show Act.put _ (some 103) _ = _
    simp only [Act.put, List.setIfInBounds_toArray, List.set_cons_zero, List.set_cons_succ, i64_w, i32_w]
    rfl
  refine one_ (i := 23) (N := some 104) #[true, true, true, true, true, true, true, true, true, true, true, true, true, true, true, true, true, true, true, true, true, true, true, true, false, false, false, false, false] rfl rfl (one_of HT_.out (by kernel_rfl)) (by decide) (fun K hK => ?_)
  refine goes_ Try.func49 (by kernel_rfl) rfl #[.int .i64 3] (by rfl) rfl rfl (by (try simp only [List.map_toArray, List.map_cons, List.map_nil]); first | done | rfl | (simp only [List.length_drop, List.length_take]; rfl)) ?_
  with_reducible refine (fixed_Int.calls k 3 t457 t458 _ A62.out).mono ?_
  rintro e w163 ⟨rfl, hb⟩
  refine ⟨_, rfl, ?_⟩
  have n0_ := Aside0.mk (Kd.R_below (by (with_reducible repeat (first | apply Kd.R_alloc | apply Kd.R_drewN | apply Kd.R_drew)); exact HO439.out) hb)
  have n1_ := Aside0.mk (blk_below (g := gb392) (o := .cells #[.int .i64 2147483648, .bool false] 23 (0, 0)) (by (with_reducible repeat (first | refine blk_drewN ?_ _ | refine blk_drew ?_ | refine blk_alloc ?_ _)); exact BK392.out) hb)
  have n2_ := Aside0.mk (blk_below (g := gb429) (o := .cells #[.int .i64 8589934592, .bool true] 23 (0, 0)) (by (with_reducible repeat (first | refine blk_drewN ?_ _ | refine blk_drew ?_ | refine blk_alloc ?_ _)); exact BK429.out) hb)
  have n3_ := Aside0.mk (below_step (by repeat (first | (with_reducible first | exact HB.out | apply below_alloc | apply pw_below_drewN | apply below_drew1 | refine below_set ?_ GE392.out | refine below_set ?_ GE429.out) | exact HB.out)) hb)
  clear HO439
  clear BK392
  clear BK429
  clear HB
  have HO439 := n0_
  have BK392 := n1_
  have BK429 := n2_
  have HB := n3_
  clear n0_ n1_ n2_ n3_
  (try clear hb)
  (try clear hb2)
  (try clear hk)
  (try clear hi)
  refine hK.out _ _ ⟨(blk_cell BK429.out 0).trans rfl, (blk_cell BK429.out 1).trans rfl⟩ (fun hHeld => ?_)
  clear hK K
  refine norm_ (a' := ?_) ?_ ?_
  rotate_left
  · show Act.put _ (some 104) _ = _
    simp only [Act.put, List.setIfInBounds_toArray, List.set_cons_zero, List.set_cons_succ, i64_w, i32_w]
    rfl
  refine one_ (i := 24) (N := some 105) #[true, true, true, true, true, true, true, true, true, true, true, true, true, true, true, true, true, true, true, true, true, true, true, true, true, false, false, false, false] rfl rfl (one_of HT_.out (by kernel_rfl)) (by decide) (fun K hK => ?_)
  refine goes_ Try.func49 (by kernel_rfl) rfl #[.int .i64 1] (by rfl) rfl rfl (by (try simp only [List.map_toArray, List.map_cons, List.map_nil]); first | done | rfl | (simp only [List.length_drop, List.length_take]; rfl)) ?_
  with_reducible refine (fixed_Int.calls k 1 t459 t460 _ A63.out).mono ?_
  rintro e w164 ⟨rfl, hb⟩
  refine ⟨_, rfl, ?_⟩
  have n0_ := Aside0.mk (Kd.R_below (by (with_reducible repeat (first | apply Kd.R_alloc | apply Kd.R_drewN | apply Kd.R_drew)); exact HO439.out) hb)
  have n1_ := Aside0.mk (blk_below (g := gb392) (o := .cells #[.int .i64 2147483648, .bool false] 23 (0, 0)) (by (with_reducible repeat (first | refine blk_drewN ?_ _ | refine blk_drew ?_ | refine blk_alloc ?_ _)); exact BK392.out) hb)
  have n2_ := Aside0.mk (blk_below (g := gb429) (o := .cells #[.int .i64 8589934592, .bool true] 23 (0, 0)) (by (with_reducible repeat (first | refine blk_drewN ?_ _ | refine blk_drew ?_ | refine blk_alloc ?_ _)); exact BK429.out) hb)
  have n3_ := Aside0.mk (below_step (by repeat (first | (with_reducible first | exact HB.out | apply below_alloc | apply pw_below_drewN | apply below_drew1 | refine below_set ?_ GE392.out | refine below_set ?_ GE429.out) | exact HB.out)) hb)
  clear HO439
  clear BK392
  clear BK429
  clear HB
  have HO439 := n0_
  have BK392 := n1_
  have BK429 := n2_
  have HB := n3_
  clear n0_ n1_ n2_ n3_
  (try clear hb)
  (try clear hb2)
  (try clear hk)
  (try clear hi)
  refine hK.out _ _ ⟨(blk_cell BK429.out 0).trans rfl, (blk_cell BK429.out 1).trans rfl⟩ (fun hHeld => ?_)
  clear hK K
  refine norm_ (a' := ?_) ?_ ?_
  rotate_left
  · show Act.put _ (some 105) _ = _
    simp only [Act.put, List.setIfInBounds_toArray, List.set_cons_zero, List.set_cons_succ, i64_w, i32_w]
    rfl
  refine one_ (i := 25) (N := some 106) #[true, true, true, true, true, true, true, true, true, true, true, true, true, true, true, true, true, true, true, true, true, true, true, true, true, true, false, false, false] rfl rfl (one_of HT_.out (by kernel_rfl)) (by decide) (fun K hK => ?_)
  refine goes_ Try.func35 (by kernel_rfl) rfl #[.agg #[.int .i64 t455, .bool t456], .agg #[.int .i64 t457, .bool t458], .agg #[.int .i64 t459, .bool t460]] (by rfl) rfl rfl (by (try simp only [List.map_toArray, List.map_cons, List.map_nil]); first | done | rfl | (simp only [List.length_drop, List.length_take]; rfl)) ?_
  with_reducible refine (fixed_Clamp.calls k t455 t456 t457 t458 t459 t460 t461 t462 _ A64.out).mono ?_
  rintro e w165 ⟨rfl, hb⟩
  refine ⟨_, rfl, ?_⟩
  have n0_ := Aside0.mk (Kd.R_below (by (with_reducible repeat (first | apply Kd.R_alloc | apply Kd.R_drewN | apply Kd.R_drew)); exact HO439.out) hb)
  have n1_ := Aside0.mk (blk_below (g := gb392) (o := .cells #[.int .i64 2147483648, .bool false] 23 (0, 0)) (by (with_reducible repeat (first | refine blk_drewN ?_ _ | refine blk_drew ?_ | refine blk_alloc ?_ _)); exact BK392.out) hb)
  have n2_ := Aside0.mk (blk_below (g := gb429) (o := .cells #[.int .i64 8589934592, .bool true] 23 (0, 0)) (by (with_reducible repeat (first | refine blk_drewN ?_ _ | refine blk_drew ?_ | refine blk_alloc ?_ _)); exact BK429.out) hb)
  have n3_ := Aside0.mk (below_step (by repeat (first | (with_reducible first | exact HB.out | apply below_alloc | apply pw_below_drewN | apply below_drew1 | refine below_set ?_ GE392.out | refine below_set ?_ GE429.out) | exact HB.out)) hb)
  clear HO439
  clear BK392
  clear BK429
  clear HB
  have HO439 := n0_
  have BK392 := n1_
  have BK429 := n2_
  have HB := n3_
  clear n0_ n1_ n2_ n3_
  (try clear hb)
  (try clear hb2)
  (try clear hk)
  (try clear hi)
  refine hK.out _ _ ⟨(blk_cell BK429.out 0).trans rfl, (blk_cell BK429.out 1).trans rfl⟩ (fun hHeld => ?_)
  clear hK K
  refine norm_ (a' := ?_) ?_ ?_
  rotate_left
  · show Act.put _ (some 106) _ = _
    simp only [Act.put, List.setIfInBounds_toArray, List.set_cons_zero, List.set_cons_succ, i64_w, i32_w]
    rfl
  refine one_ (i := 26) (N := some 107) #[true, true, true, true, true, true, true, true, true, true, true, true, true, true, true, true, true, true, true, true, true, true, true, true, true, true, true, false, false] rfl rfl (one_of HT_.out (by kernel_rfl)) (by decide) (fun K hK => ?_)
  refine goes_ Try.func48 (by kernel_rfl) rfl #[.agg #[.int .i64 t461, .bool t462], .string (⟨#[51]⟩ : ByteArray)] (by rfl) rfl rfl (by (try simp only [List.map_toArray, List.map_cons, List.map_nil]); first | done | rfl | (simp only [List.length_drop, List.length_take]; rfl)) ?_
  with_reducible refine (bagatellelaw01_text.calls t461 t462 (⟨#[51]⟩ : ByteArray) true _ A65.out).mono ?_
  rintro e w166 ⟨rfl, hb⟩
  refine ⟨_, rfl, ?_⟩
  have n0_ := Aside0.mk (Kd.R_below (by (with_reducible repeat (first | apply Kd.R_alloc | apply Kd.R_drewN | apply Kd.R_drew)); exact HO439.out) hb)
  have n1_ := Aside0.mk (blk_below (g := gb392) (o := .cells #[.int .i64 2147483648, .bool false] 23 (0, 0)) (by (with_reducible repeat (first | refine blk_drewN ?_ _ | refine blk_drew ?_ | refine blk_alloc ?_ _)); exact BK392.out) hb)
  have n2_ := Aside0.mk (blk_below (g := gb429) (o := .cells #[.int .i64 8589934592, .bool true] 23 (0, 0)) (by (with_reducible repeat (first | refine blk_drewN ?_ _ | refine blk_drew ?_ | refine blk_alloc ?_ _)); exact BK429.out) hb)
  have n3_ := Aside0.mk (below_step (by repeat (first | (with_reducible first | exact HB.out | apply below_alloc | apply pw_below_drewN | apply below_drew1 | refine below_set ?_ GE392.out | refine below_set ?_ GE429.out) | exact HB.out)) hb)
  clear HO439
  clear BK392
  clear BK429
  clear HB
  have HO439 := n0_
  have BK392 := n1_
  have BK429 := n2_
  have HB := n3_
  clear n0_ n1_ n2_ n3_
  (try clear hb)
  (try clear hb2)
  (try clear hk)
  (try clear hi)
  refine hK.out _ _ ⟨(blk_cell BK429.out 0).trans rfl, (blk_cell BK429.out 1).trans rfl⟩ (fun hHeld => ?_)
  clear hK K
  refine norm_ (a' := ?_) ?_ ?_
  rotate_left
  · show Act.put _ (some 107) _ = _
    simp only [Act.put, List.setIfInBounds_toArray, List.set_cons_zero, List.set_cons_succ, i64_w, i32_w]
    rfl
  refine pure_ (i := 27) (N := some 108) (v := ?_) (a' := ?_) #[true, true, true, true, true, true, true, true, true, true, true, true, true, true, true, true, true, true, true, true, true, true, true, true, true, true, true, true, false] rfl rfl (any_of HT_.out (by kernel_rfl)) (fun _ _ _ h => h) (Or.inl ⟨by rfl, ?_⟩) ?_ ?_
  rotate_left
  · intro w'
    go_simp
    with_reducible rfl
  rotate_left
  · simp only [Act.put, List.setIfInBounds_toArray, List.set_cons_zero, List.set_cons_succ, i64_w, i32_w]
    rfl
  refine pure_ (i := 28) (N := some 8) (v := ?_) (a' := ?_) #[true, true, true, true, true, true, true, true, true, true, true, true, true, true, true, true, true, true, true, true, true, true, true, true, true, true, true, true, true] rfl rfl (any_of HT_.out (by kernel_rfl)) (fun _ _ _ h => h) (Or.inl ⟨by rfl, ?_⟩) ?_ ?_
  rotate_left
  · intro w'
    go_simp
    with_reducible rfl
  rotate_left
  · simp only [Act.put, List.setIfInBounds_toArray, List.set_cons_zero, List.set_cons_succ, i64_w, i32_w]
    rfl
  refine done_ (done_of HT_.out (by kernel_rfl)) ?_
  have hcz167_0 : w166.cell? ⟨gb392, 0, none⟩ = some (.int .i64 2147483648) := (blk_cell BK392.out 0).trans rfl
  have hcz167_1 : w166.cell? ⟨gb392, 1, none⟩ = some (.bool false) := (blk_cell BK392.out 1).trans rfl
  have hfz167_0 := blk_frozen BK392.out 0
  have hfz167_1 := blk_frozen BK392.out 1
  try go_wp2_with (first | ((with_reducible refine gate_callee (f := 41) rfl ?_); refine goesL_ (some 110) rfl rfl Try.func41 (by kernel_rfl) rfl #[.agg #[.int .i64 2147483648, .bool false]] rfl (by (try simp only [List.map_toArray, List.map_cons, List.map_nil]); first | done | rfl | (simp only [List.length_drop, List.length_take]; rfl)) ?_; (with_reducible refine (fixed_Neg.calls 2147483648 false t464 t465 _ A66.out).mono ?_); rintro e w168 ⟨rfl, hb⟩; refine ⟨_, rfl, ?_⟩; have n0_ := Aside0.mk (Kd.R_below (by (with_reducible repeat (first | apply Kd.R_alloc | apply Kd.R_drewN | apply Kd.R_drew)); exact HO439.out) hb); have n1_ := Aside0.mk (blk_below (g := gb392) (o := .cells #[.int .i64 2147483648, .bool false] 23 (0, 0)) (by (with_reducible repeat (first | refine blk_drewN ?_ _ | refine blk_drew ?_ | refine blk_alloc ?_ _)); exact BK392.out) hb); have n2_ := Aside0.mk (blk_below (g := gb429) (o := .cells #[.int .i64 8589934592, .bool true] 23 (0, 0)) (by (with_reducible repeat (first | refine blk_drewN ?_ _ | refine blk_drew ?_ | refine blk_alloc ?_ _)); exact BK429.out) hb); have n3_ := Aside0.mk (below_step (by repeat (first | (with_reducible first | exact HB.out | apply below_alloc | apply pw_below_drewN | apply below_drew1 | refine below_set ?_ GE392.out | refine below_set ?_ GE429.out) | exact HB.out)) hb); clear HO439; clear BK392; clear BK429; clear HB; have HO439 := n0_; have BK392 := n1_; have BK429 := n2_; have HB := n3_; clear n0_ n1_ n2_ n3_; (try clear hb); (try clear hb2); (try clear hk); (try clear hi)) | ((with_reducible refine gate_callee (f := 17) rfl ?_); refine goesL_ (some 111) rfl rfl Try.func17 (by kernel_rfl) rfl #[.agg #[.int .i64 t464, .bool t465]] rfl (by (try simp only [List.map_toArray, List.map_cons, List.map_nil]); first | done | rfl | (simp only [List.length_drop, List.length_take]; rfl)) ?_; (with_reducible refine (fixed_Floor.calls t464 t465 t466 _ A67.out).mono ?_); rintro e w169 ⟨rfl, hb⟩; refine ⟨_, rfl, ?_⟩; have n0_ := Aside0.mk (Kd.R_below (by (with_reducible repeat (first | apply Kd.R_alloc | apply Kd.R_drewN | apply Kd.R_drew)); exact HO439.out) hb); have n1_ := Aside0.mk (blk_below (g := gb392) (o := .cells #[.int .i64 2147483648, .bool false] 23 (0, 0)) (by (with_reducible repeat (first | refine blk_drewN ?_ _ | refine blk_drew ?_ | refine blk_alloc ?_ _)); exact BK392.out) hb); have n2_ := Aside0.mk (blk_below (g := gb429) (o := .cells #[.int .i64 8589934592, .bool true] 23 (0, 0)) (by (with_reducible repeat (first | refine blk_drewN ?_ _ | refine blk_drew ?_ | refine blk_alloc ?_ _)); exact BK429.out) hb); have n3_ := Aside0.mk (below_step (by repeat (first | (with_reducible first | exact HB.out | apply below_alloc | apply pw_below_drewN | apply below_drew1 | refine below_set ?_ GE392.out | refine below_set ?_ GE429.out) | exact HB.out)) hb); clear HO439; clear BK392; clear BK429; clear HB; have HO439 := n0_; have BK392 := n1_; have BK429 := n2_; have HB := n3_; clear n0_ n1_ n2_ n3_; (try clear hb); (try clear hb2); (try clear hk); (try clear hi); have hcz170_0 : w169.cell? ⟨gb392, 0, none⟩ = some (.int .i64 2147483648) := (blk_cell BK392.out 0).trans rfl; have hcz170_1 : w169.cell? ⟨gb392, 1, none⟩ = some (.bool false) := (blk_cell BK392.out 1).trans rfl; have hfz170_0 := blk_frozen BK392.out 0; have hfz170_1 := blk_frozen BK392.out 1) | (go_at_call 41; (with_reducible refine (fixed_Neg.calls 2147483648 false t467 t468 _ A69.out).mono ?_); rintro e w171 ⟨rfl, hb⟩; have n0_ := Aside0.mk (Kd.R_below (by (with_reducible repeat (first | apply Kd.R_alloc | apply Kd.R_drewN | apply Kd.R_drew)); exact HO439.out) hb); have n1_ := Aside0.mk (blk_below (g := gb392) (o := .cells #[.int .i64 2147483648, .bool false] 23 (0, 0)) (by (with_reducible repeat (first | refine blk_drewN ?_ _ | refine blk_drew ?_ | refine blk_alloc ?_ _)); exact BK392.out) hb); have n2_ := Aside0.mk (blk_below (g := gb429) (o := .cells #[.int .i64 8589934592, .bool true] 23 (0, 0)) (by (with_reducible repeat (first | refine blk_drewN ?_ _ | refine blk_drew ?_ | refine blk_alloc ?_ _)); exact BK429.out) hb); have n3_ := Aside0.mk (below_step (by repeat (first | (with_reducible first | exact HB.out | apply below_alloc | apply pw_below_drewN | apply below_drew1 | refine below_set ?_ GE392.out | refine below_set ?_ GE429.out) | exact HB.out)) hb); clear HO439; clear BK392; clear BK429; clear HB; have HO439 := n0_; have BK392 := n1_; have BK429 := n2_; have HB := n3_; clear n0_ n1_ n2_ n3_; (try clear hb); (try clear hb2); (try clear hk); (try clear hi)) | (go_at_call 19; (with_reducible refine (fixed_Round.calls t467 t468 t469 _ A70.out).mono ?_); rintro e w172 ⟨rfl, hb⟩; have n0_ := Aside0.mk (Kd.R_below (by (with_reducible repeat (first | apply Kd.R_alloc | apply Kd.R_drewN | apply Kd.R_drew)); exact HO439.out) hb); have n1_ := Aside0.mk (blk_below (g := gb392) (o := .cells #[.int .i64 2147483648, .bool false] 23 (0, 0)) (by (with_reducible repeat (first | refine blk_drewN ?_ _ | refine blk_drew ?_ | refine blk_alloc ?_ _)); exact BK392.out) hb); have n2_ := Aside0.mk (blk_below (g := gb429) (o := .cells #[.int .i64 8589934592, .bool true] 23 (0, 0)) (by (with_reducible repeat (first | refine blk_drewN ?_ _ | refine blk_drew ?_ | refine blk_alloc ?_ _)); exact BK429.out) hb); have n3_ := Aside0.mk (below_step (by repeat (first | (with_reducible first | exact HB.out | apply below_alloc | apply pw_below_drewN | apply below_drew1 | refine below_set ?_ GE392.out | refine below_set ?_ GE429.out) | exact HB.out)) hb); clear HO439; clear BK392; clear BK429; clear HB; have HO439 := n0_; have BK392 := n1_; have BK429 := n2_; have HB := n3_; clear n0_ n1_ n2_ n3_; (try clear hb); (try clear hb2); (try clear hk); (try clear hi); have hcz173_0 : w172.cell? ⟨gb392, 0, none⟩ = some (.int .i64 2147483648) := (blk_cell BK392.out 0).trans rfl; have hcz173_1 : w172.cell? ⟨gb392, 1, none⟩ = some (.bool false) := (blk_cell BK392.out 1).trans rfl; have hfz173_0 := blk_frozen BK392.out 0; have hfz173_1 := blk_frozen BK392.out 1) | (go_at_call 19; (with_reducible refine (fixed_Round.calls 2147483648 false t470 _ A72.out).mono ?_); rintro e w174 ⟨rfl, hb⟩; have n0_ := Aside0.mk (Kd.R_below (by (with_reducible repeat (first | apply Kd.R_alloc | apply Kd.R_drewN | apply Kd.R_drew)); exact HO439.out) hb); have n1_ := Aside0.mk (blk_below (g := gb392) (o := .cells #[.int .i64 2147483648, .bool false] 23 (0, 0)) (by (with_reducible repeat (first | refine blk_drewN ?_ _ | refine blk_drew ?_ | refine blk_alloc ?_ _)); exact BK392.out) hb); have n2_ := Aside0.mk (blk_below (g := gb429) (o := .cells #[.int .i64 8589934592, .bool true] 23 (0, 0)) (by (with_reducible repeat (first | refine blk_drewN ?_ _ | refine blk_drew ?_ | refine blk_alloc ?_ _)); exact BK429.out) hb); have n3_ := Aside0.mk (below_step (by repeat (first | (with_reducible first | exact HB.out | apply below_alloc | apply pw_below_drewN | apply below_drew1 | refine below_set ?_ GE392.out | refine below_set ?_ GE429.out) | exact HB.out)) hb); clear HO439; clear BK392; clear BK429; clear HB; have HO439 := n0_; have BK392 := n1_; have BK429 := n2_; have HB := n3_; clear n0_ n1_ n2_ n3_; (try clear hb); (try clear hb2); (try clear hk); (try clear hi)) | (go_at_call 50; (with_reducible refine (fixed_Ratio.calls k 5 4 t471 t472 _ A74.out).mono ?_); rintro e w175 ⟨rfl, hb⟩; have n0_ := Aside0.mk (Kd.R_below (by (with_reducible repeat (first | apply Kd.R_alloc | apply Kd.R_drewN | apply Kd.R_drew)); exact HO439.out) hb); have n1_ := Aside0.mk (blk_below (g := gb392) (o := .cells #[.int .i64 2147483648, .bool false] 23 (0, 0)) (by (with_reducible repeat (first | refine blk_drewN ?_ _ | refine blk_drew ?_ | refine blk_alloc ?_ _)); exact BK392.out) hb); have n2_ := Aside0.mk (blk_below (g := gb429) (o := .cells #[.int .i64 8589934592, .bool true] 23 (0, 0)) (by (with_reducible repeat (first | refine blk_drewN ?_ _ | refine blk_drew ?_ | refine blk_alloc ?_ _)); exact BK429.out) hb); have n3_ := Aside0.mk (below_step (by repeat (first | (with_reducible first | exact HB.out | apply below_alloc | apply pw_below_drewN | apply below_drew1 | refine below_set ?_ GE392.out | refine below_set ?_ GE429.out) | exact HB.out)) hb); clear HO439; clear BK392; clear BK429; clear HB; have HO439 := n0_; have BK392 := n1_; have BK429 := n2_; have HB := n3_; clear n0_ n1_ n2_ n3_; (try clear hb); (try clear hb2); (try clear hk); (try clear hi)) | (go_at_call 19; (with_reducible refine (fixed_Round.calls t471 t472 t473 _ A75.out).mono ?_); rintro e w176 ⟨rfl, hb⟩; have n0_ := Aside0.mk (Kd.R_below (by (with_reducible repeat (first | apply Kd.R_alloc | apply Kd.R_drewN | apply Kd.R_drew)); exact HO439.out) hb); have n1_ := Aside0.mk (blk_below (g := gb392) (o := .cells #[.int .i64 2147483648, .bool false] 23 (0, 0)) (by (with_reducible repeat (first | refine blk_drewN ?_ _ | refine blk_drew ?_ | refine blk_alloc ?_ _)); exact BK392.out) hb); have n2_ := Aside0.mk (blk_below (g := gb429) (o := .cells #[.int .i64 8589934592, .bool true] 23 (0, 0)) (by (with_reducible repeat (first | refine blk_drewN ?_ _ | refine blk_drew ?_ | refine blk_alloc ?_ _)); exact BK429.out) hb); have n3_ := Aside0.mk (below_step (by repeat (first | (with_reducible first | exact HB.out | apply below_alloc | apply pw_below_drewN | apply below_drew1 | refine below_set ?_ GE392.out | refine below_set ?_ GE429.out) | exact HB.out)) hb); clear HO439; clear BK392; clear BK429; clear HB; have HO439 := n0_; have BK392 := n1_; have BK429 := n2_; have HB := n3_; clear n0_ n1_ n2_ n3_; (try clear hb); (try clear hb2); (try clear hk); (try clear hi)) | ((with_reducible refine gate_callee (f := 21) rfl ?_); refine goesL_ (some 129) rfl rfl Try.func21 (by kernel_rfl) rfl #[.int .i64 2, .int .i64 3, .int .i64 6, .int .i64 1] rfl (by (try simp only [List.map_toArray, List.map_cons, List.map_nil]); first | done | rfl | (simp only [List.length_drop, List.length_take]; rfl)) ?_; (with_reducible refine (fixed_Order.calls k 2 3 6 1 t474 _ A76.out).mono ?_); rintro e w177 ⟨rfl, hb⟩; refine ⟨_, rfl, ?_⟩; have n0_ := Aside0.mk (Kd.R_below (by (with_reducible repeat (first | apply Kd.R_alloc | apply Kd.R_drewN | apply Kd.R_drew)); exact HO439.out) hb); have n1_ := Aside0.mk (blk_below (g := gb392) (o := .cells #[.int .i64 2147483648, .bool false] 23 (0, 0)) (by (with_reducible repeat (first | refine blk_drewN ?_ _ | refine blk_drew ?_ | refine blk_alloc ?_ _)); exact BK392.out) hb); have n2_ := Aside0.mk (blk_below (g := gb429) (o := .cells #[.int .i64 8589934592, .bool true] 23 (0, 0)) (by (with_reducible repeat (first | refine blk_drewN ?_ _ | refine blk_drew ?_ | refine blk_alloc ?_ _)); exact BK429.out) hb); have n3_ := Aside0.mk (below_step (by repeat (first | (with_reducible first | exact HB.out | apply below_alloc | apply pw_below_drewN | apply below_drew1 | refine below_set ?_ GE392.out | refine below_set ?_ GE429.out) | exact HB.out)) hb); clear HO439; clear BK392; clear BK429; clear HB; have HO439 := n0_; have BK392 := n1_; have BK429 := n2_; have HB := n3_; clear n0_ n1_ n2_ n3_; (try clear hb); (try clear hb2); (try clear hk); (try clear hi)) | (go_at_call 21; (with_reducible refine (fixed_Order.calls k (-2) 3 1 1 t475 _ A78.out).mono ?_); rintro e w178 ⟨rfl, hb⟩; have n0_ := Aside0.mk (Kd.R_below (by (with_reducible repeat (first | apply Kd.R_alloc | apply Kd.R_drewN | apply Kd.R_drew)); exact HO439.out) hb); have n1_ := Aside0.mk (blk_below (g := gb392) (o := .cells #[.int .i64 2147483648, .bool false] 23 (0, 0)) (by (with_reducible repeat (first | refine blk_drewN ?_ _ | refine blk_drew ?_ | refine blk_alloc ?_ _)); exact BK392.out) hb); have n2_ := Aside0.mk (blk_below (g := gb429) (o := .cells #[.int .i64 8589934592, .bool true] 23 (0, 0)) (by (with_reducible repeat (first | refine blk_drewN ?_ _ | refine blk_drew ?_ | refine blk_alloc ?_ _)); exact BK429.out) hb); have n3_ := Aside0.mk (below_step (by repeat (first | (with_reducible first | exact HB.out | apply below_alloc | apply pw_below_drewN | apply below_drew1 | refine below_set ?_ GE392.out | refine below_set ?_ GE429.out) | exact HB.out)) hb); clear HO439; clear BK392; clear BK429; clear HB; have HO439 := n0_; have BK392 := n1_; have BK429 := n2_; have HB := n3_; clear n0_ n1_ n2_ n3_; (try clear hb); (try clear hb2); (try clear hk); (try clear hi)) | (go_at_call 21; (with_reducible refine (fixed_Order.calls k 9223372036854775807 9223372036854775807 (-9223372036854775808) (-9223372036854775808) t476 _ A80.out).mono ?_); rintro e w179 ⟨rfl, hb⟩; have n0_ := Aside0.mk (Kd.R_below (by (with_reducible repeat (first | apply Kd.R_alloc | apply Kd.R_drewN | apply Kd.R_drew)); exact HO439.out) hb); have n1_ := Aside0.mk (blk_below (g := gb392) (o := .cells #[.int .i64 2147483648, .bool false] 23 (0, 0)) (by (with_reducible repeat (first | refine blk_drewN ?_ _ | refine blk_drew ?_ | refine blk_alloc ?_ _)); exact BK392.out) hb); have n2_ := Aside0.mk (blk_below (g := gb429) (o := .cells #[.int .i64 8589934592, .bool true] 23 (0, 0)) (by (with_reducible repeat (first | refine blk_drewN ?_ _ | refine blk_drew ?_ | refine blk_alloc ?_ _)); exact BK429.out) hb); have n3_ := Aside0.mk (below_step (by repeat (first | (with_reducible first | exact HB.out | apply below_alloc | apply pw_below_drewN | apply below_drew1 | refine below_set ?_ GE392.out | refine below_set ?_ GE429.out) | exact HB.out)) hb); clear HO439; clear BK392; clear BK429; clear HB; have HO439 := n0_; have BK392 := n1_; have BK429 := n2_; have HB := n3_; clear n0_ n1_ n2_ n3_; (try clear hb); (try clear hb2); (try clear hk); (try clear hi)) | ((with_reducible refine gate_callee (f := 45) rfl ?_); refine goesL_ (some 140) rfl rfl Try.func45 (by kernel_rfl) rfl #[.agg #[.int .i64 13493037705, .bool false]] rfl (by (try simp only [List.map_toArray, List.map_cons, List.map_nil]); first | done | rfl | (simp only [List.length_drop, List.length_take]; rfl)) ?_; (with_reducible refine (fixed_Wrap.calls 13493037705 false t477 t478 _ A81.out).mono ?_); rintro e w180 ⟨rfl, hb⟩; refine ⟨_, rfl, ?_⟩; have n0_ := Aside0.mk (Kd.R_below (by (with_reducible repeat (first | apply Kd.R_alloc | apply Kd.R_drewN | apply Kd.R_drew)); exact HO439.out) hb); have n1_ := Aside0.mk (blk_below (g := gb392) (o := .cells #[.int .i64 2147483648, .bool false] 23 (0, 0)) (by (with_reducible repeat (first | refine blk_drewN ?_ _ | refine blk_drew ?_ | refine blk_alloc ?_ _)); exact BK392.out) hb); have n2_ := Aside0.mk (blk_below (g := gb429) (o := .cells #[.int .i64 8589934592, .bool true] 23 (0, 0)) (by (with_reducible repeat (first | refine blk_drewN ?_ _ | refine blk_drew ?_ | refine blk_alloc ?_ _)); exact BK429.out) hb); have n3_ := Aside0.mk (below_step (by repeat (first | (with_reducible first | exact HB.out | apply below_alloc | apply pw_below_drewN | apply below_drew1 | refine below_set ?_ GE392.out | refine below_set ?_ GE429.out) | exact HB.out)) hb); clear HO439; clear BK392; clear BK429; clear HB; have HO439 := n0_; have BK392 := n1_; have BK429 := n2_; have HB := n3_; clear n0_ n1_ n2_ n3_; (try clear hb); (try clear hb2); (try clear hk); (try clear hi)) | (go_at_call 46; (with_reducible refine (fixed_Sin.calls k 0 false t479 t480 _ A83.out).mono ?_); rintro e w181 ⟨rfl, hb⟩; have n0_ := Aside0.mk (Kd.R_below (by (with_reducible repeat (first | apply Kd.R_alloc | apply Kd.R_drewN | apply Kd.R_drew)); exact HO439.out) hb); have n1_ := Aside0.mk (blk_below (g := gb392) (o := .cells #[.int .i64 2147483648, .bool false] 23 (0, 0)) (by (with_reducible repeat (first | refine blk_drewN ?_ _ | refine blk_drew ?_ | refine blk_alloc ?_ _)); exact BK392.out) hb); have n2_ := Aside0.mk (blk_below (g := gb429) (o := .cells #[.int .i64 8589934592, .bool true] 23 (0, 0)) (by (with_reducible repeat (first | refine blk_drewN ?_ _ | refine blk_drew ?_ | refine blk_alloc ?_ _)); exact BK429.out) hb); have n3_ := Aside0.mk (below_step (by repeat (first | (with_reducible first | exact HB.out | apply below_alloc | apply pw_below_drewN | apply below_drew1 | refine below_set ?_ GE392.out | refine below_set ?_ GE429.out) | exact HB.out)) hb); clear HO439; clear BK392; clear BK429; clear HB; have HO439 := n0_; have BK392 := n1_; have BK429 := n2_; have HB := n3_; clear n0_ n1_ n2_ n3_; (try clear hb); (try clear hb2); (try clear hk); (try clear hi)) | (go_at_call 48; (with_reducible refine (bagatellelaw01_text.calls t479 t480 (⟨#[48]⟩ : ByteArray) true _ A84.out).mono ?_); rintro e w182 ⟨rfl, hb⟩; have n0_ := Aside0.mk (Kd.R_below (by (with_reducible repeat (first | apply Kd.R_alloc | apply Kd.R_drewN | apply Kd.R_drew)); exact HO439.out) hb); have n1_ := Aside0.mk (blk_below (g := gb392) (o := .cells #[.int .i64 2147483648, .bool false] 23 (0, 0)) (by (with_reducible repeat (first | refine blk_drewN ?_ _ | refine blk_drew ?_ | refine blk_alloc ?_ _)); exact BK392.out) hb); have n2_ := Aside0.mk (blk_below (g := gb429) (o := .cells #[.int .i64 8589934592, .bool true] 23 (0, 0)) (by (with_reducible repeat (first | refine blk_drewN ?_ _ | refine blk_drew ?_ | refine blk_alloc ?_ _)); exact BK429.out) hb); have n3_ := Aside0.mk (below_step (by repeat (first | (with_reducible first | exact HB.out | apply below_alloc | apply pw_below_drewN | apply below_drew1 | refine below_set ?_ GE392.out | refine below_set ?_ GE429.out) | exact HB.out)) hb); clear HO439; clear BK392; clear BK429; clear HB; have HO439 := n0_; have BK392 := n1_; have BK429 := n2_; have HB := n3_; clear n0_ n1_ n2_ n3_; (try clear hb); (try clear hb2); (try clear hk); (try clear hi)) | ((with_reducible refine gate_callee (f := 51) rfl ?_); refine goesL_ (some 149) rfl rfl Try.func51 (by kernel_rfl) rfl #[.string (⟨#[48, 46, 53]⟩ : ByteArray)] rfl (by (try simp only [List.map_toArray, List.map_cons, List.map_nil]); first | done | rfl | (simp only [List.length_drop, List.length_take]; rfl)) ?_; (with_reducible refine (fixed_Parse.calls k (⟨#[48, 46, 53]⟩ : ByteArray) t482 t483 t484 _ A85.out).mono ?_); rintro e w183 ⟨rfl, hb⟩; refine ⟨_, rfl, ?_⟩; have n0_ := Aside0.mk (Kd.R_below (by (with_reducible repeat (first | apply Kd.R_alloc | apply Kd.R_drewN | apply Kd.R_drew)); exact HO439.out) hb); have n1_ := Aside0.mk (blk_below (g := gb392) (o := .cells #[.int .i64 2147483648, .bool false] 23 (0, 0)) (by (with_reducible repeat (first | refine blk_drewN ?_ _ | refine blk_drew ?_ | refine blk_alloc ?_ _)); exact BK392.out) hb); have n2_ := Aside0.mk (blk_below (g := gb429) (o := .cells #[.int .i64 8589934592, .bool true] 23 (0, 0)) (by (with_reducible repeat (first | refine blk_drewN ?_ _ | refine blk_drew ?_ | refine blk_alloc ?_ _)); exact BK429.out) hb); have n3_ := Aside0.mk (below_step (by repeat (first | (with_reducible first | exact HB.out | apply below_alloc | apply pw_below_drewN | apply below_drew1 | refine below_set ?_ GE392.out | refine below_set ?_ GE429.out) | exact HB.out)) hb); clear HO439; clear BK392; clear BK429; clear HB; have HO439 := n0_; have BK392 := n1_; have BK429 := n2_; have HB := n3_; clear n0_ n1_ n2_ n3_; (try clear hb); (try clear hb2); (try clear hk); (try clear hi)) | ((with_reducible refine gate_dst (N := 12) rfl ?_); (try (refine gate_guard (by rfl) ?_; dsimp only)); refine box_event ?hg (N := 12) ?hd (cs := #[.int .i64 0, .bool false]) (t := 23) ?hr ?_; (case hd => rfl); (case hg => rfl); (case hr => first | (go_simp; done) | (go_simp; rfl)); intro gb485 hg w184 hbox hb; have n0_ := Aside0.mk (Kd.R_below (Kd.R_elderB (by (with_reducible repeat (first | apply Kd.R_alloc | apply Kd.R_drewN | apply Kd.R_drew)); exact HO439.out) gb485 (Nat.le_of_eq hg.symm)) hb); have n1_ := Aside0.mk (blk_below (g := gb392) (o := .cells #[.int .i64 2147483648, .bool false] 23 (0, 0)) (by (with_reducible repeat (first | refine blk_drewN ?_ _ | refine blk_drew ?_ | refine blk_alloc ?_ _)); exact BK392.out) hb); have n2_ := Aside0.mk (blk_below (g := gb429) (o := .cells #[.int .i64 8589934592, .bool true] 23 (0, 0)) (by (with_reducible repeat (first | refine blk_drewN ?_ _ | refine blk_drew ?_ | refine blk_alloc ?_ _)); exact BK429.out) hb); have n3_ := Aside0.mk (below_step (by repeat (first | (with_reducible first | exact HB.out | apply below_alloc | apply pw_below_drewN | apply below_drew1 | refine below_set ?_ GE392.out | refine below_set ?_ GE429.out) | exact HB.out)) hb); have n4_ := Aside0.mk (hbox); have n5_ := Aside0.mk ((by rw [hg]; exact (below_size (by repeat (first | (with_reducible first | exact HB.out | apply below_alloc | apply pw_below_drewN | apply below_drew1 | refine below_set ?_ GE392.out | refine below_set ?_ GE429.out) | exact HB.out))) : w.heap.size ≤ gb485)); have n6_ := Aside0.mk ((by rw [hg]; exact (below_size (by repeat (first | (with_reducible first | exact HB.out | apply below_alloc | apply pw_below_drewN | apply below_drew1 | refine below_set ?_ GE392.out | refine below_set ?_ GE429.out) | exact HB.out))) : w.heap.size ≤ gb485)); have n7_ := Aside0.mk ((by rw [hg]; exact Nat.ne_of_lt (blk_lt (g := gb392) (o := .cells #[.int .i64 2147483648, .bool false] 23 (0, 0)) (by (with_reducible repeat (first | refine blk_drewN ?_ _ | refine blk_drew ?_ | refine blk_alloc ?_ _)); exact BK392.out)) : gb392 ≠ gb485)); have n8_ := Aside0.mk ((by rw [hg]; exact Nat.ne_of_gt (blk_lt (g := gb392) (o := .cells #[.int .i64 2147483648, .bool false] 23 (0, 0)) (by (with_reducible repeat (first | refine blk_drewN ?_ _ | refine blk_drew ?_ | refine blk_alloc ?_ _)); exact BK392.out)) : gb485 ≠ gb392)); have n9_ := Aside0.mk ((by rw [hg]; exact Nat.ne_of_lt (blk_lt (g := gb429) (o := .cells #[.int .i64 8589934592, .bool true] 23 (0, 0)) (by (with_reducible repeat (first | refine blk_drewN ?_ _ | refine blk_drew ?_ | refine blk_alloc ?_ _)); exact BK429.out)) : gb429 ≠ gb485)); have n10_ := Aside0.mk ((by rw [hg]; exact Nat.ne_of_gt (blk_lt (g := gb429) (o := .cells #[.int .i64 8589934592, .bool true] 23 (0, 0)) (by (with_reducible repeat (first | refine blk_drewN ?_ _ | refine blk_drew ?_ | refine blk_alloc ?_ _)); exact BK429.out)) : gb485 ≠ gb429)); clear HO439; clear BK392; clear BK429; clear HB; have HO439 := n0_; have BK392 := n1_; have BK429 := n2_; have HB := n3_; have BK485 := n4_; have GW485 := n5_; have GE485 := n6_; have NB392_485 := n7_; have NB485_392 := n8_; have NB429_485 := n9_; have NB485_429 := n10_; clear n0_ n1_ n2_ n3_ n4_ n5_ n6_ n7_ n8_ n9_ n10_; clear hb hbox hg; have hnb185 := NB485_392.out; have hnc185 := NB392_485.out; have hnb186 := NB485_429.out; have hnc186 := NB429_485.out; have hcz187_0 : w184.cell? ⟨gb485, 0, none⟩ = some (.int .i64 0) := (blk_cell BK485.out 0).trans rfl; have hcz187_1 : w184.cell? ⟨gb485, 1, none⟩ = some (.bool false) := (blk_cell BK485.out 1).trans rfl; have hfz187_0 := blk_frozen BK485.out 0; have hfz187_1 := blk_frozen BK485.out 1) | ((with_reducible refine gate_callee (f := 51) rfl ?_); refine goesL_ (some 153) rfl rfl Try.func51 (by kernel_rfl) rfl #[.string (⟨#[49, 33]⟩ : ByteArray)] rfl (by (try simp only [List.map_toArray, List.map_cons, List.map_nil]); first | done | rfl | (simp only [List.length_drop, List.length_take]; rfl)) ?_; (with_reducible refine (fixed_Parse.calls k (⟨#[49, 33]⟩ : ByteArray) t486 t487 t488 _ A86.out).mono ?_); rintro e w188 ⟨rfl, hb⟩; refine ⟨_, rfl, ?_⟩; have n0_ := Aside0.mk (Kd.R_below (by (with_reducible repeat (first | apply Kd.R_alloc | apply Kd.R_drewN | apply Kd.R_drew)); exact (Kd.R_mono (Kd.R_far (p := ⟨gb485, 1, none⟩) (Kd.R_far (p := ⟨gb485, 0, none⟩) (Kd.R_mono HO439.out (fun k_ hk => (⟨hk, hk.2⟩ : _ ∧ k_ ≠ gb485))) (fun _ hk => hk.2) (.int .i64 t482)) (fun _ hk => hk.2) (.bool t483)) (fun _ h_ => h_.1))) hb); have n1_ := Aside0.mk (blk_below (g := gb392) (o := .cells #[.int .i64 2147483648, .bool false] 23 (0, 0)) (by (with_reducible repeat (first | refine blk_drewN ?_ _ | refine blk_drew ?_ | refine blk_alloc ?_ _)); refine blk_far ?_ NB392_485.out _; (with_reducible repeat (first | refine blk_drewN ?_ _ | refine blk_drew ?_ | refine blk_alloc ?_ _)); refine blk_far ?_ NB392_485.out _; (with_reducible repeat (first | refine blk_drewN ?_ _ | refine blk_drew ?_ | refine blk_alloc ?_ _)); exact BK392.out) hb); have n2_ := Aside0.mk (blk_below (g := gb429) (o := .cells #[.int .i64 8589934592, .bool true] 23 (0, 0)) (by (with_reducible repeat (first | refine blk_drewN ?_ _ | refine blk_drew ?_ | refine blk_alloc ?_ _)); refine blk_far ?_ NB429_485.out _; (with_reducible repeat (first | refine blk_drewN ?_ _ | refine blk_drew ?_ | refine blk_alloc ?_ _)); refine blk_far ?_ NB429_485.out _; (with_reducible repeat (first | refine blk_drewN ?_ _ | refine blk_drew ?_ | refine blk_alloc ?_ _)); exact BK429.out) hb); have n3_ := Aside0.mk (blk_below (g := gb485) (o := .cells #[.int .i64 t482, .bool t483] 23 (0, 0)) (by (with_reducible repeat (first | refine blk_drewN ?_ _ | refine blk_drew ?_ | refine blk_alloc ?_ _)); refine blk_put (cs := #[.int .i64 t482, .bool false]) ?_ 1 _ rfl; (with_reducible repeat (first | refine blk_drewN ?_ _ | refine blk_drew ?_ | refine blk_alloc ?_ _)); refine blk_put (cs := #[.int .i64 0, .bool false]) ?_ 0 _ rfl; (with_reducible repeat (first | refine blk_drewN ?_ _ | refine blk_drew ?_ | refine blk_alloc ?_ _)); exact BK485.out) hb); have n4_ := Aside0.mk (below_step (by repeat (first | (with_reducible first | exact HB.out | apply below_alloc | apply pw_below_drewN | apply below_drew1 | refine below_set ?_ GE392.out | refine below_set ?_ GE429.out | refine below_set ?_ GE485.out) | exact HB.out)) hb); clear HO439; clear BK392; clear BK429; clear BK485; clear HB; have HO439 := n0_; have BK392 := n1_; have BK429 := n2_; have BK485 := n3_; have HB := n4_; clear n0_ n1_ n2_ n3_ n4_; (try clear hb); (try clear hb2); (try clear hk); (try clear hi)) | ((with_reducible refine gate_dst (N := 14) rfl ?_); (try (refine gate_guard (by rfl) ?_; dsimp only)); refine box_event ?hg (N := 14) ?hd (cs := #[.int .i64 0, .bool false]) (t := 23) ?hr ?_; (case hd => rfl); (case hg => rfl); (case hr => first | (go_simp; done) | (go_simp; rfl)); intro gb489 hg w189 hbox hb; have n0_ := Aside0.mk (Kd.R_below (Kd.R_elderB (by (with_reducible repeat (first | apply Kd.R_alloc | apply Kd.R_drewN | apply Kd.R_drew)); exact HO439.out) gb489 (Nat.le_of_eq hg.symm)) hb); have n1_ := Aside0.mk (blk_below (g := gb392) (o := .cells #[.int .i64 2147483648, .bool false] 23 (0, 0)) (by (with_reducible repeat (first | refine blk_drewN ?_ _ | refine blk_drew ?_ | refine blk_alloc ?_ _)); exact BK392.out) hb); have n2_ := Aside0.mk (blk_below (g := gb429) (o := .cells #[.int .i64 8589934592, .bool true] 23 (0, 0)) (by (with_reducible repeat (first | refine blk_drewN ?_ _ | refine blk_drew ?_ | refine blk_alloc ?_ _)); exact BK429.out) hb); have n3_ := Aside0.mk (blk_below (g := gb485) (o := .cells #[.int .i64 t482, .bool t483] 23 (0, 0)) (by (with_reducible repeat (first | refine blk_drewN ?_ _ | refine blk_drew ?_ | refine blk_alloc ?_ _)); exact BK485.out) hb); have n4_ := Aside0.mk (below_step (by repeat (first | (with_reducible first | exact HB.out | apply below_alloc | apply pw_below_drewN | apply below_drew1 | refine below_set ?_ GE392.out | refine below_set ?_ GE429.out | refine below_set ?_ GE485.out) | exact HB.out)) hb); have n5_ := Aside0.mk (hbox); have n6_ := Aside0.mk ((by rw [hg]; exact (below_size (by repeat (first | (with_reducible first | exact HB.out | apply below_alloc | apply pw_below_drewN | apply below_drew1 | refine below_set ?_ GE392.out | refine below_set ?_ GE429.out | refine below_set ?_ GE485.out) | exact HB.out))) : w.heap.size ≤ gb489)); have n7_ := Aside0.mk ((by rw [hg]; exact (below_size (by repeat (first | (with_reducible first | exact HB.out | apply below_alloc | apply pw_below_drewN | apply below_drew1 | refine below_set ?_ GE392.out | refine below_set ?_ GE429.out | refine below_set ?_ GE485.out) | exact HB.out))) : w.heap.size ≤ gb489)); have n8_ := Aside0.mk ((by rw [hg]; exact Nat.ne_of_lt (blk_lt (g := gb392) (o := .cells #[.int .i64 2147483648, .bool false] 23 (0, 0)) (by (with_reducible repeat (first | refine blk_drewN ?_ _ | refine blk_drew ?_ | refine blk_alloc ?_ _)); exact BK392.out)) : gb392 ≠ gb489)); have n9_ := Aside0.mk ((by rw [hg]; exact Nat.ne_of_gt (blk_lt (g := gb392) (o := .cells #[.int .i64 2147483648, .bool false] 23 (0, 0)) (by (with_reducible repeat (first | refine blk_drewN ?_ _ | refine blk_drew ?_ | refine blk_alloc ?_ _)); exact BK392.out)) : gb489 ≠ gb392)); have n10_ := Aside0.mk ((by rw [hg]; exact Nat.ne_of_lt (blk_lt (g := gb429) (o := .cells #[.int .i64 8589934592, .bool true] 23 (0, 0)) (by (with_reducible repeat (first | refine blk_drewN ?_ _ | refine blk_drew ?_ | refine blk_alloc ?_ _)); exact BK429.out)) : gb429 ≠ gb489)); have n11_ := Aside0.mk ((by rw [hg]; exact Nat.ne_of_gt (blk_lt (g := gb429) (o := .cells #[.int .i64 8589934592, .bool true] 23 (0, 0)) (by (with_reducible repeat (first | refine blk_drewN ?_ _ | refine blk_drew ?_ | refine blk_alloc ?_ _)); exact BK429.out)) : gb489 ≠ gb429)); have n12_ := Aside0.mk ((by rw [hg]; exact Nat.ne_of_lt (blk_lt (g := gb485) (o := .cells #[.int .i64 t482, .bool t483] 23 (0, 0)) (by (with_reducible repeat (first | refine blk_drewN ?_ _ | refine blk_drew ?_ | refine blk_alloc ?_ _)); exact BK485.out)) : gb485 ≠ gb489)); have n13_ := Aside0.mk ((by rw [hg]; exact Nat.ne_of_gt (blk_lt (g := gb485) (o := .cells #[.int .i64 t482, .bool t483] 23 (0, 0)) (by (with_reducible repeat (first | refine blk_drewN ?_ _ | refine blk_drew ?_ | refine blk_alloc ?_ _)); exact BK485.out)) : gb489 ≠ gb485)); clear HO439; clear BK392; clear BK429; clear BK485; clear HB; have HO439 := n0_; have BK392 := n1_; have BK429 := n2_; have BK485 := n3_; have HB := n4_; have BK489 := n5_; have GW489 := n6_; have GE489 := n7_; have NB392_489 := n8_; have NB489_392 := n9_; have NB429_489 := n10_; have NB489_429 := n11_; have NB485_489 := n12_; have NB489_485 := n13_; clear n0_ n1_ n2_ n3_ n4_ n5_ n6_ n7_ n8_ n9_ n10_ n11_ n12_ n13_; clear hb hbox hg; have hnb190 := NB489_392.out; have hnc190 := NB392_489.out; have hnb191 := NB489_429.out; have hnc191 := NB429_489.out; have hnb192 := NB489_485.out; have hnc192 := NB485_489.out; have hcz193_0 : w189.cell? ⟨gb489, 0, none⟩ = some (.int .i64 0) := (blk_cell BK489.out 0).trans rfl; have hcz193_1 : w189.cell? ⟨gb489, 1, none⟩ = some (.bool false) := (blk_cell BK489.out 1).trans rfl; have hfz193_0 := blk_frozen BK489.out 0; have hfz193_1 := blk_frozen BK489.out 1; have hcz194_0 : w189.cell? ⟨gb485, 0, none⟩ = some (.int .i64 t482) := (blk_cell BK485.out 0).trans rfl; have hcz194_1 : w189.cell? ⟨gb485, 1, none⟩ = some (.bool t483) := (blk_cell BK485.out 1).trans rfl; have hfz194_0 := blk_frozen BK485.out 0; have hfz194_1 := blk_frozen BK485.out 1; have hcz195_0 : w189.cell? ⟨gb392, 0, none⟩ = some (.int .i64 2147483648) := (blk_cell BK392.out 0).trans rfl; have hcz195_1 : w189.cell? ⟨gb392, 1, none⟩ = some (.bool false) := (blk_cell BK392.out 1).trans rfl; have hfz195_0 := blk_frozen BK392.out 0; have hfz195_1 := blk_frozen BK392.out 1) | (go_at_call 52; (with_reducible refine (bagatellelaw01_no.calls k (⟨#[45, 48]⟩ : ByteArray) true _ A91.out).mono ?_); rintro e w196 ⟨rfl, hb⟩; have n0_ := Aside0.mk (Kd.R_below (by (with_reducible repeat (first | apply Kd.R_alloc | apply Kd.R_drewN | apply Kd.R_drew)); exact (Kd.R_mono (Kd.R_far (p := ⟨gb489, 1, none⟩) (Kd.R_far (p := ⟨gb489, 0, none⟩) (Kd.R_mono HO439.out (fun k_ hk => (⟨hk, hk.2⟩ : _ ∧ k_ ≠ gb489))) (fun _ hk => hk.2) (.int .i64 t486)) (fun _ hk => hk.2) (.bool t487)) (fun _ h_ => h_.1))) hb); have n1_ := Aside0.mk (blk_below (g := gb392) (o := .cells #[.int .i64 2147483648, .bool false] 23 (0, 0)) (by (with_reducible repeat (first | refine blk_drewN ?_ _ | refine blk_drew ?_ | refine blk_alloc ?_ _)); refine blk_far ?_ NB392_489.out _; (with_reducible repeat (first | refine blk_drewN ?_ _ | refine blk_drew ?_ | refine blk_alloc ?_ _)); refine blk_far ?_ NB392_489.out _; (with_reducible repeat (first | refine blk_drewN ?_ _ | refine blk_drew ?_ | refine blk_alloc ?_ _)); exact BK392.out) hb); have n2_ := Aside0.mk (blk_below (g := gb429) (o := .cells #[.int .i64 8589934592, .bool true] 23 (0, 0)) (by (with_reducible repeat (first | refine blk_drewN ?_ _ | refine blk_drew ?_ | refine blk_alloc ?_ _)); refine blk_far ?_ NB429_489.out _; (with_reducible repeat (first | refine blk_drewN ?_ _ | refine blk_drew ?_ | refine blk_alloc ?_ _)); refine blk_far ?_ NB429_489.out _; (with_reducible repeat (first | refine blk_drewN ?_ _ | refine blk_drew ?_ | refine blk_alloc ?_ _)); exact BK429.out) hb); have n3_ := Aside0.mk (blk_below (g := gb485) (o := .cells #[.int .i64 t482, .bool t483] 23 (0, 0)) (by (with_reducible repeat (first | refine blk_drewN ?_ _ | refine blk_drew ?_ | refine blk_alloc ?_ _)); refine blk_far ?_ NB485_489.out _; (with_reducible repeat (first | refine blk_drewN ?_ _ | refine blk_drew ?_ | refine blk_alloc ?_ _)); refine blk_far ?_ NB485_489.out _; (with_reducible repeat (first | refine blk_drewN ?_ _ | refine blk_drew ?_ | refine blk_alloc ?_ _)); exact BK485.out) hb); have n4_ := Aside0.mk (blk_below (g := gb489) (o := .cells #[.int .i64 t486, .bool t487] 23 (0, 0)) (by (with_reducible repeat (first | refine blk_drewN ?_ _ | refine blk_drew ?_ | refine blk_alloc ?_ _)); refine blk_put (cs := #[.int .i64 t486, .bool false]) ?_ 1 _ rfl; (with_reducible repeat (first | refine blk_drewN ?_ _ | refine blk_drew ?_ | refine blk_alloc ?_ _)); refine blk_put (cs := #[.int .i64 0, .bool false]) ?_ 0 _ rfl; (with_reducible repeat (first | refine blk_drewN ?_ _ | refine blk_drew ?_ | refine blk_alloc ?_ _)); exact BK489.out) hb); have n5_ := Aside0.mk (below_step (by repeat (first | (with_reducible first | exact HB.out | apply below_alloc | apply pw_below_drewN | apply below_drew1 | refine below_set ?_ GE392.out | refine below_set ?_ GE429.out | refine below_set ?_ GE485.out | refine below_set ?_ GE489.out) | exact HB.out)) hb); clear HO439; clear BK392; clear BK429; clear BK485; clear BK489; clear HB; have HO439 := n0_; have BK392 := n1_; have BK429 := n2_; have BK485 := n3_; have BK489 := n4_; have HB := n5_; clear n0_ n1_ n2_ n3_ n4_ n5_; (try clear hb); (try clear hb2); (try clear hk); (try clear hi)) | (go_at_call 52; (with_reducible refine (bagatellelaw01_no.calls k (⟨#[46, 53]⟩ : ByteArray) true _ A93.out).mono ?_); rintro e w197 ⟨rfl, hb⟩; have n0_ := Aside0.mk (Kd.R_below (by (with_reducible repeat (first | apply Kd.R_alloc | apply Kd.R_drewN | apply Kd.R_drew)); exact HO439.out) hb); have n1_ := Aside0.mk (blk_below (g := gb392) (o := .cells #[.int .i64 2147483648, .bool false] 23 (0, 0)) (by (with_reducible repeat (first | refine blk_drewN ?_ _ | refine blk_drew ?_ | refine blk_alloc ?_ _)); exact BK392.out) hb); have n2_ := Aside0.mk (blk_below (g := gb429) (o := .cells #[.int .i64 8589934592, .bool true] 23 (0, 0)) (by (with_reducible repeat (first | refine blk_drewN ?_ _ | refine blk_drew ?_ | refine blk_alloc ?_ _)); exact BK429.out) hb); have n3_ := Aside0.mk (blk_below (g := gb485) (o := .cells #[.int .i64 t482, .bool t483] 23 (0, 0)) (by (with_reducible repeat (first | refine blk_drewN ?_ _ | refine blk_drew ?_ | refine blk_alloc ?_ _)); exact BK485.out) hb); have n4_ := Aside0.mk (blk_below (g := gb489) (o := .cells #[.int .i64 t486, .bool t487] 23 (0, 0)) (by (with_reducible repeat (first | refine blk_drewN ?_ _ | refine blk_drew ?_ | refine blk_alloc ?_ _)); exact BK489.out) hb); have n5_ := Aside0.mk (below_step (by repeat (first | (with_reducible first | exact HB.out | apply below_alloc | apply pw_below_drewN | apply below_drew1 | refine below_set ?_ GE392.out | refine below_set ?_ GE429.out | refine below_set ?_ GE485.out | refine below_set ?_ GE489.out) | exact HB.out)) hb); clear HO439; clear BK392; clear BK429; clear BK485; clear BK489; clear HB; have HO439 := n0_; have BK392 := n1_; have BK429 := n2_; have BK485 := n3_; have BK489 := n4_; have HB := n5_; clear n0_ n1_ n2_ n3_ n4_ n5_; (try clear hb); (try clear hb2); (try clear hk); (try clear hi)) | (go_at_call 52; (with_reducible refine (bagatellelaw01_no.calls k (⟨#[48, 46, 53, 48]⟩ : ByteArray) t492 _ A95.out).mono ?_); rintro e w198 ⟨rfl, hb⟩; have n0_ := Aside0.mk (Kd.R_below (by (with_reducible repeat (first | apply Kd.R_alloc | apply Kd.R_drewN | apply Kd.R_drew)); exact HO439.out) hb); have n1_ := Aside0.mk (blk_below (g := gb392) (o := .cells #[.int .i64 2147483648, .bool false] 23 (0, 0)) (by (with_reducible repeat (first | refine blk_drewN ?_ _ | refine blk_drew ?_ | refine blk_alloc ?_ _)); exact BK392.out) hb); have n2_ := Aside0.mk (blk_below (g := gb429) (o := .cells #[.int .i64 8589934592, .bool true] 23 (0, 0)) (by (with_reducible repeat (first | refine blk_drewN ?_ _ | refine blk_drew ?_ | refine blk_alloc ?_ _)); exact BK429.out) hb); have n3_ := Aside0.mk (blk_below (g := gb485) (o := .cells #[.int .i64 t482, .bool t483] 23 (0, 0)) (by (with_reducible repeat (first | refine blk_drewN ?_ _ | refine blk_drew ?_ | refine blk_alloc ?_ _)); exact BK485.out) hb); have n4_ := Aside0.mk (blk_below (g := gb489) (o := .cells #[.int .i64 t486, .bool t487] 23 (0, 0)) (by (with_reducible repeat (first | refine blk_drewN ?_ _ | refine blk_drew ?_ | refine blk_alloc ?_ _)); exact BK489.out) hb); have n5_ := Aside0.mk (below_step (by repeat (first | (with_reducible first | exact HB.out | apply below_alloc | apply pw_below_drewN | apply below_drew1 | refine below_set ?_ GE392.out | refine below_set ?_ GE429.out | refine below_set ?_ GE485.out | refine below_set ?_ GE489.out) | exact HB.out)) hb); clear HO439; clear BK392; clear BK429; clear BK485; clear BK489; clear HB; have HO439 := n0_; have BK392 := n1_; have BK429 := n2_; have BK485 := n3_; have BK489 := n4_; have HB := n5_; clear n0_ n1_ n2_ n3_ n4_ n5_; (try clear hb); (try clear hb2); (try clear hk); (try clear hi)))
  go_ret
  exact ⟨by first | rfl | (simp [errW_none, errW_some] <;> rfl) | (simp [*, errW_none, errW_some] <;> rfl), by repeat (first | (with_reducible first | exact HB.out | apply below_alloc | apply pw_below_drewN | apply below_drew1 | refine below_set ?_ GE392.out | refine below_set ?_ GE429.out | refine below_set ?_ GE485.out | refine below_set ?_ GE489.out) | exact HB.out)⟩
end Go.Proofs.Ytenpiaafkmfjfaa.B

end
section
namespace Go.Proofs.Ytenpiaafkmfjfaa.B
open Go.RowKit Go.Proofs.YtenpiaafkmfjfaaW.PrintWords
theorem known_text {v : Int} {f : Bool} (s : ByteArray) (h : I64 v) (e : textB v f = s.data.toList) : bagatellelaw01_text.f v f s = some true := by
  unfold bagatellelaw01_text.f
  rw [text_f f h, Option.bind_some, bl, bl, ← e]
  simp
theorem known_no (k : Nat) (hk : 1100 ≤ k) (s : ByteArray) (hs : s.size ≤ 1000) (e : parseF s.data.toList = (0, false, 4)) : bagatellelaw01_no.f k s = some true := by
  unfold bagatellelaw01_no.f
  rw [parse_f k hk s hs, e, Option.bind_some]
  dsimp only
  rw [if_pos rfl]
  rfl
theorem known_f (k : Nat) (hk : 18446744073709551670 ≤ k) : bagatellelaw01_FixedKnown.f k = some true := by
  have e0 : fixed_Int.f k 3 = some (12884901888, false) := by
    rw [int_f k (by omega) (by unfold I64; omega)]; decide +kernel
  have e1 : bagatellelaw01_text.f 12884901888 false (⟨#[51]⟩ : ByteArray) = some true := by
    exact known_text _ (by unfold I64; omega) (by decide +kernel)
  have e2 : fixed_Int.f k 2147483648 = some (9223372036854775807, true) := by
    rw [int_f k (by omega) (by unfold I64; omega)]; decide +kernel
  have e3 : bagatellelaw01_text.f 9223372036854775807 true (⟨#[50, 49, 52, 55, 52, 56, 51, 54, 52, 55, 46, 57, 57, 57, 57, 57, 57, 57, 57, 57, 55, 54, 55, 49, 54, 57, 51, 53, 54, 51, 52, 54, 49, 51, 48, 51, 55, 49, 48, 57, 51, 55, 53, 33]⟩ : ByteArray) = some true := by
    exact known_text _ (by unfold I64; omega) (by decide +kernel)
  have e4 : fixed_Int.f k (-2147483648) = some ((-9223372036854775807), true) := by
    rw [int_f k (by omega) (by unfold I64; omega)]; decide +kernel
  have e5 : bagatellelaw01_text.f (-9223372036854775807) true ((⟨#[45]⟩ : ByteArray) ++ (⟨#[50, 49, 52, 55, 52, 56, 51, 54, 52, 55, 46, 57, 57, 57, 57, 57, 57, 57, 57, 57, 55, 54, 55, 49, 54, 57, 51, 53, 54, 51, 52, 54, 49, 51, 48, 51, 55, 49, 48, 57, 51, 55, 53, 33]⟩ : ByteArray)) = some true := by
    exact known_text _ (by unfold I64; omega) (by decide +kernel)
  have e6 : fixed_Ratio.f k 1 3 = some (1431655765, false) := by
    rw [ratio_f k (by omega) (by unfold I64; omega) (by unfold I64; omega) (by decide)]; decide +kernel
  have e7 : fixed_Ratio.f k (-1) 2 = some ((-2147483648), false) := by
    rw [ratio_f k (by omega) (by unfold I64; omega) (by unfold I64; omega) (by decide)]; decide +kernel
  have e8 : bagatellelaw01_text.f (-2147483648) false (⟨#[45, 48, 46, 53]⟩ : ByteArray) = some true := by
    exact known_text _ (by unfold I64; omega) (by decide +kernel)
  have e9 : fixed_Ratio.f k 5 0 = some (9223372036854775807, true) := by
    rw [ratio_0]; decide +kernel
  have e10 : fixed_Ratio.f k 0 0 = some (0, true) := by
    rw [ratio_0]; decide +kernel
  have e11 : bagatellelaw01_text.f 0 true (⟨#[48, 33]⟩ : ByteArray) = some true := by
    exact known_text _ (by unfold I64; omega) (by decide +kernel)
  have e12 : fixed_Ratio.f k 3 2 = some (6442450944, false) := by
    rw [ratio_f k (by omega) (by unfold I64; omega) (by unfold I64; omega) (by decide)]; decide +kernel
  have e13 : fixed_Neg.f 2147483648 false = some ((-2147483648), false) := by
    rw [neg_f _ (by unfold I64; omega)]; (first | done | decide +kernel)
  have e14 : fixed_Mul.f k 6442450944 false (-2147483648) false = some ((-3221225472), false) := by
    rw [mul_f k (by omega) _ _ (by unfold I64; omega) (by unfold I64; omega)]; (first | done | decide +kernel)
  have e15 : bagatellelaw01_text.f (-3221225472) false (⟨#[45, 48, 46, 55, 53]⟩ : ByteArray) = some true := by
    exact known_text _ (by unfold I64; omega) (by decide +kernel)
  have e16 : fixed_Int.f k 1 = some (4294967296, false) := by
    rw [int_f k (by omega) (by unfold I64; omega)]; decide +kernel
  have e17 : fixed_Int.f k (-4) = some ((-17179869184), false) := by
    rw [int_f k (by omega) (by unfold I64; omega)]; decide +kernel
  have e18 : fixed_Div.f k 4294967296 false (-17179869184) false = some ((-1073741824), false) := by
    rw [div_f k (by omega) _ _ (by unfold I64; omega) (by unfold I64; omega) (by decide)]; (first | done | decide +kernel)
  have e19 : bagatellelaw01_text.f (-1073741824) false (⟨#[45, 48, 46, 50, 53]⟩ : ByteArray) = some true := by
    exact known_text _ (by unfold I64; omega) (by decide +kernel)
  have e20 : fixed_Int.f k (-1) = some ((-4294967296), false) := by
    rw [int_f k (by omega) (by unfold I64; omega)]; decide +kernel
  have e21 : fixed_Div.f k (-4294967296) false 12884901888 false = some ((-1431655765), false) := by
    rw [div_f k (by omega) _ _ (by unfold I64; omega) (by unfold I64; omega) (by decide)]; (first | done | decide +kernel)
  have e22 : fixed_Int.f k 2 = some (8589934592, false) := by
    rw [int_f k (by omega) (by unfold I64; omega)]; decide +kernel
  have e23 : fixed_Sqrt.f k 8589934592 false = some (6074000999, false) := by
    rw [sqrt_f k (by omega) _ (by unfold I64; omega) (by decide)]; (first | done | decide +kernel)
  have e24 : fixed_Sqrt.f k (-4294967296) false = some (0, true) := by
    rw [sqrt_neg k _ (by decide)]; (first | done | decide +kernel)
  have e25 : fixed_Hypot.f k 12884901888 false (-17179869184) false = some (21474836480, false) := by
    rw [hypot_f k (by omega) _ _ (by unfold I64; omega) (by unfold I64; omega)]; (first | done | decide +kernel)
  have e26 : bagatellelaw01_text.f 21474836480 false (⟨#[53]⟩ : ByteArray) = some true := by
    exact known_text _ (by unfold I64; omega) (by decide +kernel)
  have e27 : fixed_Sum.f k ([] : List S23) = some (0, false) := by
    rw [sum_f k _ (by simp) (by simp) (by simp only [List.length_nil]; omega)]; (first | done | decide +kernel)
  have e28 : bagatellelaw01_text.f 0 false (⟨#[48]⟩ : ByteArray) = some true := by
    exact known_text _ (by unfold I64; omega) (by decide +kernel)
  have e29 : fixed_Int.f k (-3) = some ((-12884901888), false) := by
    rw [int_f k (by omega) (by unfold I64; omega)]; decide +kernel
  have e30 : fixed_Max.f k [(⟨4294967296, false⟩ : S23), (⟨8589934592, true⟩ : S23), (⟨(-12884901888), false⟩ : S23)] = some (8589934592, true) := by
    rw [max_f _ (by simp) k (by simp only [List.length_cons, List.length_nil]; omega)]; (first | done | decide +kernel)
  have e31 : bagatellelaw01_text.f 8589934592 true (⟨#[50, 33]⟩ : ByteArray) = some true := by
    exact known_text _ (by unfold I64; omega) (by decide +kernel)
  have e32 : fixed_Min.f k ([] : List S23) = some (0, false) := by
    rw [min_f _ (by simp) k (by simp only [List.length_nil]; omega)]; (first | done | decide +kernel)
  have e33 : fixed_Int.f k 5 = some (21474836480, false) := by
    rw [int_f k (by omega) (by unfold I64; omega)]; decide +kernel
  have e34 : fixed_Clamp.f k 21474836480 false 4294967296 false 12884901888 false = some (12884901888, false) := by
    rw [clamp_f k (by omega) _ _ _ (by unfold I64; omega) (by unfold I64; omega)]; (first | done | decide +kernel)
  have e35 : fixed_Clamp.f k 21474836480 false 12884901888 false 4294967296 false = some (12884901888, false) := by
    rw [clamp_f k (by omega) _ _ _ (by unfold I64; omega) (by unfold I64; omega)]; (first | done | decide +kernel)
  have e36 : fixed_Floor.f (-2147483648) false = some (-1) := by
    rw [floor_f]; (first | done | decide +kernel)
  have e37 : fixed_Round.f (-2147483648) false = some 0 := by
    rw [round_f _ (by unfold I64; omega)]; (first | done | decide +kernel)
  have e38 : fixed_Round.f 2147483648 false = some 1 := by
    rw [round_f _ (by unfold I64; omega)]; (first | done | decide +kernel)
  have e39 : fixed_Ratio.f k 5 4 = some (5368709120, false) := by
    rw [ratio_f k (by omega) (by unfold I64; omega) (by unfold I64; omega) (by decide)]; decide +kernel
  have e40 : fixed_Round.f 5368709120 false = some 1 := by
    rw [round_f _ (by unfold I64; omega)]; (first | done | decide +kernel)
  have e41 : fixed_Order.f k 2 3 6 1 = some 0 := by
    rw [order_f k (by omega) (by unfold I64; omega) (by unfold I64; omega) (by unfold I64; omega) (by unfold I64; omega)]; (first | done | decide +kernel)
  have e42 : fixed_Order.f k (-2) 3 1 1 = some (-1) := by
    rw [order_f k (by omega) (by unfold I64; omega) (by unfold I64; omega) (by unfold I64; omega) (by unfold I64; omega)]; (first | done | decide +kernel)
  have e43 : fixed_Order.f k 9223372036854775807 9223372036854775807 (-9223372036854775808) (-9223372036854775808) = some (-1) := by
    rw [order_f k (by omega) (by unfold I64; omega) (by unfold I64; omega) (by unfold I64; omega) (by unfold I64; omega)]; (first | done | decide +kernel)
  have e44 : fixed_Wrap.f 13493037705 false = some ((-13493037704), false) := by
    rw [wrap_f]; (first | done | decide +kernel)
  have e45 : fixed_Sin.f k 0 false = some (0, false) := by
    rw [sin_f k (by omega)]; (first | done | decide +kernel)
  have e46 : fixed_Parse.f k (⟨#[48, 46, 53]⟩ : ByteArray) = some (2147483648, false, 0) := by
    rw [parse_f k (by omega) _ (by decide)]; decide +kernel
  have e47 : fixed_Parse.f k (⟨#[49, 33]⟩ : ByteArray) = some (4294967296, true, 0) := by
    rw [parse_f k (by omega) _ (by decide)]; decide +kernel
  have e48 : bagatellelaw01_no.f k (⟨#[45, 48]⟩ : ByteArray) = some true := by
    exact known_no k (by omega) _ (by decide) (by decide +kernel)
  have e49 : bagatellelaw01_no.f k (⟨#[46, 53]⟩ : ByteArray) = some true := by
    exact known_no k (by omega) _ (by decide) (by decide +kernel)
  have e50 : bagatellelaw01_no.f k (⟨#[48, 46, 53, 48]⟩ : ByteArray) = some true := by
    exact known_no k (by omega) _ (by decide) (by decide +kernel)
  unfold bagatellelaw01_FixedKnown.f
  (first | rw [e0, Option.bind_some] | rw [Option.bind_some]); dsimp only
  (first | rw [e1, Option.bind_some] | rw [Option.bind_some])
  rw [if_pos (by decide)]
  (first | rw [e2, Option.bind_some] | rw [Option.bind_some]); dsimp only
  (first | rw [e3, Option.bind_some] | rw [Option.bind_some])
  rw [if_pos (by decide)]
  (first | rw [e4, Option.bind_some] | rw [Option.bind_some]); dsimp only
  rw [if_pos (by decide)]
  (first | rw [e5, Option.bind_some] | rw [Option.bind_some])
  (first | rw [e6, Option.bind_some] | rw [Option.bind_some]); dsimp only
  rw [if_pos (by decide)]
  (first | rw [e7, Option.bind_some] | rw [Option.bind_some]); dsimp only
  (first | rw [e8, Option.bind_some] | rw [Option.bind_some])
  rw [if_pos (by decide)]
  (first | rw [e9, Option.bind_some] | rw [Option.bind_some]); dsimp only
  (first | rw [e3, Option.bind_some] | rw [Option.bind_some])
  rw [if_pos (by decide)]
  (first | rw [e10, Option.bind_some] | rw [Option.bind_some]); dsimp only
  (first | rw [e11, Option.bind_some] | rw [Option.bind_some])
  (first | rw [e12, Option.bind_some] | rw [Option.bind_some]); dsimp only
  (first | rw [e13, Option.bind_some] | rw [Option.bind_some]); dsimp only
  (first | rw [e14, Option.bind_some] | rw [Option.bind_some]); dsimp only
  (first | rw [e15, Option.bind_some] | rw [Option.bind_some])
  rw [if_pos (by decide)]
  (first | rw [e16, Option.bind_some] | rw [Option.bind_some]); dsimp only
  (first | rw [e17, Option.bind_some] | rw [Option.bind_some]); dsimp only
  (first | rw [e18, Option.bind_some] | rw [Option.bind_some]); dsimp only
  (first | rw [e19, Option.bind_some] | rw [Option.bind_some])
  rw [if_pos (by decide)]
  (first | rw [e20, Option.bind_some] | rw [Option.bind_some]); dsimp only
  (first | rw [e0, Option.bind_some] | rw [Option.bind_some]); dsimp only
  (first | rw [e21, Option.bind_some] | rw [Option.bind_some]); dsimp only
  (first | rw [e22, Option.bind_some] | rw [Option.bind_some]); dsimp only
  (first | rw [e23, Option.bind_some] | rw [Option.bind_some]); dsimp only
  rw [if_pos (by decide)]
  (first | rw [e20, Option.bind_some] | rw [Option.bind_some]); dsimp only
  (first | rw [e24, Option.bind_some] | rw [Option.bind_some]); dsimp only
  (first | rw [e11, Option.bind_some] | rw [Option.bind_some])
  rw [if_pos (by decide)]
  (first | rw [e0, Option.bind_some] | rw [Option.bind_some]); dsimp only
  (first | rw [e17, Option.bind_some] | rw [Option.bind_some]); dsimp only
  (first | rw [e25, Option.bind_some] | rw [Option.bind_some]); dsimp only
  (first | rw [e26, Option.bind_some] | rw [Option.bind_some])
  (first | rw [e27, Option.bind_some] | rw [Option.bind_some]); dsimp only
  (first | rw [e28, Option.bind_some] | rw [Option.bind_some])
  rw [if_pos (by decide)]
  (first | rw [e16, Option.bind_some] | rw [Option.bind_some]); dsimp only
  (first | rw [e29, Option.bind_some] | rw [Option.bind_some]); dsimp only
  (first | rw [e30, Option.bind_some] | rw [Option.bind_some]); dsimp only
  (first | rw [e31, Option.bind_some] | rw [Option.bind_some])
  rw [if_pos (by decide)]
  (first | rw [e32, Option.bind_some] | rw [Option.bind_some]); dsimp only
  (first | rw [e28, Option.bind_some] | rw [Option.bind_some])
  rw [if_pos (by decide)]
  (first | rw [e33, Option.bind_some] | rw [Option.bind_some]); dsimp only
  (first | rw [e16, Option.bind_some] | rw [Option.bind_some]); dsimp only
  (first | rw [e0, Option.bind_some] | rw [Option.bind_some]); dsimp only
  (first | rw [e34, Option.bind_some] | rw [Option.bind_some]); dsimp only
  (first | rw [e1, Option.bind_some] | rw [Option.bind_some])
  rw [if_pos (by decide)]
  (first | rw [e33, Option.bind_some] | rw [Option.bind_some]); dsimp only
  (first | rw [e0, Option.bind_some] | rw [Option.bind_some]); dsimp only
  (first | rw [e16, Option.bind_some] | rw [Option.bind_some]); dsimp only
  (first | rw [e35, Option.bind_some] | rw [Option.bind_some]); dsimp only
  (first | rw [e1, Option.bind_some] | rw [Option.bind_some])
  (first | rw [e13, Option.bind_some] | rw [Option.bind_some]); dsimp only
  (first | rw [e36, Option.bind_some] | rw [Option.bind_some])
  rw [if_pos (by decide)]
  (first | rw [e13, Option.bind_some] | rw [Option.bind_some]); dsimp only
  (first | rw [e37, Option.bind_some] | rw [Option.bind_some])
  rw [if_pos (by decide)]
  (first | rw [e38, Option.bind_some] | rw [Option.bind_some])
  rw [if_pos (by decide)]
  (first | rw [e39, Option.bind_some] | rw [Option.bind_some]); dsimp only
  (first | rw [e40, Option.bind_some] | rw [Option.bind_some])
  (first | rw [e41, Option.bind_some] | rw [Option.bind_some])
  rw [if_pos (by decide)]
  (first | rw [e42, Option.bind_some] | rw [Option.bind_some])
  rw [if_pos (by decide)]
  (first | rw [e43, Option.bind_some] | rw [Option.bind_some])
  (first | rw [e44, Option.bind_some] | rw [Option.bind_some]); dsimp only
  rw [if_pos (by decide)]
  (first | rw [e45, Option.bind_some] | rw [Option.bind_some]); dsimp only
  (first | rw [e28, Option.bind_some] | rw [Option.bind_some])
  (first | rw [e46, Option.bind_some] | rw [Option.bind_some]); dsimp only
  (first | rw [e47, Option.bind_some] | rw [Option.bind_some]); dsimp only
  rw [if_pos (by decide)]
  rw [if_pos (by decide)]
  rw [if_pos (by decide)]
  rw [if_pos (by decide)]
  (first | rw [e48, Option.bind_some] | rw [Option.bind_some])
  rw [if_pos (by decide)]
  (first | rw [e49, Option.bind_some] | rw [Option.bind_some])
  rw [if_pos (by decide)]
  (first | rw [e50, Option.bind_some] | rw [Option.bind_some])
  rw [if_pos (by decide)]
  rw [if_pos (by decide)]
  rw [if_pos (by decide)]
  rw [if_pos (by decide)]
  rw [if_pos (by decide)]
  rw [if_pos (by decide)]
  rw [if_pos (by decide)]
  rw [if_pos (by decide)]
theorem fixedKnown_walk (w : World) : Calls Try.prog 7 #[] w fun e w' => e = .returned (.bool true) ∧ Below w.heap.size w w' :=
  bagatellelaw01_FixedKnown.calls 18446744073709551670 true w (known_f 18446744073709551670 (Nat.le_refl _))
end Go.Proofs.Ytenpiaafkmfjfaa.B

end
section
namespace Go.Proofs.Ytenpiaafkmfjfaa.B
open Go.ChangeShapes Go.WideShapes Go.ChangeAt Go.RowKit Go.Joins
open Go.ChangeMaps (open_string shut_string)
set_option linter.unusedVariables false
set_option maxRecDepth 100000 in
theorem fixedKnown_lifted (os : Os) (started : os.Started) (H : Type) (enc : TypeId × Value → H) :
    ReturnsInHanded {} Try.checked os 7 .any (Rows.fixedKnownSpec.pre6 enc Try.prog Try.f7 Rows.fixedKnownRow.domain false) (Rows.fixedKnownSpec.post enc Try.prog Try.f7 false true false false) := by
  refine returnsInHanded_of_change_sized (C := Try.checked) own started (by kernel_rfl) Try.func7
    (ChangeSpec.witness6 (enc := enc) (C := Try.checked) false ⟨#[], #[], []⟩ 8 (by kernel_rfl) (by kernel_rfl) (by kernel_rfl) (by kernel_rfl)) ?_
  intro W base args ds gs before hval0 hW hcnd hsz0 _
  have hsz : (DataW.weightsEach Try.prog (Try.f7.params.toList ++ Rows.fixedKnownSpec.plain.varTypes Try.prog) (ds ++ gs)).all (· ≤ reachBytes) = true := hsz0
  have hval : ∀ (j : Nat) t v, Try.f7.params[j]? = some t → args[j]? = some v → Value.okWide Try.prog W .any base t v := hval0
  have hW' := hW
  obtain ⟨p, q, hA0, hV, rfl, hfz, hnd⟩ := hW
  have hA : DataW.TrodAll enc Try.prog W 0 (fun _ => true) true Try.f7.params.toList args.toList ds p := hA0
  rw [Try.params7] at hA hval hsz
  obtain ⟨rfl, rfl, rfl⟩ := trodAll_none hA
  obtain ⟨rfl, rfl⟩ := trodVars_none hV
  clear hA0 hval0 hsz0 hsz
  refine (fixedKnown_walk  W ).mono fun e W' ⟨he, bel⟩ => ?_
  subst he
  exact ⟨_, rfl, _, _, _, [], _, [], hW', trodAll_mk1 (shut_bool Try.underlying4 _), trodAll_mk0, rfl, bel.frame _, fun h => by cases h⟩
theorem fixedKnown_over : Rows.fixedKnownRow.holds Try.pinned (OpenSpec.ofChange Rows.fixedKnownSpec) :=
  OpenClaim.holds_of_wide 7 Try.f7 rfl rfl rfl rfl rfl rfl rfl ⟨rfl, rfl, rfl, rfl, rfl⟩ rfl rfl rfl rfl rfl (by kernel_rfl) Try.func7 (by kernel_rfl)
    (of_decide_eq_true (by kernel_rfl)) (by unfold Func.isWrapper; first | (rw [if_pos (by decide +kernel)]; kernel_rfl) | (rw [if_neg (by decide +kernel)]; exact ⟨rfl, rfl⟩))
    (fun os started H enc _ => fixedKnown_lifted os started H enc)
end Go.Proofs.Ytenpiaafkmfjfaa.B
namespace Go.Proofs.Ytenpiaafkmfjfaa
theorem fixedKnown_holds : Rows.FixedKnownSaid := B.fixedKnown_over
end Go.Proofs.Ytenpiaafkmfjfaa

end
#print axioms Go.Proofs.Ytenpiaafkmfjfaa.fixedKnown_holds
