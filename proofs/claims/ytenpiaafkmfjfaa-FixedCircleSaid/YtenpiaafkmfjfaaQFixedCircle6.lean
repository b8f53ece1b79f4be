/- FixedCircle: part 6 of the proof. -/
import Derived.Test.YtenpiaafkmfjfaaQFixedCircle5
section
namespace Go.Proofs.Ytenpiaafkmfjfaa.B
open Go.RowKit Go.Proofs.YtenpiaafkmfjfaaW.PrintWords Go.Proofs.YtenpiaafkmfjfaaW.PrintLast Go.Proofs.YtenpiaafkmfjfaaW.PrintMore
attribute [local go_sem] max2_int min2_int max_two min_two max_three min_three max_four min_four
set_option linter.unusedVariables false
set_option linter.unusedSimpArgs false
def fixed_Dot.f (k : Nat) (a0_0 : Int) (a0_1 : Bool) (a1_0 : Int) (a1_1 : Bool) (a2_0 : Int) (a2_1 : Bool) (a3_0 : Int) (a3_1 : Bool) : Option (Int × Bool) := (fixed_sound.f a0_0 a0_1).bind fun bt323 => ((fixed_sound.f a1_0 a1_1).bind fun bt325 => ((fixed_sound.f a2_0 a2_1).bind fun bt327 => ((fixed_sound.f a3_0 a3_1).bind fun bt329 => ((fixed_product.f bt323.1 bt325.1).bind fun bt331 => ((fixed_product.f bt327.1 bt329.1).bind fun bt334 => ((fixed_exact_plus.f k bt331.1 bt331.2.1 bt331.2.2 bt334.1 bt334.2.1 bt334.2.2).bind fun bt337 => ((fixed_exact_down.f bt337.1 bt337.2.1 bt337.2.2).bind fun bt340 => ((fixed_flags.f k (([(⟨bt323.1, bt323.2⟩ : S23), (⟨bt325.1, bt325.2⟩ : S23), (⟨bt327.1, bt327.2⟩ : S23), (⟨bt329.1, bt329.2⟩ : S23)] : List (S23)))).bind fun t346 => ((fixed_exact_fit.f k bt340.1 bt340.2.1 bt340.2.2 t346).bind fun bt347 => (some (bt347.1, bt347.2)))))))))))
def fixed_Dot.T1 : Bool × List (List Nat × List Nat) := (true, [([], []), ([0], [0]), ([], []), ([2, 1], [2]), ([], []), ([4, 3], [4]), ([], []), ([6, 5], [6]), ([1, 7, 0, 1], [1]), ([3, 8, 0, 1, 2, 3, 8], [3]), ([5, 9, 0, 1, 2, 3, 4, 5, 8, 9], [5]), ([7, 10, 0, 1, 2, 3, 4, 5, 6, 7, 8, 9, 10], [7])])
def fixed_Dot.B1 : List Nat := [0, 1, 0, 7, 0, 31, 0, 127, 255, 511, 1023, 2047]
theorem fixed_Dot.tab1 : rtab .any (opsOf Try.f43 1) = fixed_Dot.T1 := by kernel_rfl
theorem fixed_Dot.bits1 : waitsOk fixed_Dot.T1.2 fixed_Dot.B1 = true := by kernel_rfl
def fixed_Dot.T2 : Bool × List (List Nat × List Nat) := (true, [([], []), ([0], [0]), ([], []), ([2], [2]), ([1, 3], [1, 3]), ([], []), ([5], [5]), ([], []), ([7], [7]), ([6, 8, 4], [6, 8]), ([4, 9, 9], [4, 9]), ([10, 10], [10]), ([], []), ([], []), ([], []), ([], []), ([12, 13, 14, 15], [12, 13, 14, 15]), ([16, 11], [16]), ([11, 17, 17], [11, 17]), ([18, 18, 0, 1, 2, 3, 4, 5, 6, 7, 8, 9, 10, 11, 12, 13, 14, 15, 16, 17, 18], [18])])
def fixed_Dot.B2 : List Nat := [0, 1, 0, 4, 15, 0, 32, 0, 128, 511, 1023, 2047, 0, 0, 0, 0, 61440, 131071, 262143, 524287]
theorem fixed_Dot.tab2 : rtab .any (opsOf Try.f43 2) = fixed_Dot.T2 := by kernel_rfl
theorem fixed_Dot.bits2 : waitsOk fixed_Dot.T2.2 fixed_Dot.B2 = true := by kernel_rfl
set_option maxHeartbeats 8000000 in
set_option maxRecDepth 100000 in
theorem fixed_Dot.calls (k : Nat) (a0_0 : Int) (a0_1 : Bool) (a1_0 : Int) (a1_1 : Bool) (a2_0 : Int) (a2_1 : Bool) (a3_0 : Int) (a3_1 : Bool) (r1 : Int) (r2 : Bool) (w : World) (h : fixed_Dot.f k a0_0 a0_1 a1_0 a1_1 a2_0 a2_1 a3_0 a3_1 = some (r1, r2)) :
    Calls Try.prog 43 #[.agg #[.int .i64 a0_0, .bool a0_1], .agg #[.int .i64 a1_0, .bool a1_1], .agg #[.int .i64 a2_0, .bool a2_1], .agg #[.int .i64 a3_0, .bool a3_1]] w fun e w' => e = .returned (.agg #[.int .i64 r1, .bool r2]) ∧ Below w.heap.size w w' := by
  have hu23 := Try.underlying23
  have HB := Aside0.mk (Below.refl w.heap.size w)
  have H : ((fixed_sound.f a0_0 a0_1).bind fun bt323 => ((fixed_sound.f a1_0 a1_1).bind fun bt325 => ((fixed_sound.f a2_0 a2_1).bind fun bt327 => ((fixed_sound.f a3_0 a3_1).bind fun bt329 => ((fixed_product.f bt323.1 bt325.1).bind fun bt331 => ((fixed_product.f bt327.1 bt329.1).bind fun bt334 => ((fixed_exact_plus.f k bt331.1 bt331.2.1 bt331.2.2 bt334.1 bt334.2.1 bt334.2.2).bind fun bt337 => ((fixed_exact_down.f bt337.1 bt337.2.1 bt337.2.2).bind fun bt340 => ((fixed_flags.f k (([(⟨bt323.1, bt323.2⟩ : S23), (⟨bt325.1, bt325.2⟩ : S23), (⟨bt327.1, bt327.2⟩ : S23), (⟨bt329.1, bt329.2⟩ : S23)] : List (S23)))).bind fun t346 => ((fixed_exact_fit.f k bt340.1 bt340.2.1 bt340.2.2 t346).bind fun bt347 => (some (bt347.1, bt347.2)))))))))))) = some (r1, r2) := h
  clear h
  replace H := Option.bind_eq_some_iff.mp H
  obtain ⟨⟨t323, t324⟩, A50, H⟩ := H
  replace H : ((fixed_sound.f a1_0 a1_1).bind fun bt325 => ((fixed_sound.f a2_0 a2_1).bind fun bt327 => ((fixed_sound.f a3_0 a3_1).bind fun bt329 => ((fixed_product.f t323 bt325.1).bind fun bt331 => ((fixed_product.f bt327.1 bt329.1).bind fun bt334 => ((fixed_exact_plus.f k bt331.1 bt331.2.1 bt331.2.2 bt334.1 bt334.2.1 bt334.2.2).bind fun bt337 => ((fixed_exact_down.f bt337.1 bt337.2.1 bt337.2.2).bind fun bt340 => ((fixed_flags.f k (([(⟨t323, t324⟩ : S23), (⟨bt325.1, bt325.2⟩ : S23), (⟨bt327.1, bt327.2⟩ : S23), (⟨bt329.1, bt329.2⟩ : S23)] : List (S23)))).bind fun t346 => ((fixed_exact_fit.f k bt340.1 bt340.2.1 bt340.2.2 t346).bind fun bt347 => (some (bt347.1, bt347.2))))))))))) = some (r1, r2) := H
  have A5 := Aside0.mk A50
  clear A50
  replace H := Option.bind_eq_some_iff.mp H
  obtain ⟨⟨t325, t326⟩, A60, H⟩ := H
  replace H : ((fixed_sound.f a2_0 a2_1).bind fun bt327 => ((fixed_sound.f a3_0 a3_1).bind fun bt329 => ((fixed_product.f t323 t325).bind fun bt331 => ((fixed_product.f bt327.1 bt329.1).bind fun bt334 => ((fixed_exact_plus.f k bt331.1 bt331.2.1 bt331.2.2 bt334.1 bt334.2.1 bt334.2.2).bind fun bt337 => ((fixed_exact_down.f bt337.1 bt337.2.1 bt337.2.2).bind fun bt340 => ((fixed_flags.f k (([(⟨t323, t324⟩ : S23), (⟨t325, t326⟩ : S23), (⟨bt327.1, bt327.2⟩ : S23), (⟨bt329.1, bt329.2⟩ : S23)] : List (S23)))).bind fun t346 => ((fixed_exact_fit.f k bt340.1 bt340.2.1 bt340.2.2 t346).bind fun bt347 => (some (bt347.1, bt347.2)))))))))) = some (r1, r2) := H
  have A6 := Aside0.mk A60
  clear A60
  replace H := Option.bind_eq_some_iff.mp H
  obtain ⟨⟨t327, t328⟩, A70, H⟩ := H
  replace H : ((fixed_sound.f a3_0 a3_1).bind fun bt329 => ((fixed_product.f t323 t325).bind fun bt331 => ((fixed_product.f t327 bt329.1).bind fun bt334 => ((fixed_exact_plus.f k bt331.1 bt331.2.1 bt331.2.2 bt334.1 bt334.2.1 bt334.2.2).bind fun bt337 => ((fixed_exact_down.f bt337.1 bt337.2.1 bt337.2.2).bind fun bt340 => ((fixed_flags.f k (([(⟨t323, t324⟩ : S23), (⟨t325, t326⟩ : S23), (⟨t327, t328⟩ : S23), (⟨bt329.1, bt329.2⟩ : S23)] : List (S23)))).bind fun t346 => ((fixed_exact_fit.f k bt340.1 bt340.2.1 bt340.2.2 t346).bind fun bt347 => (some (bt347.1, bt347.2))))))))) = some (r1, r2) := H
  have A7 := Aside0.mk A70
  clear A70
  replace H := Option.bind_eq_some_iff.mp H
  obtain ⟨⟨t329, t330⟩, A80, H⟩ := H
  replace H : ((fixed_product.f t323 t325).bind fun bt331 => ((fixed_product.f t327 t329).bind fun bt334 => ((fixed_exact_plus.f k bt331.1 bt331.2.1 bt331.2.2 bt334.1 bt334.2.1 bt334.2.2).bind fun bt337 => ((fixed_exact_down.f bt337.1 bt337.2.1 bt337.2.2).bind fun bt340 => ((fixed_flags.f k (([(⟨t323, t324⟩ : S23), (⟨t325, t326⟩ : S23), (⟨t327, t328⟩ : S23), (⟨t329, t330⟩ : S23)] : List (S23)))).bind fun t346 => ((fixed_exact_fit.f k bt340.1 bt340.2.1 bt340.2.2 t346).bind fun bt347 => (some (bt347.1, bt347.2)))))))) = some (r1, r2) := H
  have A8 := Aside0.mk A80
  clear A80
  replace H := Option.bind_eq_some_iff.mp H
  obtain ⟨⟨t331, t332, t333⟩, A90, H⟩ := H
  replace H : ((fixed_product.f t327 t329).bind fun bt334 => ((fixed_exact_plus.f k t331 t332 t333 bt334.1 bt334.2.1 bt334.2.2).bind fun bt337 => ((fixed_exact_down.f bt337.1 bt337.2.1 bt337.2.2).bind fun bt340 => ((fixed_flags.f k (([(⟨t323, t324⟩ : S23), (⟨t325, t326⟩ : S23), (⟨t327, t328⟩ : S23), (⟨t329, t330⟩ : S23)] : List (S23)))).bind fun t346 => ((fixed_exact_fit.f k bt340.1 bt340.2.1 bt340.2.2 t346).bind fun bt347 => (some (bt347.1, bt347.2))))))) = some (r1, r2) := H
  have A9 := Aside0.mk A90
  clear A90
  replace H := Option.bind_eq_some_iff.mp H
  obtain ⟨⟨t334, t335, t336⟩, A100, H⟩ := H
  replace H : ((fixed_exact_plus.f k t331 t332 t333 t334 t335 t336).bind fun bt337 => ((fixed_exact_down.f bt337.1 bt337.2.1 bt337.2.2).bind fun bt340 => ((fixed_flags.f k (([(⟨t323, t324⟩ : S23), (⟨t325, t326⟩ : S23), (⟨t327, t328⟩ : S23), (⟨t329, t330⟩ : S23)] : List (S23)))).bind fun t346 => ((fixed_exact_fit.f k bt340.1 bt340.2.1 bt340.2.2 t346).bind fun bt347 => (some (bt347.1, bt347.2)))))) = some (r1, r2) := H
  have A10 := Aside0.mk A100
  clear A100
  replace H := Option.bind_eq_some_iff.mp H
  obtain ⟨⟨t337, t338, t339⟩, A110, H⟩ := H
  replace H : ((fixed_exact_down.f t337 t338 t339).bind fun bt340 => ((fixed_flags.f k (([(⟨t323, t324⟩ : S23), (⟨t325, t326⟩ : S23), (⟨t327, t328⟩ : S23), (⟨t329, t330⟩ : S23)] : List (S23)))).bind fun t346 => ((fixed_exact_fit.f k bt340.1 bt340.2.1 bt340.2.2 t346).bind fun bt347 => (some (bt347.1, bt347.2))))) = some (r1, r2) := H
  have A11 := Aside0.mk A110
  clear A110
  replace H := Option.bind_eq_some_iff.mp H
  obtain ⟨⟨t340, t341, t342⟩, A120, H⟩ := H
  replace H : ((fixed_flags.f k (([(⟨t323, t324⟩ : S23), (⟨t325, t326⟩ : S23), (⟨t327, t328⟩ : S23), (⟨t329, t330⟩ : S23)] : List (S23)))).bind fun t346 => ((fixed_exact_fit.f k t340 t341 t342 t346).bind fun bt347 => (some (bt347.1, bt347.2)))) = some (r1, r2) := H
  have A12 := Aside0.mk A120
  clear A120
  obtain ⟨y343, hy343⟩ : ∃ y_ : List (S23), y_ = (([(⟨t323, t324⟩ : S23), (⟨t325, t326⟩ : S23), (⟨t327, t328⟩ : S23), (⟨t329, t330⟩ : S23)] : List (S23))) := ⟨_, rfl⟩
  replace H : ((fixed_flags.f k y343).bind fun t346 => ((fixed_exact_fit.f k t340 t341 t342 t346).bind fun bt347 => (some (bt347.1, bt347.2)))) = some (r1, r2) := by first | (rw [hy343]; with_reducible exact H) | (have H2_ := (Option.bind_some _ _).symm.trans H; rw [hy343]; with_reducible exact H2_) | (have H2_ := (Option.bind_some _ _).symm.trans H; with_reducible exact H2_) | with_reducible exact H | (rw [hy343]; exact H) | exact H
  have Ny343 := Aside0.mk hy343
  clear hy343
  replace H := Option.bind_eq_some_iff.mp H
  obtain ⟨t346, A130, H⟩ := H
  replace H : ((fixed_exact_fit.f k t340 t341 t342 t346).bind fun bt347 => (some (bt347.1, bt347.2))) = some (r1, r2) := H
  have A13 := Aside0.mk A130
  clear A130
  replace H := Option.bind_eq_some_iff.mp H
  obtain ⟨⟨t347, t348⟩, A140, H⟩ := H
  replace H : (some (t347, t348)) = some (r1, r2) := H
  have A14 := Aside0.mk A140
  clear A140
  simp only [Option.some.injEq, Prod.mk.injEq] at H
  obtain ⟨rfl, rfl⟩ := H
  go_enter Try.func43, Try.ntmps43
  try go_wp2_with (first | ((with_reducible refine gate_dst (N := 4) rfl ?_); refine box_event ?hg (N := 4) ?hd (cs := #[.int .i64 a0_0, .bool a0_1]) (t := 23) ?hr ?_; (case hd => rfl); (case hg => rfl); (case hr => first | (go_simp; done) | (go_simp; rfl)); intro gb318 hg w15 hbox hb; have n0_ := Aside0.mk (below_step (by repeat (first | (with_reducible first | exact HB.out | apply below_alloc | apply pw_below_drewN | apply below_drew1) | exact HB.out)) hb); have n1_ := Aside0.mk (hbox); have n2_ := Aside0.mk ((by rw [hg]; exact (below_size (by repeat (first | (with_reducible first | exact HB.out | apply below_alloc | apply pw_below_drewN | apply below_drew1) | exact HB.out))) : w.heap.size ≤ gb318)); have n3_ := Aside0.mk ((by rw [hg]; exact (below_size (by repeat (first | (with_reducible first | exact HB.out | apply below_alloc | apply pw_below_drewN | apply below_drew1) | exact HB.out))) : w.heap.size ≤ gb318)); clear HB; have HB := n0_; have BK318 := n1_; have GW318 := n2_; have GE318 := n3_; clear n0_ n1_ n2_ n3_; clear hb hbox hg) | ((with_reducible refine gate_dst (N := 5) rfl ?_); refine box_event ?hg (N := 5) ?hd (cs := #[.int .i64 a1_0, .bool a1_1]) (t := 23) ?hr ?_; (case hd => rfl); (case hg => rfl); (case hr => first | (go_simp; done) | (go_simp; rfl)); intro gb319 hg w16 hbox hb; have n0_ := Aside0.mk (blk_below (g := gb318) (o := .cells #[.int .i64 a0_0, .bool a0_1] 23 (0, 0)) (by (with_reducible repeat (first | refine blk_drewN ?_ _ | refine blk_drew ?_ | refine blk_alloc ?_ _)); exact BK318.out) hb); have n1_ := Aside0.mk (below_step (by repeat (first | (with_reducible first | exact HB.out | apply below_alloc | apply pw_below_drewN | apply below_drew1 | refine below_set ?_ GE318.out) | exact HB.out)) hb); have n2_ := Aside0.mk (hbox); have n3_ := Aside0.mk ((by rw [hg]; exact (below_size (by repeat (first | (with_reducible first | exact HB.out | apply below_alloc | apply pw_below_drewN | apply below_drew1 | refine below_set ?_ GE318.out) | exact HB.out))) : w.heap.size ≤ gb319)); have n4_ := Aside0.mk ((by rw [hg]; exact (below_size (by repeat (first | (with_reducible first | exact HB.out | apply below_alloc | apply pw_below_drewN | apply below_drew1 | refine below_set ?_ GE318.out) | exact HB.out))) : w.heap.size ≤ gb319)); have n5_ := Aside0.mk ((by rw [hg]; exact Nat.ne_of_lt (blk_lt (g := gb318) (o := .cells #[.int .i64 a0_0, .bool a0_1] 23 (0, 0)) (by (with_reducible repeat (first | refine blk_drewN ?_ _ | refine blk_drew ?_ | refine blk_alloc ?_ _)); exact BK318.out)) : gb318 ≠ gb319)); have n6_ := Aside0.mk ((by rw [hg]; exact Nat.ne_of_gt (blk_lt (g := gb318) (o := .cells #[.int .i64 a0_0, .bool a0_1] 23 (0, 0)) (by (with_reducible repeat (first | refine blk_drewN ?_ _ | refine blk_drew ?_ | refine blk_alloc ?_ _)); exact BK318.out)) : gb319 ≠ gb318)); clear BK318; clear HB; have BK318 := n0_; have HB := n1_; have BK319 := n2_; have GW319 := n3_; have GE319 := n4_; have NB318_319 := n5_; have NB319_318 := n6_; clear n0_ n1_ n2_ n3_ n4_ n5_ n6_; clear hb hbox hg) | ((with_reducible refine gate_dst (N := 6) rfl ?_); refine box_event ?hg (N := 6) ?hd (cs := #[.int .i64 a2_0, .bool a2_1]) (t := 23) ?hr ?_; (case hd => rfl); (case hg => rfl); (case hr => first | (go_simp; done) | (go_simp; rfl)); intro gb320 hg w17 hbox hb; have n0_ := Aside0.mk (blk_below (g := gb318) (o := .cells #[.int .i64 a0_0, .bool a0_1] 23 (0, 0)) (by (with_reducible repeat (first | refine blk_drewN ?_ _ | refine blk_drew ?_ | refine blk_alloc ?_ _)); exact BK318.out) hb); have n1_ := Aside0.mk (blk_below (g := gb319) (o := .cells #[.int .i64 a1_0, .bool a1_1] 23 (0, 0)) (by (with_reducible repeat (first | refine blk_drewN ?_ _ | refine blk_drew ?_ | refine blk_alloc ?_ _)); exact BK319.out) hb); have n2_ := Aside0.mk (below_step (by repeat (first | (with_reducible first | exact HB.out | apply below_alloc | apply pw_below_drewN | apply below_drew1 | refine below_set ?_ GE318.out | refine below_set ?_ GE319.out) | exact HB.out)) hb); have n3_ := Aside0.mk (hbox); have n4_ := Aside0.mk ((by rw [hg]; exact (below_size (by repeat (first | (with_reducible first | exact HB.out | apply below_alloc | apply pw_below_drewN | apply below_drew1 | refine below_set ?_ GE318.out | refine below_set ?_ GE319.out) | exact HB.out))) : w.heap.size ≤ gb320)); have n5_ := Aside0.mk ((by rw [hg]; exact (below_size (by repeat (first | (with_reducible first | exact HB.out | apply below_alloc | apply pw_below_drewN | apply below_drew1 | refine below_set ?_ GE318.out | refine below_set ?_ GE319.out) | exact HB.out))) : w.heap.size ≤ gb320)); have n6_ := Aside0.mk ((by rw [hg]; exact Nat.ne_of_lt (blk_lt (g := gb318) (o := .cells #[.int .i64 a0_0, .bool a0_1] 23 (0, 0)) (by (with_reducible repeat (first | refine blk_drewN ?_ _ | refine blk_drew ?_ | refine blk_alloc ?_ _)); exact BK318.out)) : gb318 ≠ gb320)); have n7_ := Aside0.mk ((by rw [hg]; exact Nat.ne_of_gt (blk_lt (g := gb318) (o := .cells #[.int .i64 a0_0, .bool a0_1] 23 (0, 0)) (by (with_reducible repeat (first | refine blk_drewN ?_ _ | refine blk_drew ?_ | refine blk_alloc ?_ _)); exact BK318.out)) : gb320 ≠ gb318)); have n8_ := Aside0.mk ((by rw [hg]; exact Nat.ne_of_lt (blk_lt (g := gb319) (o := .cells #[.int .i64 a1_0, .bool a1_1] 23 (0, 0)) (by (with_reducible repeat (first | refine blk_drewN ?_ _ | refine blk_drew ?_ | refine blk_alloc ?_ _)); exact BK319.out)) : gb319 ≠ gb320)); have n9_ := Aside0.mk ((by rw [hg]; exact Nat.ne_of_gt (blk_lt (g := gb319) (o := .cells #[.int .i64 a1_0, .bool a1_1] 23 (0, 0)) (by (with_reducible repeat (first | refine blk_drewN ?_ _ | refine blk_drew ?_ | refine blk_alloc ?_ _)); exact BK319.out)) : gb320 ≠ gb319)); clear BK318; clear BK319; clear HB; have BK318 := n0_; have BK319 := n1_; have HB := n2_; have BK320 := n3_; have GW320 := n4_; have GE320 := n5_; have NB318_320 := n6_; have NB320_318 := n7_; have NB319_320 := n8_; have NB320_319 := n9_; clear n0_ n1_ n2_ n3_ n4_ n5_ n6_ n7_ n8_ n9_; clear hb hbox hg) | ((with_reducible refine gate_dst (N := 7) rfl ?_); refine box_event ?hg (N := 7) ?hd (cs := #[.int .i64 a3_0, .bool a3_1]) (t := 23) ?hr ?_; (case hd => rfl); (case hg => rfl); (case hr => first | (go_simp; done) | (go_simp; rfl)); intro gb321 hg w18 hbox hb; have n0_ := Aside0.mk (blk_below (g := gb318) (o := .cells #[.int .i64 a0_0, .bool a0_1] 23 (0, 0)) (by (with_reducible repeat (first | refine blk_drewN ?_ _ | refine blk_drew ?_ | refine blk_alloc ?_ _)); exact BK318.out) hb); have n1_ := Aside0.mk (blk_below (g := gb319) (o := .cells #[.int .i64 a1_0, .bool a1_1] 23 (0, 0)) (by (with_reducible repeat (first | refine blk_drewN ?_ _ | refine blk_drew ?_ | refine blk_alloc ?_ _)); exact BK319.out) hb); have n2_ := Aside0.mk (blk_below (g := gb320) (o := .cells #[.int .i64 a2_0, .bool a2_1] 23 (0, 0)) (by (with_reducible repeat (first | refine blk_drewN ?_ _ | refine blk_drew ?_ | refine blk_alloc ?_ _)); exact BK320.out) hb); have n3_ := Aside0.mk (below_step (by repeat (first | (with_reducible first | exact HB.out | apply below_alloc | apply pw_below_drewN | apply below_drew1 | refine below_set ?_ GE318.out | refine below_set ?_ GE319.out | refine below_set ?_ GE320.out) | exact HB.out)) hb); have n4_ := Aside0.mk (hbox); have n5_ := Aside0.mk ((by rw [hg]; exact (below_size (by repeat (first | (with_reducible first | exact HB.out | apply below_alloc | apply pw_below_drewN | apply below_drew1 | refine below_set ?_ GE318.out | refine below_set ?_ GE319.out | refine below_set ?_ GE320.out) | exact HB.out))) : w.heap.size ≤ gb321)); have n6_ := Aside0.mk ((by rw [hg]; exact (below_size (by repeat (first | (with_reducible first | exact HB.out | apply below_alloc | apply pw_below_drewN | apply below_drew1 | refine below_set ?_ GE318.out | refine below_set ?_ GE319.out | refine below_set ?_ GE320.out) | exact HB.out))) : w.heap.size ≤ gb321)); have n7_ := Aside0.mk ((by rw [hg]; exact Nat.ne_of_lt (blk_lt (g := gb318) (o := .cells #[.int .i64 a0_0, .bool a0_1] 23 (0, 0)) (by (with_reducible repeat (first | refine blk_drewN ?_ _ | refine blk_drew ?_ | refine blk_alloc ?_ _)); exact BK318.out)) : gb318 ≠ gb321)); have n8_ := Aside0.mk ((by rw [hg]; exact Nat.ne_of_gt (blk_lt (g := gb318) (o := .cells #[.int .i64 a0_0, .bool a0_1] 23 (0, 0)) (by (with_reducible repeat (first | refine blk_drewN ?_ _ | refine blk_drew ?_ | refine blk_alloc ?_ _)); exact BK318.out)) : gb321 ≠ gb318)); have n9_ := Aside0.mk ((by rw [hg]; exact Nat.ne_of_lt (blk_lt (g := gb319) (o := .cells #[.int .i64 a1_0, .bool a1_1] 23 (0, 0)) (by (with_reducible repeat (first | refine blk_drewN ?_ _ | refine blk_drew ?_ | refine blk_alloc ?_ _)); exact BK319.out)) : gb319 ≠ gb321)); have n10_ := Aside0.mk ((by rw [hg]; exact Nat.ne_of_gt (blk_lt (g := gb319) (o := .cells #[.int .i64 a1_0, .bool a1_1] 23 (0, 0)) (by (with_reducible repeat (first | refine blk_drewN ?_ _ | refine blk_drew ?_ | refine blk_alloc ?_ _)); exact BK319.out)) : gb321 ≠ gb319)); have n11_ := Aside0.mk ((by rw [hg]; exact Nat.ne_of_lt (blk_lt (g := gb320) (o := .cells #[.int .i64 a2_0, .bool a2_1] 23 (0, 0)) (by (with_reducible repeat (first | refine blk_drewN ?_ _ | refine blk_drew ?_ | refine blk_alloc ?_ _)); exact BK320.out)) : gb320 ≠ gb321)); have n12_ := Aside0.mk ((by rw [hg]; exact Nat.ne_of_gt (blk_lt (g := gb320) (o := .cells #[.int .i64 a2_0, .bool a2_1] 23 (0, 0)) (by (with_reducible repeat (first | refine blk_drewN ?_ _ | refine blk_drew ?_ | refine blk_alloc ?_ _)); exact BK320.out)) : gb321 ≠ gb320)); clear BK318; clear BK319; clear BK320; clear HB; have BK318 := n0_; have BK319 := n1_; have BK320 := n2_; have HB := n3_; have BK321 := n4_; have GW321 := n5_; have GE321 := n6_; have NB318_321 := n7_; have NB321_318 := n8_; have NB319_321 := n9_; have NB321_319 := n10_; have NB320_321 := n11_; have NB321_320 := n12_; clear n0_ n1_ n2_ n3_ n4_ n5_ n6_ n7_ n8_ n9_ n10_ n11_ n12_; clear hb hbox hg) | ((with_reducible refine gate_dst (N := 8) rfl ?_); refine box_event ?hg (N := 8) ?hd (cs := #[.int .i64 0, .bool false]) (t := 23) ?hr ?_; (case hd => rfl); (case hg => rfl); (case hr => first | (go_simp; done) | (go_simp; rfl)); intro gb322 hg w19 hbox hb; have n0_ := Aside0.mk (blk_below (g := gb318) (o := .cells #[.int .i64 a0_0, .bool a0_1] 23 (0, 0)) (by (with_reducible repeat (first | refine blk_drewN ?_ _ | refine blk_drew ?_ | refine blk_alloc ?_ _)); exact BK318.out) hb); have n1_ := Aside0.mk (blk_below (g := gb319) (o := .cells #[.int .i64 a1_0, .bool a1_1] 23 (0, 0)) (by (with_reducible repeat (first | refine blk_drewN ?_ _ | refine blk_drew ?_ | refine blk_alloc ?_ _)); exact BK319.out) hb); have n2_ := Aside0.mk (blk_below (g := gb320) (o := .cells #[.int .i64 a2_0, .bool a2_1] 23 (0, 0)) (by (with_reducible repeat (first | refine blk_drewN ?_ _ | refine blk_drew ?_ | refine blk_alloc ?_ _)); exact BK320.out) hb); have n3_ := Aside0.mk (blk_below (g := gb321) (o := .cells #[.int .i64 a3_0, .bool a3_1] 23 (0, 0)) (by (with_reducible repeat (first | refine blk_drewN ?_ _ | refine blk_drew ?_ | refine blk_alloc ?_ _)); exact BK321.out) hb); have n4_ := Aside0.mk (below_step (by repeat (first | (with_reducible first | exact HB.out | apply below_alloc | apply pw_below_drewN | apply below_drew1 | refine below_set ?_ GE318.out | refine below_set ?_ GE319.out | refine below_set ?_ GE320.out | refine below_set ?_ GE321.out) | exact HB.out)) hb); have n5_ := Aside0.mk (hbox); have n6_ := Aside0.mk ((by rw [hg]; exact (below_size (by repeat (first | (with_reducible first | exact HB.out | apply below_alloc | apply pw_below_drewN | apply below_drew1 | refine below_set ?_ GE318.out | refine below_set ?_ GE319.out | refine below_set ?_ GE320.out | refine below_set ?_ GE321.out) | exact HB.out))) : w.heap.size ≤ gb322)); have n7_ := Aside0.mk ((by rw [hg]; exact (below_size (by repeat (first | (with_reducible first | exact HB.out | apply below_alloc | apply pw_below_drewN | apply below_drew1 | refine below_set ?_ GE318.out | refine below_set ?_ GE319.out | refine below_set ?_ GE320.out | refine below_set ?_ GE321.out) | exact HB.out))) : w.heap.size ≤ gb322)); have n8_ := Aside0.mk ((by rw [hg]; exact Nat.ne_of_lt (blk_lt (g := gb318) (o := .cells #[.int .i64 a0_0, .bool a0_1] 23 (0, 0)) (by (with_reducible repeat (first | refine blk_drewN ?_ _ | refine blk_drew ?_ | refine blk_alloc ?_ _)); exact BK318.out)) : gb318 ≠ gb322)); have n9_ := Aside0.mk ((by rw [hg]; exact Nat.ne_of_gt (blk_lt (g := gb318) (o := .cells #[.int .i64 a0_0, .bool a0_1] 23 (0, 0)) (by (with_reducible repeat (first | refine blk_drewN ?_ _ | refine blk_drew ?_ | refine blk_alloc ?_ _)); exact BK318.out)) : gb322 ≠ gb318)); have n10_ := Aside0.mk ((by rw [hg]; exact Nat.ne_of_lt (blk_lt (g := gb319) (o := .cells #[.int .i64 a1_0, .bool a1_1] 23 (0, 0)) (by (with_reducible repeat (first | refine blk_drewN ?_ _ | refine blk_drew ?_ | refine blk_alloc ?_ _)); exact BK319.out)) : gb319 ≠ gb322)); have n11_ := Aside0.mk ((by rw [hg]; exact Nat.ne_of_gt (blk_lt (g := gb319) (o := .cells #[.int .i64 a1_0, .bool a1_1] 23 (0, 0)) (by (with_reducible repeat (first | refine blk_drewN ?_ _ | refine blk_drew ?_ | refine blk_alloc ?_ _)); exact BK319.out)) : gb322 ≠ gb319)); have n12_ := Aside0.mk ((by rw [hg]; exact Nat.ne_of_lt (blk_lt (g := gb320) (o := .cells #[.int .i64 a2_0, .bool a2_1] 23 (0, 0)) (by (with_reducible repeat (first | refine blk_drewN ?_ _ | refine blk_drew ?_ | refine blk_alloc ?_ _)); exact BK320.out)) : gb320 ≠ gb322)); have n13_ := Aside0.mk ((by rw [hg]; exact Nat.ne_of_gt (blk_lt (g := gb320) (o := .cells #[.int .i64 a2_0, .bool a2_1] 23 (0, 0)) (by (with_reducible repeat (first | refine blk_drewN ?_ _ | refine blk_drew ?_ | refine blk_alloc ?_ _)); exact BK320.out)) : gb322 ≠ gb320)); have n14_ := Aside0.mk ((by rw [hg]; exact Nat.ne_of_lt (blk_lt (g := gb321) (o := .cells #[.int .i64 a3_0, .bool a3_1] 23 (0, 0)) (by (with_reducible repeat (first | refine blk_drewN ?_ _ | refine blk_drew ?_ | refine blk_alloc ?_ _)); exact BK321.out)) : gb321 ≠ gb322)); have n15_ := Aside0.mk ((by rw [hg]; exact Nat.ne_of_gt (blk_lt (g := gb321) (o := .cells #[.int .i64 a3_0, .bool a3_1] 23 (0, 0)) (by (with_reducible repeat (first | refine blk_drewN ?_ _ | refine blk_drew ?_ | refine blk_alloc ?_ _)); exact BK321.out)) : gb322 ≠ gb321)); clear BK318; clear BK319; clear BK320; clear BK321; clear HB; have BK318 := n0_; have BK319 := n1_; have BK320 := n2_; have BK321 := n3_; have HB := n4_; have BK322 := n5_; have GW322 := n6_; have GE322 := n7_; have NB318_322 := n8_; have NB322_318 := n9_; have NB319_322 := n10_; have NB322_319 := n11_; have NB320_322 := n12_; have NB322_320 := n13_; have NB321_322 := n14_; have NB322_321 := n15_; clear n0_ n1_ n2_ n3_ n4_ n5_ n6_ n7_ n8_ n9_ n10_ n11_ n12_ n13_ n14_ n15_; clear hb hbox hg))
  have n0_ := Aside0.mk (blk_drew BK318.out)
  have n1_ := Aside0.mk (blk_drew BK319.out)
  have n2_ := Aside0.mk (blk_drew BK320.out)
  have n3_ := Aside0.mk (blk_drew BK321.out)
  have n4_ := Aside0.mk (blk_drew BK322.out)
  have n5_ := Aside0.mk (below_drew1 HB.out)
  clear BK318
  clear BK319
  clear BK320
  clear BK321
  clear BK322
  clear HB
  have BK318 := n0_
  have BK319 := n1_
  have BK320 := n2_
  have BK321 := n3_
  have BK322 := n4_
  have HB := n5_
  clear n0_ n1_ n2_ n3_ n4_ n5_
  refine start_ (n := 12) (S := fun w' => w'.cell? ⟨gb318, 0, none⟩ = some (.int .i64 a0_0) ∧ w'.cell? ⟨gb318, 1, none⟩ = some (.bool a0_1) ∧ w'.cell? ⟨gb319, 0, none⟩ = some (.int .i64 a1_0) ∧ w'.cell? ⟨gb319, 1, none⟩ = some (.bool a1_1) ∧ w'.cell? ⟨gb320, 0, none⟩ = some (.int .i64 a2_0) ∧ w'.cell? ⟨gb320, 1, none⟩ = some (.bool a2_1) ∧ w'.cell? ⟨gb321, 0, none⟩ = some (.int .i64 a3_0) ∧ w'.cell? ⟨gb321, 1, none⟩ = some (.bool a3_1)) (ds := [8, 9, 10, 11]) #[false, false, false, false, false, false, false, false, false, false, false, false] (by kernel_rfl) rfl rfl ⟨(blk_cell BK318.out 0).trans rfl, (blk_cell BK318.out 1).trans rfl, (blk_cell BK319.out 0).trans rfl, (blk_cell BK319.out 1).trans rfl, (blk_cell BK320.out 0).trans rfl, (blk_cell BK320.out 1).trans rfl, (blk_cell BK321.out 0).trans rfl, (blk_cell BK321.out 1).trans rfl⟩ (fun hHeld => ?_); refine with_tabW fixed_Dot.tab1 fixed_Dot.bits1 (fun HT_ HW_ => ?_)
  generalize w19.drew = w20 at BK318 BK319 BK320 BK321 BK322 HB hHeld ⊢
  refine take_ (i := 0) (N := some 9) (v := ?_) (a' := ?_) #[true, false, false, false, false, false, false, false, false, false, false, false] rfl rfl (take_ofW HT_.out HW_.out (by kernel_rfl)) (fun _ _ _ h => h) (Or.inl ⟨by rfl, ?_⟩) hHeld ?_ ?_
  rotate_left
  · rintro w' ⟨s0, s1, s2, s3, s4, s5, s6, s7⟩
    go_simp
    with_reducible rfl
  rotate_left
  · simp only [Act.put, List.setIfInBounds_toArray, List.set_cons_zero, List.set_cons_succ, i64_w, i32_w]
    rfl
  refine take_ (i := 2) (N := some 11) (v := ?_) (a' := ?_) #[true, false, true, false, false, false, false, false, false, false, false, false] rfl rfl (take_ofW HT_.out HW_.out (by kernel_rfl)) (fun _ _ _ h => h) (Or.inl ⟨by rfl, ?_⟩) hHeld ?_ ?_
  rotate_left
  · rintro w' ⟨s0, s1, s2, s3, s4, s5, s6, s7⟩
    go_simp
    with_reducible rfl
  rotate_left
  · simp only [Act.put, List.setIfInBounds_toArray, List.set_cons_zero, List.set_cons_succ, i64_w, i32_w]
    rfl
  refine take_ (i := 4) (N := some 13) (v := ?_) (a' := ?_) #[true, false, true, false, true, false, false, false, false, false, false, false] rfl rfl (take_ofW HT_.out HW_.out (by kernel_rfl)) (fun _ _ _ h => h) (Or.inl ⟨by rfl, ?_⟩) hHeld ?_ ?_
  rotate_left
  · rintro w' ⟨s0, s1, s2, s3, s4, s5, s6, s7⟩
    go_simp
    with_reducible rfl
  rotate_left
  · simp only [Act.put, List.setIfInBounds_toArray, List.set_cons_zero, List.set_cons_succ, i64_w, i32_w]
    rfl
  refine take_ (i := 6) (N := some 15) (v := ?_) (a' := ?_) #[true, false, true, false, true, false, true, false, false, false, false, false] rfl rfl (take_ofW HT_.out HW_.out (by kernel_rfl)) (fun _ _ _ h => h) (Or.inl ⟨by rfl, ?_⟩) hHeld ?_ ?_
  rotate_left
  · rintro w' ⟨s0, s1, s2, s3, s4, s5, s6, s7⟩
    go_simp
    with_reducible rfl
  rotate_left
  · simp only [Act.put, List.setIfInBounds_toArray, List.set_cons_zero, List.set_cons_succ, i64_w, i32_w]
    rfl
  refine one_ (i := 1) (N := some 10) #[true, true, true, false, true, false, true, false, false, false, false, false] rfl rfl (one_of HT_.out (by kernel_rfl)) (by decide) (fun K hK => ?_)
  refine goes_ Try.func72 (by kernel_rfl) rfl #[.agg #[.int .i64 a0_0, .bool a0_1]] (by rfl) rfl rfl (by (try simp only [List.map_toArray, List.map_cons, List.map_nil]); first | done | rfl | (simp only [List.length_drop, List.length_take]; rfl)) ?_
  with_reducible refine (fixed_sound.calls a0_0 a0_1 t323 t324 _ A5.out).mono ?_
  rintro e w21 ⟨rfl, hb⟩
  refine ⟨_, rfl, ?_⟩
  have n0_ := Aside0.mk (blk_below (g := gb318) (o := .cells #[.int .i64 a0_0, .bool a0_1] 23 (0, 0)) (by (with_reducible repeat (first | refine blk_drewN ?_ _ | refine blk_drew ?_ | refine blk_alloc ?_ _)); exact BK318.out) hb)
  have n1_ := Aside0.mk (blk_below (g := gb319) (o := .cells #[.int .i64 a1_0, .bool a1_1] 23 (0, 0)) (by (with_reducible repeat (first | refine blk_drewN ?_ _ | refine blk_drew ?_ | refine blk_alloc ?_ _)); exact BK319.out) hb)
  have n2_ := Aside0.mk (blk_below (g := gb320) (o := .cells #[.int .i64 a2_0, .bool a2_1] 23 (0, 0)) (by (with_reducible repeat (first | refine blk_drewN ?_ _ | refine blk_drew ?_ | refine blk_alloc ?_ _)); exact BK320.out) hb)
  have n3_ := Aside0.mk (blk_below (g := gb321) (o := .cells #[.int .i64 a3_0, .bool a3_1] 23 (0, 0)) (by (with_reducible repeat (first | refine blk_drewN ?_ _ | refine blk_drew ?_ | refine blk_alloc ?_ _)); exact BK321.out) hb)
  have n4_ := Aside0.mk (blk_below (g := gb322) (o := .cells #[.int .i64 0, .bool false] 23 (0, 0)) (by (with_reducible repeat (first | refine blk_drewN ?_ _ | refine blk_drew ?_ | refine blk_alloc ?_ _)); exact BK322.out) hb)
  have n5_ := Aside0.mk (below_step (by repeat (first | (with_reducible first | exact HB.out | apply below_alloc | apply pw_below_drewN | apply below_drew1 | refine below_set ?_ GE318.out | refine below_set ?_ GE319.out | refine below_set ?_ GE320.out | refine below_set ?_ GE321.out | refine below_set ?_ GE322.out) | exact HB.out)) hb)
  clear BK318
  clear BK319
  clear BK320
  clear BK321
  clear BK322
  clear HB
  have BK318 := n0_
  have BK319 := n1_
  have BK320 := n2_
  have BK321 := n3_
  have BK322 := n4_
  have HB := n5_
  clear n0_ n1_ n2_ n3_ n4_ n5_
  (try clear hb)
  (try clear hb2)
  (try clear hk)
  (try clear hi)
  refine hK.out _ _ ⟨(blk_cell BK318.out 0).trans rfl, (blk_cell BK318.out 1).trans rfl, (blk_cell BK319.out 0).trans rfl, (blk_cell BK319.out 1).trans rfl, (blk_cell BK320.out 0).trans rfl, (blk_cell BK320.out 1).trans rfl, (blk_cell BK321.out 0).trans rfl, (blk_cell BK321.out 1).trans rfl⟩ (fun hHeld => ?_)
  clear hK K
  refine norm_ (a' := ?_) ?_ ?_
  rotate_left
  · show Act.put _ (some 10) _ = _
    simp only [Act.put, List.setIfInBounds_toArray, List.set_cons_zero, List.set_cons_succ, i64_w, i32_w]
    rfl
  refine one_ (i := 3) (N := some 12) #[true, true, true, true, true, false, true, false, false, false, false, false] rfl rfl (one_of HT_.out (by kernel_rfl)) (by decide) (fun K hK => ?_)
  refine goes_ Try.func72 (by kernel_rfl) rfl #[.agg #[.int .i64 a1_0, .bool a1_1]] (by rfl) rfl rfl (by (try simp only [List.map_toArray, List.map_cons, List.map_nil]); first | done | rfl | (simp only [List.length_drop, List.length_take]; rfl)) ?_
  with_reducible refine (fixed_sound.calls a1_0 a1_1 t325 t326 _ A6.out).mono ?_
  rintro e w22 ⟨rfl, hb⟩
  refine ⟨_, rfl, ?_⟩
  have n0_ := Aside0.mk (blk_below (g := gb318) (o := .cells #[.int .i64 a0_0, .bool a0_1] 23 (0, 0)) (by (with_reducible repeat (first | refine blk_drewN ?_ _ | refine blk_drew ?_ | refine blk_alloc ?_ _)); exact BK318.out) hb)
  have n1_ := Aside0.mk (blk_below (g := gb319) (o := .cells #[.int .i64 a1_0, .bool a1_1] 23 (0, 0)) (by (with_reducible repeat (first | refine blk_drewN ?_ _ | refine blk_drew ?_ | refine blk_alloc ?_ _)); exact BK319.out) hb)
  have n2_ := Aside0.mk (blk_below (g := gb320) (o := .cells #[.int .i64 a2_0, .bool a2_1] 23 (0, 0)) (by (with_reducible repeat (first | refine blk_drewN ?_ _ | refine blk_drew ?_ | refine blk_alloc ?_ _)); exact BK320.out) hb)
  have n3_ := Aside0.mk (blk_below (g := gb321) (o := .cells #[.int .i64 a3_0, .bool a3_1] 23 (0, 0)) (by (with_reducible repeat (first | refine blk_drewN ?_ _ | refine blk_drew ?_ | refine blk_alloc ?_ _)); exact BK321.out) hb)
  have n4_ := Aside0.mk (blk_below (g := gb322) (o := .cells #[.int .i64 0, .bool false] 23 (0, 0)) (by (with_reducible repeat (first | refine blk_drewN ?_ _ | refine blk_drew ?_ | refine blk_alloc ?_ _)); exact BK322.out) hb)
  have n5_ := Aside0.mk (below_step (by repeat (first | (with_reducible first | exact HB.out | apply below_alloc | apply pw_below_drewN | apply below_drew1 | refine below_set ?_ GE318.out | refine below_set ?_ GE319.out | refine below_set ?_ GE320.out | refine below_set ?_ GE321.out | refine below_set ?_ GE322.out) | exact HB.out)) hb)
  clear BK318
  clear BK319
  clear BK320
  clear BK321
  clear BK322
  clear HB
  have BK318 := n0_
  have BK319 := n1_
  have BK320 := n2_
  have BK321 := n3_
  have BK322 := n4_
  have HB := n5_
  clear n0_ n1_ n2_ n3_ n4_ n5_
  (try clear hb)
  (try clear hb2)
  (try clear hk)
  (try clear hi)
  refine hK.out _ _ ⟨(blk_cell BK318.out 0).trans rfl, (blk_cell BK318.out 1).trans rfl, (blk_cell BK319.out 0).trans rfl, (blk_cell BK319.out 1).trans rfl, (blk_cell BK320.out 0).trans rfl, (blk_cell BK320.out 1).trans rfl, (blk_cell BK321.out 0).trans rfl, (blk_cell BK321.out 1).trans rfl⟩ (fun hHeld => ?_)
  clear hK K
  refine norm_ (a' := ?_) ?_ ?_
  rotate_left
  · show Act.put _ (some 12) _ = _
    simp only [Act.put, List.setIfInBounds_toArray, List.set_cons_zero, List.set_cons_succ, i64_w, i32_w]
    rfl
  refine one_ (i := 5) (N := some 14) #[true, true, true, true, true, true, true, false, false, false, false, false] rfl rfl (one_of HT_.out (by kernel_rfl)) (by decide) (fun K hK => ?_)
  refine goes_ Try.func72 (by kernel_rfl) rfl #[.agg #[.int .i64 a2_0, .bool a2_1]] (by rfl) rfl rfl (by (try simp only [List.map_toArray, List.map_cons, List.map_nil]); first | done | rfl | (simp only [List.length_drop, List.length_take]; rfl)) ?_
  with_reducible refine (fixed_sound.calls a2_0 a2_1 t327 t328 _ A7.out).mono ?_
  rintro e w23 ⟨rfl, hb⟩
  refine ⟨_, rfl, ?_⟩
  have n0_ := Aside0.mk (blk_below (g := gb318) (o := .cells #[.int .i64 a0_0, .bool a0_1] 23 (0, 0)) (by (with_reducible repeat (first | refine blk_drewN ?_ _ | refine blk_drew ?_ | refine blk_alloc ?_ _)); exact BK318.out) hb)
  have n1_ := Aside0.mk (blk_below (g := gb319) (o := .cells #[.int .i64 a1_0, .bool a1_1] 23 (0, 0)) (by (with_reducible repeat (first | refine blk_drewN ?_ _ | refine blk_drew ?_ | refine blk_alloc ?_ _)); exact BK319.out) hb)
  have n2_ := Aside0.mk (blk_below (g := gb320) (o := .cells #[.int .i64 a2_0, .bool a2_1] 23 (0, 0)) (by (with_reducible repeat (first | refine blk_drewN ?_ _ | refine blk_drew ?_ | refine blk_alloc ?_ _)); exact BK320.out) hb)
  have n3_ := Aside0.mk (blk_below (g := gb321) (o := .cells #[.int .i64 a3_0, .bool a3_1] 23 (0, 0)) (by (with_reducible repeat (first | refine blk_drewN ?_ _ | refine blk_drew ?_ | refine blk_alloc ?_ _)); exact BK321.out) hb)
  have n4_ := Aside0.mk (blk_below (g := gb322) (o := .cells #[.int .i64 0, .bool false] 23 (0, 0)) (by (with_reducible repeat (first | refine blk_drewN ?_ _ | refine blk_drew ?_ | refine blk_alloc ?_ _)); exact BK322.out) hb)
  have n5_ := Aside0.mk (below_step (by repeat (first | (with_reducible first | exact HB.out | apply below_alloc | apply pw_below_drewN | apply below_drew1 | refine below_set ?_ GE318.out | refine below_set ?_ GE319.out | refine below_set ?_ GE320.out | refine below_set ?_ GE321.out | refine below_set ?_ GE322.out) | exact HB.out)) hb)
  clear BK318
  clear BK319
  clear BK320
  clear BK321
  clear BK322
  clear HB
  have BK318 := n0_
  have BK319 := n1_
  have BK320 := n2_
  have BK321 := n3_
  have BK322 := n4_
  have HB := n5_
  clear n0_ n1_ n2_ n3_ n4_ n5_
  (try clear hb)
  (try clear hb2)
  (try clear hk)
  (try clear hi)
  refine hK.out _ _ ⟨(blk_cell BK318.out 0).trans rfl, (blk_cell BK318.out 1).trans rfl, (blk_cell BK319.out 0).trans rfl, (blk_cell BK319.out 1).trans rfl, (blk_cell BK320.out 0).trans rfl, (blk_cell BK320.out 1).trans rfl, (blk_cell BK321.out 0).trans rfl, (blk_cell BK321.out 1).trans rfl⟩ (fun hHeld => ?_)
  clear hK K
  refine norm_ (a' := ?_) ?_ ?_
  rotate_left
  · show Act.put _ (some 14) _ = _
    simp only [Act.put, List.setIfInBounds_toArray, List.set_cons_zero, List.set_cons_succ, i64_w, i32_w]
    rfl
  refine one_ (i := 7) (N := some 16) #[true, true, true, true, true, true, true, true, false, false, false, false] rfl rfl (one_of HT_.out (by kernel_rfl)) (by decide) (fun K hK => ?_)
  refine goes_ Try.func72 (by kernel_rfl) rfl #[.agg #[.int .i64 a3_0, .bool a3_1]] (by rfl) rfl rfl (by (try simp only [List.map_toArray, List.map_cons, List.map_nil]); first | done | rfl | (simp only [List.length_drop, List.length_take]; rfl)) ?_
  with_reducible refine (fixed_sound.calls a3_0 a3_1 t329 t330 _ A8.out).mono ?_
  rintro e w24 ⟨rfl, hb⟩
  refine ⟨_, rfl, ?_⟩
  have n0_ := Aside0.mk (blk_below (g := gb318) (o := .cells #[.int .i64 a0_0, .bool a0_1] 23 (0, 0)) (by (with_reducible repeat (first | refine blk_drewN ?_ _ | refine blk_drew ?_ | refine blk_alloc ?_ _)); exact BK318.out) hb)
  have n1_ := Aside0.mk (blk_below (g := gb319) (o := .cells #[.int .i64 a1_0, .bool a1_1] 23 (0, 0)) (by (with_reducible repeat (first | refine blk_drewN ?_ _ | refine blk_drew ?_ | refine blk_alloc ?_ _)); exact BK319.out) hb)
  have n2_ := Aside0.mk (blk_below (g := gb320) (o := .cells #[.int .i64 a2_0, .bool a2_1] 23 (0, 0)) (by (with_reducible repeat (first | refine blk_drewN ?_ _ | refine blk_drew ?_ | refine blk_alloc ?_ _)); exact BK320.out) hb)
  have n3_ := Aside0.mk (blk_below (g := gb321) (o := .cells #[.int .i64 a3_0, .bool a3_1] 23 (0, 0)) (by (with_reducible repeat (first | refine blk_drewN ?_ _ | refine blk_drew ?_ | refine blk_alloc ?_ _)); exact BK321.out) hb)
  have n4_ := Aside0.mk (blk_below (g := gb322) (o := .cells #[.int .i64 0, .bool false] 23 (0, 0)) (by (with_reducible repeat (first | refine blk_drewN ?_ _ | refine blk_drew ?_ | refine blk_alloc ?_ _)); exact BK322.out) hb)
  have n5_ := Aside0.mk (below_step (by repeat (first | (with_reducible first | exact HB.out | apply below_alloc | apply pw_below_drewN | apply below_drew1 | refine below_set ?_ GE318.out | refine below_set ?_ GE319.out | refine below_set ?_ GE320.out | refine below_set ?_ GE321.out | refine below_set ?_ GE322.out) | exact HB.out)) hb)
  clear BK318
  clear BK319
  clear BK320
  clear BK321
  clear BK322
  clear HB
  have BK318 := n0_
  have BK319 := n1_
  have BK320 := n2_
  have BK321 := n3_
  have BK322 := n4_
  have HB := n5_
  clear n0_ n1_ n2_ n3_ n4_ n5_
  (try clear hb)
  (try clear hb2)
  (try clear hk)
  (try clear hi)
  refine hK.out _ _ ⟨(blk_cell BK318.out 0).trans rfl, (blk_cell BK318.out 1).trans rfl, (blk_cell BK319.out 0).trans rfl, (blk_cell BK319.out 1).trans rfl, (blk_cell BK320.out 0).trans rfl, (blk_cell BK320.out 1).trans rfl, (blk_cell BK321.out 0).trans rfl, (blk_cell BK321.out 1).trans rfl⟩ (fun hHeld => ?_)
  clear hK K
  refine norm_ (a' := ?_) ?_ ?_
  rotate_left
  · show Act.put _ (some 16) _ = _
    simp only [Act.put, List.setIfInBounds_toArray, List.set_cons_zero, List.set_cons_succ, i64_w, i32_w]
    rfl
  refine last_ (i := 8) (N := none) #[true, true, true, true, true, true, true, true, true, false, false, false] rfl rfl (one_of HT_.out (by kernel_rfl)) (by decide) (fun K hK => ?_)
  have hs25 : w24.cell? ⟨gb318, 0, none⟩ = some (.int .i64 a0_0) := (blk_cell BK318.out 0).trans rfl
  have hfs25 := blk_frozen BK318.out 0
  have hns25_1 := NB319_318.out
  have hns25_2 := NB320_318.out
  have hns25_3 := NB321_318.out
  have hns25_4 := NB322_318.out
  have hms25_1 := NB318_319.out
  have hms25_2 := NB318_320.out
  have hms25_3 := NB318_321.out
  have hms25_4 := NB318_322.out
  have hs26 : w24.cell? ⟨gb318, 1, none⟩ = some (.bool a0_1) := (blk_cell BK318.out 1).trans rfl
  have hfs26 := blk_frozen BK318.out 1
  have hns26_1 := NB319_318.out
  have hns26_2 := NB320_318.out
  have hns26_3 := NB321_318.out
  have hns26_4 := NB322_318.out
  have hms26_1 := NB318_319.out
  have hms26_2 := NB318_320.out
  have hms26_3 := NB318_321.out
  have hms26_4 := NB318_322.out
  refine skip_ (w1 := ?_) (by rfl) rfl ?_ ?_
  rotate_left
  · go_simp
    rfl
  refine hK.out _ _ ?_
  clear hK K
  refine last_ (i := 9) (N := none) #[true, true, true, true, true, true, true, true, true, true, false, false] rfl rfl (one_of HT_.out (by kernel_rfl)) (by decide) (fun K hK => ?_)
  have hs27 : w24.cell? ⟨gb319, 0, none⟩ = some (.int .i64 a1_0) := (blk_cell BK319.out 0).trans rfl
  have hfs27 := blk_frozen BK319.out 0
  have hns27_0 := NB318_319.out
  have hns27_2 := NB320_319.out
  have hns27_3 := NB321_319.out
  have hns27_4 := NB322_319.out
  have hms27_0 := NB319_318.out
  have hms27_2 := NB319_320.out
  have hms27_3 := NB319_321.out
  have hms27_4 := NB319_322.out
  have hs28 : w24.cell? ⟨gb319, 1, none⟩ = some (.bool a1_1) := (blk_cell BK319.out 1).trans rfl
  have hfs28 := blk_frozen BK319.out 1
  have hns28_0 := NB318_319.out
  have hns28_2 := NB320_319.out
  have hns28_3 := NB321_319.out
  have hns28_4 := NB322_319.out
  have hms28_0 := NB319_318.out
  have hms28_2 := NB319_320.out
  have hms28_3 := NB319_321.out
  have hms28_4 := NB319_322.out
  refine skip_ (w1 := ?_) (by rfl) rfl ?_ ?_
  rotate_left
  · go_simp
    rfl
  refine hK.out _ _ ?_
  clear hK K
  refine last_ (i := 10) (N := none) #[true, true, true, true, true, true, true, true, true, true, true, false] rfl rfl (one_of HT_.out (by kernel_rfl)) (by decide) (fun K hK => ?_)
  have hs29 : w24.cell? ⟨gb320, 0, none⟩ = some (.int .i64 a2_0) := (blk_cell BK320.out 0).trans rfl
  have hfs29 := blk_frozen BK320.out 0
  have hns29_0 := NB318_320.out
  have hns29_1 := NB319_320.out
  have hns29_3 := NB321_320.out
  have hns29_4 := NB322_320.out
  have hms29_0 := NB320_318.out
  have hms29_1 := NB320_319.out
  have hms29_3 := NB320_321.out
  have hms29_4 := NB320_322.out
  have hs30 : w24.cell? ⟨gb320, 1, none⟩ = some (.bool a2_1) := (blk_cell BK320.out 1).trans rfl
  have hfs30 := blk_frozen BK320.out 1
  have hns30_0 := NB318_320.out
  have hns30_1 := NB319_320.out
  have hns30_3 := NB321_320.out
  have hns30_4 := NB322_320.out
  have hms30_0 := NB320_318.out
  have hms30_1 := NB320_319.out
  have hms30_3 := NB320_321.out
  have hms30_4 := NB320_322.out
  refine skip_ (w1 := ?_) (by rfl) rfl ?_ ?_
  rotate_left
  · go_simp
    rfl
  refine hK.out _ _ ?_
  clear hK K
  refine last_ (i := 11) (N := none) #[true, true, true, true, true, true, true, true, true, true, true, true] rfl rfl (one_of HT_.out (by kernel_rfl)) (by decide) (fun K hK => ?_)
  have hs31 : w24.cell? ⟨gb321, 0, none⟩ = some (.int .i64 a3_0) := (blk_cell BK321.out 0).trans rfl
  have hfs31 := blk_frozen BK321.out 0
  have hns31_0 := NB318_321.out
  have hns31_1 := NB319_321.out
  have hns31_2 := NB320_321.out
  have hns31_4 := NB322_321.out
  have hms31_0 := NB321_318.out
  have hms31_1 := NB321_319.out
  have hms31_2 := NB321_320.out
  have hms31_4 := NB321_322.out
  have hs32 : w24.cell? ⟨gb321, 1, none⟩ = some (.bool a3_1) := (blk_cell BK321.out 1).trans rfl
  have hfs32 := blk_frozen BK321.out 1
  have hns32_0 := NB318_321.out
  have hns32_1 := NB319_321.out
  have hns32_2 := NB320_321.out
  have hns32_4 := NB322_321.out
  have hms32_0 := NB321_318.out
  have hms32_1 := NB321_319.out
  have hms32_2 := NB321_320.out
  have hms32_4 := NB321_322.out
  refine skip_ (w1 := ?_) (by rfl) rfl ?_ ?_
  rotate_left
  · go_simp
    rfl
  refine hK.out _ _ ?_
  clear hK K
  refine done_ (done_of HT_.out (by kernel_rfl)) ?_
  try go_wp2
  have n0_ : Aside0 (((((((((w24.setCell ⟨gb318, 0, none⟩ (.int .i64 t323)).setCell ⟨gb318, 1, none⟩ (.bool t324)).setCell ⟨gb319, 0, none⟩ (.int .i64 t325)).setCell ⟨gb319, 1, none⟩ (.bool t326)).setCell ⟨gb320, 0, none⟩ (.int .i64 t327)).setCell ⟨gb320, 1, none⟩ (.bool t328)).setCell ⟨gb321, 0, none⟩ (.int .i64 t329)).setCell ⟨gb321, 1, none⟩ (.bool t330)).heap[gb318]? = some (.cells #[.int .i64 t323, .bool t324] 23 (0, 0))) := ⟨by (with_reducible repeat (first | refine blk_drewN ?_ _ | refine blk_drew ?_ | refine blk_alloc ?_ _)); refine blk_far ?_ NB318_321.out _; (with_reducible repeat (first | refine blk_drewN ?_ _ | refine blk_drew ?_ | refine blk_alloc ?_ _)); refine blk_far ?_ NB318_321.out _; (with_reducible repeat (first | refine blk_drewN ?_ _ | refine blk_drew ?_ | refine blk_alloc ?_ _)); refine blk_far ?_ NB318_320.out _; (with_reducible repeat (first | refine blk_drewN ?_ _ | refine blk_drew ?_ | refine blk_alloc ?_ _)); refine blk_far ?_ NB318_320.out _; (with_reducible repeat (first | refine blk_drewN ?_ _ | refine blk_drew ?_ | refine blk_alloc ?_ _)); refine blk_far ?_ NB318_319.out _; (with_reducible repeat (first | refine blk_drewN ?_ _ | refine blk_drew ?_ | refine blk_alloc ?_ _)); refine blk_far ?_ NB318_319.out _; (with_reducible repeat (first | refine blk_drewN ?_ _ | refine blk_drew ?_ | refine blk_alloc ?_ _)); refine blk_put (cs := #[.int .i64 t323, .bool a0_1]) ?_ 1 _ rfl; (with_reducible repeat (first | refine blk_drewN ?_ _ | refine blk_drew ?_ | refine blk_alloc ?_ _)); refine blk_put (cs := #[.int .i64 a0_0, .bool a0_1]) ?_ 0 _ rfl; (with_reducible repeat (first | refine blk_drewN ?_ _ | refine blk_drew ?_ | refine blk_alloc ?_ _)); exact BK318.out⟩
  have n1_ : Aside0 (((((((((w24.setCell ⟨gb318, 0, none⟩ (.int .i64 t323)).setCell ⟨gb318, 1, none⟩ (.bool t324)).setCell ⟨gb319, 0, none⟩ (.int .i64 t325)).setCell ⟨gb319, 1, none⟩ (.bool t326)).setCell ⟨gb320, 0, none⟩ (.int .i64 t327)).setCell ⟨gb320, 1, none⟩ (.bool t328)).setCell ⟨gb321, 0, none⟩ (.int .i64 t329)).setCell ⟨gb321, 1, none⟩ (.bool t330)).heap[gb319]? = some (.cells #[.int .i64 t325, .bool t326] 23 (0, 0))) := ⟨by (with_reducible repeat (first | refine blk_drewN ?_ _ | refine blk_drew ?_ | refine blk_alloc ?_ _)); refine blk_far ?_ NB319_321.out _; (with_reducible repeat (first | refine blk_drewN ?_ _ | refine blk_drew ?_ | refine blk_alloc ?_ _)); refine blk_far ?_ NB319_321.out _; (with_reducible repeat (first | refine blk_drewN ?_ _ | refine blk_drew ?_ | refine blk_alloc ?_ _)); refine blk_far ?_ NB319_320.out _; (with_reducible repeat (first | refine blk_drewN ?_ _ | refine blk_drew ?_ | refine blk_alloc ?_ _)); refine blk_far ?_ NB319_320.out _; (with_reducible repeat (first | refine blk_drewN ?_ _ | refine blk_drew ?_ | refine blk_alloc ?_ _)); refine blk_put (cs := #[.int .i64 t325, .bool a1_1]) ?_ 1 _ rfl; (with_reducible repeat (first | refine blk_drewN ?_ _ | refine blk_drew ?_ | refine blk_alloc ?_ _)); refine blk_put (cs := #[.int .i64 a1_0, .bool a1_1]) ?_ 0 _ rfl; (with_reducible repeat (first | refine blk_drewN ?_ _ | refine blk_drew ?_ | refine blk_alloc ?_ _)); refine blk_far ?_ NB319_318.out _; (with_reducible repeat (first | refine blk_drewN ?_ _ | refine blk_drew ?_ | refine blk_alloc ?_ _)); refine blk_far ?_ NB319_318.out _; (with_reducible repeat (first | refine blk_drewN ?_ _ | refine blk_drew ?_ | refine blk_alloc ?_ _)); exact BK319.out⟩
  have n2_ : Aside0 (((((((((w24.setCell ⟨gb318, 0, none⟩ (.int .i64 t323)).setCell ⟨gb318, 1, none⟩ (.bool t324)).setCell ⟨gb319, 0, none⟩ (.int .i64 t325)).setCell ⟨gb319, 1, none⟩ (.bool t326)).setCell ⟨gb320, 0, none⟩ (.int .i64 t327)).setCell ⟨gb320, 1, none⟩ (.bool t328)).setCell ⟨gb321, 0, none⟩ (.int .i64 t329)).setCell ⟨gb321, 1, none⟩ (.bool t330)).heap[gb320]? = some (.cells #[.int .i64 t327, .bool t328] 23 (0, 0))) := ⟨by (with_reducible repeat (first | refine blk_drewN ?_ _ | refine blk_drew ?_ | refine blk_alloc ?_ _)); refine blk_far ?_ NB320_321.out _; (with_reducible repeat (first | refine blk_drewN ?_ _ | refine blk_drew ?_ | refine blk_alloc ?_ _)); refine blk_far ?_ NB320_321.out _; (with_reducible repeat (first | refine blk_drewN ?_ _ | refine blk_drew ?_ | refine blk_alloc ?_ _)); refine blk_put (cs := #[.int .i64 t327, .bool a2_1]) ?_ 1 _ rfl; (with_reducible repeat (first | refine blk_drewN ?_ _ | refine blk_drew ?_ | refine blk_alloc ?_ _)); refine blk_put (cs := #[.int .i64 a2_0, .bool a2_1]) ?_ 0 _ rfl; (with_reducible repeat (first | refine blk_drewN ?_ _ | refine blk_drew ?_ | refine blk_alloc ?_ _)); refine blk_far ?_ NB320_319.out _; (with_reducible repeat (first | refine blk_drewN ?_ _ | refine blk_drew ?_ | refine blk_alloc ?_ _)); refine blk_far ?_ NB320_319.out _; (with_reducible repeat (first | refine blk_drewN ?_ _ | refine blk_drew ?_ | refine blk_alloc ?_ _)); refine blk_far ?_ NB320_318.out _; (with_reducible repeat (first | refine blk_drewN ?_ _ | refine blk_drew ?_ | refine blk_alloc ?_ _)); refine blk_far ?_ NB320_318.out _; (with_reducible repeat (first | refine blk_drewN ?_ _ | refine blk_drew ?_ | refine blk_alloc ?_ _)); exact BK320.out⟩
  have n3_ : Aside0 (((((((((w24.setCell ⟨gb318, 0, none⟩ (.int .i64 t323)).setCell ⟨gb318, 1, none⟩ (.bool t324)).setCell ⟨gb319, 0, none⟩ (.int .i64 t325)).setCell ⟨gb319, 1, none⟩ (.bool t326)).setCell ⟨gb320, 0, none⟩ (.int .i64 t327)).setCell ⟨gb320, 1, none⟩ (.bool t328)).setCell ⟨gb321, 0, none⟩ (.int .i64 t329)).setCell ⟨gb321, 1, none⟩ (.bool t330)).heap[gb321]? = some (.cells #[.int .i64 t329, .bool t330] 23 (0, 0))) := ⟨by (with_reducible repeat (first | refine blk_drewN ?_ _ | refine blk_drew ?_ | refine blk_alloc ?_ _)); refine blk_put (cs := #[.int .i64 t329, .bool a3_1]) ?_ 1 _ rfl; (with_reducible repeat (first | refine blk_drewN ?_ _ | refine blk_drew ?_ | refine blk_alloc ?_ _)); refine blk_put (cs := #[.int .i64 a3_0, .bool a3_1]) ?_ 0 _ rfl; (with_reducible repeat (first | refine blk_drewN ?_ _ | refine blk_drew ?_ | refine blk_alloc ?_ _)); refine blk_far ?_ NB321_320.out _; (with_reducible repeat (first | refine blk_drewN ?_ _ | refine blk_drew ?_ | refine blk_alloc ?_ _)); refine blk_far ?_ NB321_320.out _; (with_reducible repeat (first | refine blk_drewN ?_ _ | refine blk_drew ?_ | refine blk_alloc ?_ _)); refine blk_far ?_ NB321_319.out _; (with_reducible repeat (first | refine blk_drewN ?_ _ | refine blk_drew ?_ | refine blk_alloc ?_ _)); refine blk_far ?_ NB321_319.out _; (with_reducible repeat (first | refine blk_drewN ?_ _ | refine blk_drew ?_ | refine blk_alloc ?_ _)); refine blk_far ?_ NB321_318.out _; (with_reducible repeat (first | refine blk_drewN ?_ _ | refine blk_drew ?_ | refine blk_alloc ?_ _)); refine blk_far ?_ NB321_318.out _; (with_reducible repeat (first | refine blk_drewN ?_ _ | refine blk_drew ?_ | refine blk_alloc ?_ _)); exact BK321.out⟩
  have n4_ : Aside0 (((((((((w24.setCell ⟨gb318, 0, none⟩ (.int .i64 t323)).setCell ⟨gb318, 1, none⟩ (.bool t324)).setCell ⟨gb319, 0, none⟩ (.int .i64 t325)).setCell ⟨gb319, 1, none⟩ (.bool t326)).setCell ⟨gb320, 0, none⟩ (.int .i64 t327)).setCell ⟨gb320, 1, none⟩ (.bool t328)).setCell ⟨gb321, 0, none⟩ (.int .i64 t329)).setCell ⟨gb321, 1, none⟩ (.bool t330)).heap[gb322]? = some (.cells #[.int .i64 0, .bool false] 23 (0, 0))) := ⟨by (with_reducible repeat (first | refine blk_drewN ?_ _ | refine blk_drew ?_ | refine blk_alloc ?_ _)); refine blk_far ?_ NB322_321.out _; (with_reducible repeat (first | refine blk_drewN ?_ _ | refine blk_drew ?_ | refine blk_alloc ?_ _)); refine blk_far ?_ NB322_321.out _; (with_reducible repeat (first | refine blk_drewN ?_ _ | refine blk_drew ?_ | refine blk_alloc ?_ _)); refine blk_far ?_ NB322_320.out _; (with_reducible repeat (first | refine blk_drewN ?_ _ | refine blk_drew ?_ | refine blk_alloc ?_ _)); refine blk_far ?_ NB322_320.out _; (with_reducible repeat (first | refine blk_drewN ?_ _ | refine blk_drew ?_ | refine blk_alloc ?_ _)); refine blk_far ?_ NB322_319.out _; (with_reducible repeat (first | refine blk_drewN ?_ _ | refine blk_drew ?_ | refine blk_alloc ?_ _)); refine blk_far ?_ NB322_319.out _; (with_reducible repeat (first | refine blk_drewN ?_ _ | refine blk_drew ?_ | refine blk_alloc ?_ _)); refine blk_far ?_ NB322_318.out _; (with_reducible repeat (first | refine blk_drewN ?_ _ | refine blk_drew ?_ | refine blk_alloc ?_ _)); refine blk_far ?_ NB322_318.out _; (with_reducible repeat (first | refine blk_drewN ?_ _ | refine blk_drew ?_ | refine blk_alloc ?_ _)); exact BK322.out⟩
  have n5_ : Aside0 (Below w.heap.size w ((((((((w24.setCell ⟨gb318, 0, none⟩ (.int .i64 t323)).setCell ⟨gb318, 1, none⟩ (.bool t324)).setCell ⟨gb319, 0, none⟩ (.int .i64 t325)).setCell ⟨gb319, 1, none⟩ (.bool t326)).setCell ⟨gb320, 0, none⟩ (.int .i64 t327)).setCell ⟨gb320, 1, none⟩ (.bool t328)).setCell ⟨gb321, 0, none⟩ (.int .i64 t329)).setCell ⟨gb321, 1, none⟩ (.bool t330))) := ⟨by repeat (first | (with_reducible first | exact HB.out | apply below_alloc | apply pw_below_drewN | apply below_drew1 | refine below_set ?_ GE318.out | refine below_set ?_ GE319.out | refine below_set ?_ GE320.out | refine below_set ?_ GE321.out | refine below_set ?_ GE322.out) | exact HB.out)⟩
  (try clear BK318)
  (try clear BK319)
  (try clear BK320)
  (try clear BK321)
  (try clear BK322)
  (try clear HB)
  generalize ((((((((w24.setCell ⟨gb318, 0, none⟩ (.int .i64 t323)).setCell ⟨gb318, 1, none⟩ (.bool t324)).setCell ⟨gb319, 0, none⟩ (.int .i64 t325)).setCell ⟨gb319, 1, none⟩ (.bool t326)).setCell ⟨gb320, 0, none⟩ (.int .i64 t327)).setCell ⟨gb320, 1, none⟩ (.bool t328)).setCell ⟨gb321, 0, none⟩ (.int .i64 t329)).setCell ⟨gb321, 1, none⟩ (.bool t330)) = w33 at n0_ n1_ n2_ n3_ n4_ n5_ ⊢
  have BK318 := n0_
  have BK319 := n1_
  have BK320 := n2_
  have BK321 := n3_
  have BK322 := n4_
  have HB := n5_
  clear n0_ n1_ n2_ n3_ n4_ n5_
  have n0_ := Aside0.mk (blk_drew BK318.out)
  have n1_ := Aside0.mk (blk_drew BK319.out)
  have n2_ := Aside0.mk (blk_drew BK320.out)
  have n3_ := Aside0.mk (blk_drew BK321.out)
  have n4_ := Aside0.mk (blk_drew BK322.out)
  have n5_ := Aside0.mk (below_drew1 HB.out)
  clear BK318
  clear BK319
  clear BK320
  clear BK321
  clear BK322
  clear HB
  have BK318 := n0_
  have BK319 := n1_
  have BK320 := n2_
  have BK321 := n3_
  have BK322 := n4_
  have HB := n5_
  clear n0_ n1_ n2_ n3_ n4_ n5_
  refine start_ (n := 20) (S := fun w' => True) (ds := []) #[false, false, false, false, false, false, false, false, false, false, false, false, false, false, false, false, false, false, false, false] (by kernel_rfl) rfl rfl trivial (fun hHeld => ?_); refine with_tabW fixed_Dot.tab2 fixed_Dot.bits2 (fun HT_ HW_ => ?_)
  generalize w33.drew = w34 at BK318 BK319 BK320 BK321 BK322 HB hHeld ⊢
  refine pure_ (i := 0) (N := some 17) (v := ?_) (a' := ?_) #[true, false, false, false, false, false, false, false, false, false, false, false, false, false, false, false, false, false, false, false] rfl rfl (any_of HT_.out (by kernel_rfl)) (fun _ _ _ h => h) (Or.inl ⟨by rfl, ?_⟩) ?_ ?_
  rotate_left
  · intro w'
    go_simp
    with_reducible rfl
  rotate_left
  · simp only [Act.put, List.setIfInBounds_toArray, List.set_cons_zero, List.set_cons_succ, i64_w, i32_w]
    rfl
  refine pure_ (i := 2) (N := some 19) (v := ?_) (a' := ?_) #[true, false, true, false, false, false, false, false, false, false, false, false, false, false, false, false, false, false, false, false] rfl rfl (any_of HT_.out (by kernel_rfl)) (fun _ _ _ h => h) (Or.inl ⟨by rfl, ?_⟩) ?_ ?_
  rotate_left
  · intro w'
    go_simp
    with_reducible rfl
  rotate_left
  · simp only [Act.put, List.setIfInBounds_toArray, List.set_cons_zero, List.set_cons_succ, i64_w, i32_w]
    rfl
  refine pure_ (i := 5) (N := some 22) (v := ?_) (a' := ?_) #[true, false, true, false, false, true, false, false, false, false, false, false, false, false, false, false, false, false, false, false] rfl rfl (any_of HT_.out (by kernel_rfl)) (fun _ _ _ h => h) (Or.inl ⟨by rfl, ?_⟩) ?_ ?_
  rotate_left
  · intro w'
    go_simp
    with_reducible rfl
  rotate_left
  · simp only [Act.put, List.setIfInBounds_toArray, List.set_cons_zero, List.set_cons_succ, i64_w, i32_w]
    rfl
  refine pure_ (i := 7) (N := some 24) (v := ?_) (a' := ?_) #[true, false, true, false, false, true, false, true, false, false, false, false, false, false, false, false, false, false, false, false] rfl rfl (any_of HT_.out (by kernel_rfl)) (fun _ _ _ h => h) (Or.inl ⟨by rfl, ?_⟩) ?_ ?_
  rotate_left
  · intro w'
    go_simp
    with_reducible rfl
  rotate_left
  · simp only [Act.put, List.setIfInBounds_toArray, List.set_cons_zero, List.set_cons_succ, i64_w, i32_w]
    rfl
  refine inv_at [1, 3, 4, 6, 8, 9, 10, 11, 12, 13, 14, 15, 16, 17, 18, 19] (fun a0_ b a w' => ∃ (v344 : Value), a = putSel a0_ b [(1, 18, .int .i64 t323), (3, 20, .int .i64 t325), (4, 21, .agg #[.bool t331, .int .u64 t332, .int .u64 t333]), (6, 23, .int .i64 t327), (8, 25, .int .i64 t329), (9, 26, .agg #[.bool t334, .int .u64 t335, .int .u64 t336]), (10, 27, .agg #[.bool t337, .int .u64 t338, .int .u64 t339]), (11, 28, .agg #[.bool t340, .int .u64 t341, .int .u64 t342]), (12, 29, .agg #[.int .i64 t323, .bool t324]), (13, 30, .agg #[.int .i64 t325, .bool t326]), (14, 31, .agg #[.int .i64 t327, .bool t328]), (15, 32, .agg #[.int .i64 t329, .bool t330]), (16, 33, v344), (17, 34, .bool t346), (18, 35, .agg #[.int .i64 t347, .bool t348])] ∧ (w'.heap[gb318]? = some (.cells #[.int .i64 t323, .bool t324] 23 (0, 0))) ∧ (w'.heap[gb319]? = some (.cells #[.int .i64 t325, .bool t326] 23 (0, 0))) ∧ (w'.heap[gb320]? = some (.cells #[.int .i64 t327, .bool t328] 23 (0, 0))) ∧ (w'.heap[gb321]? = some (.cells #[.int .i64 t329, .bool t330] 23 (0, 0))) ∧ (b 19 = false → w'.heap[gb322]? = some (.cells #[.int .i64 0, .bool false] 23 (0, 0))) ∧ (Below w.heap.size w w') ∧ (b 16 = true → Kd.R k23 23 w' w.heap.size (fun k_ => k_ ≠ gb318 ∧ k_ ≠ gb319 ∧ k_ ≠ gb320 ∧ k_ ≠ gb321 ∧ k_ ≠ gb322) v344 y343) ∧ (b 19 = true → w'.heap[gb322]? = some (.cells #[.int .i64 t347, .bool t348] 23 (0, 0)))) HT_.out HW_.out (by kernel_rfl) (by kernel_rfl) ?_ ?_ ?_
  · exact ⟨.bool false, by simp only [putSel, Bool.false_eq_true, if_false], BK318.out, BK319.out, BK320.out, BK321.out, fun _ => BK322.out, HB.out, fun h_ => absurd h_ (by decide), fun h_ => absurd h_ (by decide)⟩
  · skip
    clear BK318 BK319 BK320 BK321 BK322 HB
    refine steps_cons ?_ ?_
    · rintro b a w' ⟨v344, ha, Q_BK318, Q_BK319, Q_BK320, Q_BK321, Q_BK322, Q_HB, Q_HO345, Q_BK322_e19⟩ hb_ hon hoff
      refine ⟨_, rfl, fun K hK => ?_⟩
      have e17 : a.tmps[17]? = some (.pointer (some ⟨gb318, 0, none⟩)) := by rw [ha]; exact (putSel_off rfl).trans rfl
      replace ha := Aside0.mk ha
      have BK318 := Aside0.mk Q_BK318
      have BK319 := Aside0.mk Q_BK319
      have BK320 := Aside0.mk Q_BK320
      have BK321 := Aside0.mk Q_BK321
      have BK322 := Aside0.mk (Q_BK322 (hoff 19 (by kernel_rfl)))
      have HB := Aside0.mk Q_HB
      have hc0_ : w'.cell? ⟨gb318, 0, none⟩ = some (.int .i64 t323) := (blk_cell BK318.out 0).trans rfl
      have hc1_ : w'.cell? ⟨gb318, 1, none⟩ = some (.bool t324) := (blk_cell BK318.out 1).trans rfl
      refine value_ (w1 := w') (v := .int .i64 t323) (by rfl) rfl ?_ ?_
      · go_simp
        (try simp only [i64_w])
        try rfl
      refine hK.out _ _ ⟨v344, (by rw [ha.out]; exact putSel_upk 0 hb_ rfl rfl rfl), Q_BK318, Q_BK319, Q_BK320, Q_BK321, Q_BK322, Q_HB, Q_HO345, fun h0_ => absurd ((hoff 19 (by kernel_rfl)).symm.trans h0_) (by decide)⟩
    refine steps_cons ?_ ?_
    · rintro b a w' ⟨v344, ha, Q_BK318, Q_BK319, Q_BK320, Q_BK321, Q_BK322, Q_HB, Q_HO345, Q_BK322_e19⟩ hb_ hon hoff
      refine ⟨_, rfl, fun K hK => ?_⟩
      have e19 : a.tmps[19]? = some (.pointer (some ⟨gb319, 0, none⟩)) := by rw [ha]; exact (putSel_off rfl).trans rfl
      replace ha := Aside0.mk ha
      have BK318 := Aside0.mk Q_BK318
      have BK319 := Aside0.mk Q_BK319
      have BK320 := Aside0.mk Q_BK320
      have BK321 := Aside0.mk Q_BK321
      have BK322 := Aside0.mk (Q_BK322 (hoff 19 (by kernel_rfl)))
      have HB := Aside0.mk Q_HB
      have hc0_ : w'.cell? ⟨gb319, 0, none⟩ = some (.int .i64 t325) := (blk_cell BK319.out 0).trans rfl
      have hc1_ : w'.cell? ⟨gb319, 1, none⟩ = some (.bool t326) := (blk_cell BK319.out 1).trans rfl
      refine value_ (w1 := w') (v := .int .i64 t325) (by rfl) rfl ?_ ?_
      · go_simp
        (try simp only [i64_w])
        try rfl
      refine hK.out _ _ ⟨v344, (by rw [ha.out]; exact putSel_upk 1 hb_ rfl rfl rfl), Q_BK318, Q_BK319, Q_BK320, Q_BK321, Q_BK322, Q_HB, Q_HO345, fun h0_ => absurd ((hoff 19 (by kernel_rfl)).symm.trans h0_) (by decide)⟩
    refine steps_cons ?_ ?_
    · rintro b a w' ⟨v344, ha, Q_BK318, Q_BK319, Q_BK320, Q_BK321, Q_BK322, Q_HB, Q_HO345, Q_BK322_e19⟩ hb_ hon hoff
      refine ⟨_, rfl, fun K hK => ?_⟩
      have e18 : a.tmps[18]? = some (.int .i64 t323) := by rw [ha]; exact putSel_on (e := (1, 18, .int .i64 t323)) 0 rfl rfl (hon 1 (by kernel_rfl)) rfl
      have e20 : a.tmps[20]? = some (.int .i64 t325) := by rw [ha]; exact putSel_on (e := (3, 20, .int .i64 t325)) 1 rfl rfl (hon 3 (by kernel_rfl)) rfl
      replace ha := Aside0.mk ha
      have BK318 := Aside0.mk Q_BK318
      have BK319 := Aside0.mk Q_BK319
      have BK320 := Aside0.mk Q_BK320
      have BK321 := Aside0.mk Q_BK321
      have BK322 := Aside0.mk (Q_BK322 (hoff 19 (by kernel_rfl)))
      have HB := Aside0.mk Q_HB
      refine goes_ Try.func74 (by kernel_rfl) rfl #[.int .i64 t323, .int .i64 t325] (by rfl) rfl rfl (by first | (simp only [List.map_toArray, List.map_cons, List.map_nil, Act.eval, Array.getD_eq_getD_getElem?, Option.getD_some, e18, e20]; done) | (simp only [List.map_toArray, List.map_cons, List.map_nil, Act.eval, Array.getD_eq_getD_getElem?, Option.getD_some, e18, e20]; rfl)) ?_
      with_reducible refine (fixed_product.calls t323 t325 t331 t332 t333 _ A9.out).mono ?_
      rintro e w35 ⟨rfl, hb⟩
      refine ⟨_, rfl, ?_⟩
      have n0_ := Aside0.mk (blk_below (g := gb318) (o := .cells #[.int .i64 t323, .bool t324] 23 (0, 0)) (by (with_reducible repeat (first | refine blk_drewN ?_ _ | refine blk_drew ?_ | refine blk_alloc ?_ _)); exact BK318.out) hb)
      have n1_ := Aside0.mk (blk_below (g := gb319) (o := .cells #[.int .i64 t325, .bool t326] 23 (0, 0)) (by (with_reducible repeat (first | refine blk_drewN ?_ _ | refine blk_drew ?_ | refine blk_alloc ?_ _)); exact BK319.out) hb)
      have n2_ := Aside0.mk (blk_below (g := gb320) (o := .cells #[.int .i64 t327, .bool t328] 23 (0, 0)) (by (with_reducible repeat (first | refine blk_drewN ?_ _ | refine blk_drew ?_ | refine blk_alloc ?_ _)); exact BK320.out) hb)
      have n3_ := Aside0.mk (blk_below (g := gb321) (o := .cells #[.int .i64 t329, .bool t330] 23 (0, 0)) (by (with_reducible repeat (first | refine blk_drewN ?_ _ | refine blk_drew ?_ | refine blk_alloc ?_ _)); exact BK321.out) hb)
      have n4_ := Aside0.mk (blk_below (g := gb322) (o := .cells #[.int .i64 0, .bool false] 23 (0, 0)) (by (with_reducible repeat (first | refine blk_drewN ?_ _ | refine blk_drew ?_ | refine blk_alloc ?_ _)); exact BK322.out) hb)
      have n5_ := Aside0.mk (below_step (by repeat (first | (with_reducible first | exact HB.out | apply below_alloc | apply pw_below_drewN | apply below_drew1 | refine below_set ?_ GE318.out | refine below_set ?_ GE319.out | refine below_set ?_ GE320.out | refine below_set ?_ GE321.out | refine below_set ?_ GE322.out) | exact HB.out)) hb)
      have z_HO345 := fun (h0_ : b 16 = true) => (show Kd.R k23 23 w35 w.heap.size (fun k_ => k_ ≠ gb318 ∧ k_ ≠ gb319 ∧ k_ ≠ gb320 ∧ k_ ≠ gb321 ∧ k_ ≠ gb322) v344 y343 from by first | exact (Kd.R_below (by (with_reducible repeat (first | apply Kd.R_alloc | apply Kd.R_drewN | apply Kd.R_drew)); exact (Q_HO345 h0_)) hb) | exact Kd.R_mono (Kd.R_below (by (with_reducible repeat (first | apply Kd.R_alloc | apply Kd.R_drewN | apply Kd.R_drew)); exact (Q_HO345 h0_)) hb) (fun _ h_ => by first | trivial | exact h_ | exact h_.1))
      clear BK318
      clear BK319
      clear BK320
      clear BK321
      clear BK322
      clear HB
      have BK318 := n0_
      have BK319 := n1_
      have BK320 := n2_
      have BK321 := n3_
      have BK322 := n4_
      have HB := n5_
      clear n0_ n1_ n2_ n3_ n4_ n5_
      (try clear hb)
      (try clear hb2)
      (try clear hk)
      (try clear hi)
      refine hK.out _ _ ⟨v344, (by rw [ha.out]; exact putSel_upk 2 hb_ rfl rfl rfl), (by (with_reducible repeat (first | refine blk_drewN ?_ _ | refine blk_drew ?_ | refine blk_alloc ?_ _)); exact BK318.out), (by (with_reducible repeat (first | refine blk_drewN ?_ _ | refine blk_drew ?_ | refine blk_alloc ?_ _)); exact BK319.out), (by (with_reducible repeat (first | refine blk_drewN ?_ _ | refine blk_drew ?_ | refine blk_alloc ?_ _)); exact BK320.out), (by (with_reducible repeat (first | refine blk_drewN ?_ _ | refine blk_drew ?_ | refine blk_alloc ?_ _)); exact BK321.out), fun _ => (by (with_reducible repeat (first | refine blk_drewN ?_ _ | refine blk_drew ?_ | refine blk_alloc ?_ _)); exact BK322.out), (by repeat (first | (with_reducible first | exact HB.out | apply below_alloc | apply pw_below_drewN | apply below_drew1 | refine below_set ?_ GE318.out | refine below_set ?_ GE319.out | refine below_set ?_ GE320.out | refine below_set ?_ GE321.out | refine below_set ?_ GE322.out) | exact HB.out)), z_HO345, fun h0_ => absurd ((hoff 19 (by kernel_rfl)).symm.trans h0_) (by decide)⟩
    refine steps_cons ?_ ?_
    · rintro b a w' ⟨v344, ha, Q_BK318, Q_BK319, Q_BK320, Q_BK321, Q_BK322, Q_HB, Q_HO345, Q_BK322_e19⟩ hb_ hon hoff
      refine ⟨_, rfl, fun K hK => ?_⟩
      have e22 : a.tmps[22]? = some (.pointer (some ⟨gb320, 0, none⟩)) := by rw [ha]; exact (putSel_off rfl).trans rfl
      replace ha := Aside0.mk ha
      have BK318 := Aside0.mk Q_BK318
      have BK319 := Aside0.mk Q_BK319
      have BK320 := Aside0.mk Q_BK320
      have BK321 := Aside0.mk Q_BK321
      have BK322 := Aside0.mk (Q_BK322 (hoff 19 (by kernel_rfl)))
      have HB := Aside0.mk Q_HB
      have hc0_ : w'.cell? ⟨gb320, 0, none⟩ = some (.int .i64 t327) := (blk_cell BK320.out 0).trans rfl
      have hc1_ : w'.cell? ⟨gb320, 1, none⟩ = some (.bool t328) := (blk_cell BK320.out 1).trans rfl
      refine value_ (w1 := w') (v := .int .i64 t327) (by rfl) rfl ?_ ?_
      · go_simp
        (try simp only [i64_w])
        try rfl
      refine hK.out _ _ ⟨v344, (by rw [ha.out]; exact putSel_upk 3 hb_ rfl rfl rfl), Q_BK318, Q_BK319, Q_BK320, Q_BK321, Q_BK322, Q_HB, Q_HO345, fun h0_ => absurd ((hoff 19 (by kernel_rfl)).symm.trans h0_) (by decide)⟩
    refine steps_cons ?_ ?_
    · rintro b a w' ⟨v344, ha, Q_BK318, Q_BK319, Q_BK320, Q_BK321, Q_BK322, Q_HB, Q_HO345, Q_BK322_e19⟩ hb_ hon hoff
      refine ⟨_, rfl, fun K hK => ?_⟩
      have e24 : a.tmps[24]? = some (.pointer (some ⟨gb321, 0, none⟩)) := by rw [ha]; exact (putSel_off rfl).trans rfl
      replace ha := Aside0.mk ha
      have BK318 := Aside0.mk Q_BK318
      have BK319 := Aside0.mk Q_BK319
      have BK320 := Aside0.mk Q_BK320
      have BK321 := Aside0.mk Q_BK321
      have BK322 := Aside0.mk (Q_BK322 (hoff 19 (by kernel_rfl)))
      have HB := Aside0.mk Q_HB
      have hc0_ : w'.cell? ⟨gb321, 0, none⟩ = some (.int .i64 t329) := (blk_cell BK321.out 0).trans rfl
      have hc1_ : w'.cell? ⟨gb321, 1, none⟩ = some (.bool t330) := (blk_cell BK321.out 1).trans rfl
      refine value_ (w1 := w') (v := .int .i64 t329) (by rfl) rfl ?_ ?_
      · go_simp
        (try simp only [i64_w])
        try rfl
      refine hK.out _ _ ⟨v344, (by rw [ha.out]; exact putSel_upk 4 hb_ rfl rfl rfl), Q_BK318, Q_BK319, Q_BK320, Q_BK321, Q_BK322, Q_HB, Q_HO345, fun h0_ => absurd ((hoff 19 (by kernel_rfl)).symm.trans h0_) (by decide)⟩
    refine steps_cons ?_ ?_
    · rintro b a w' ⟨v344, ha, Q_BK318, Q_BK319, Q_BK320, Q_BK321, Q_BK322, Q_HB, Q_HO345, Q_BK322_e19⟩ hb_ hon hoff
      refine ⟨_, rfl, fun K hK => ?_⟩
      have e23 : a.tmps[23]? = some (.int .i64 t327) := by rw [ha]; exact putSel_on (e := (6, 23, .int .i64 t327)) 3 rfl rfl (hon 6 (by kernel_rfl)) rfl
      have e25 : a.tmps[25]? = some (.int .i64 t329) := by rw [ha]; exact putSel_on (e := (8, 25, .int .i64 t329)) 4 rfl rfl (hon 8 (by kernel_rfl)) rfl
      replace ha := Aside0.mk ha
      have BK318 := Aside0.mk Q_BK318
      have BK319 := Aside0.mk Q_BK319
      have BK320 := Aside0.mk Q_BK320
      have BK321 := Aside0.mk Q_BK321
      have BK322 := Aside0.mk (Q_BK322 (hoff 19 (by kernel_rfl)))
      have HB := Aside0.mk Q_HB
      refine goes_ Try.func74 (by kernel_rfl) rfl #[.int .i64 t327, .int .i64 t329] (by rfl) rfl rfl (by first | (simp only [List.map_toArray, List.map_cons, List.map_nil, Act.eval, Array.getD_eq_getD_getElem?, Option.getD_some, e23, e25]; done) | (simp only [List.map_toArray, List.map_cons, List.map_nil, Act.eval, Array.getD_eq_getD_getElem?, Option.getD_some, e23, e25]; rfl)) ?_
      with_reducible refine (fixed_product.calls t327 t329 t334 t335 t336 _ A10.out).mono ?_
      rintro e w37 ⟨rfl, hb⟩
      refine ⟨_, rfl, ?_⟩
      have n0_ := Aside0.mk (blk_below (g := gb318) (o := .cells #[.int .i64 t323, .bool t324] 23 (0, 0)) (by (with_reducible repeat (first | refine blk_drewN ?_ _ | refine blk_drew ?_ | refine blk_alloc ?_ _)); exact BK318.out) hb)
      have n1_ := Aside0.mk (blk_below (g := gb319) (o := .cells #[.int .i64 t325, .bool t326] 23 (0, 0)) (by (with_reducible repeat (first | refine blk_drewN ?_ _ | refine blk_drew ?_ | refine blk_alloc ?_ _)); exact BK319.out) hb)
      have n2_ := Aside0.mk (blk_below (g := gb320) (o := .cells #[.int .i64 t327, .bool t328] 23 (0, 0)) (by (with_reducible repeat (first | refine blk_drewN ?_ _ | refine blk_drew ?_ | refine blk_alloc ?_ _)); exact BK320.out) hb)
      have n3_ := Aside0.mk (blk_below (g := gb321) (o := .cells #[.int .i64 t329, .bool t330] 23 (0, 0)) (by (with_reducible repeat (first | refine blk_drewN ?_ _ | refine blk_drew ?_ | refine blk_alloc ?_ _)); exact BK321.out) hb)
      have n4_ := Aside0.mk (blk_below (g := gb322) (o := .cells #[.int .i64 0, .bool false] 23 (0, 0)) (by (with_reducible repeat (first | refine blk_drewN ?_ _ | refine blk_drew ?_ | refine blk_alloc ?_ _)); exact BK322.out) hb)
      have n5_ := Aside0.mk (below_step (by repeat (first | (with_reducible first | exact HB.out | apply below_alloc | apply pw_below_drewN | apply below_drew1 | refine below_set ?_ GE318.out | refine below_set ?_ GE319.out | refine below_set ?_ GE320.out | refine below_set ?_ GE321.out | refine below_set ?_ GE322.out) | exact HB.out)) hb)
      have z_HO345 := fun (h0_ : b 16 = true) => (show Kd.R k23 23 w37 w.heap.size (fun k_ => k_ ≠ gb318 ∧ k_ ≠ gb319 ∧ k_ ≠ gb320 ∧ k_ ≠ gb321 ∧ k_ ≠ gb322) v344 y343 from by first | exact (Kd.R_below (by (with_reducible repeat (first | apply Kd.R_alloc | apply Kd.R_drewN | apply Kd.R_drew)); exact (Q_HO345 h0_)) hb) | exact Kd.R_mono (Kd.R_below (by (with_reducible repeat (first | apply Kd.R_alloc | apply Kd.R_drewN | apply Kd.R_drew)); exact (Q_HO345 h0_)) hb) (fun _ h_ => by first | trivial | exact h_ | exact h_.1))
      clear BK318
      clear BK319
      clear BK320
      clear BK321
      clear BK322
      clear HB
      have BK318 := n0_
      have BK319 := n1_
      have BK320 := n2_
      have BK321 := n3_
      have BK322 := n4_
      have HB := n5_
      clear n0_ n1_ n2_ n3_ n4_ n5_
      (try clear hb)
      (try clear hb2)
      (try clear hk)
      (try clear hi)
      refine hK.out _ _ ⟨v344, (by rw [ha.out]; exact putSel_upk 5 hb_ rfl rfl rfl), (by (with_reducible repeat (first | refine blk_drewN ?_ _ | refine blk_drew ?_ | refine blk_alloc ?_ _)); exact BK318.out), (by (with_reducible repeat (first | refine blk_drewN ?_ _ | refine blk_drew ?_ | refine blk_alloc ?_ _)); exact BK319.out), (by (with_reducible repeat (first | refine blk_drewN ?_ _ | refine blk_drew ?_ | refine blk_alloc ?_ _)); exact BK320.out), (by (with_reducible repeat (first | refine blk_drewN ?_ _ | refine blk_drew ?_ | refine blk_alloc ?_ _)); exact BK321.out), fun _ => (by (with_reducible repeat (first | refine blk_drewN ?_ _ | refine blk_drew ?_ | refine blk_alloc ?_ _)); exact BK322.out), (by repeat (first | (with_reducible first | exact HB.out | apply below_alloc | apply pw_below_drewN | apply below_drew1 | refine below_set ?_ GE318.out | refine below_set ?_ GE319.out | refine below_set ?_ GE320.out | refine below_set ?_ GE321.out | refine below_set ?_ GE322.out) | exact HB.out)), z_HO345, fun h0_ => absurd ((hoff 19 (by kernel_rfl)).symm.trans h0_) (by decide)⟩
    refine steps_cons ?_ ?_
    · rintro b a w' ⟨v344, ha, Q_BK318, Q_BK319, Q_BK320, Q_BK321, Q_BK322, Q_HB, Q_HO345, Q_BK322_e19⟩ hb_ hon hoff
      refine ⟨_, rfl, fun K hK => ?_⟩
      have e21 : a.tmps[21]? = some (.agg #[.bool t331, .int .u64 t332, .int .u64 t333]) := by rw [ha]; exact putSel_on (e := (4, 21, .agg #[.bool t331, .int .u64 t332, .int .u64 t333])) 2 rfl rfl (hon 4 (by kernel_rfl)) rfl
      have e26 : a.tmps[26]? = some (.agg #[.bool t334, .int .u64 t335, .int .u64 t336]) := by rw [ha]; exact putSel_on (e := (9, 26, .agg #[.bool t334, .int .u64 t335, .int .u64 t336])) 5 rfl rfl (hon 9 (by kernel_rfl)) rfl
      replace ha := Aside0.mk ha
      have BK318 := Aside0.mk Q_BK318
      have BK319 := Aside0.mk Q_BK319
      have BK320 := Aside0.mk Q_BK320
      have BK321 := Aside0.mk Q_BK321
      have BK322 := Aside0.mk (Q_BK322 (hoff 19 (by kernel_rfl)))
      have HB := Aside0.mk Q_HB
      refine goes_ Try.func75 (by kernel_rfl) rfl #[.agg #[.bool t331, .int .u64 t332, .int .u64 t333], .agg #[.bool t334, .int .u64 t335, .int .u64 t336]] (by rfl) rfl rfl (by first | (simp only [List.map_toArray, List.map_cons, List.map_nil, Act.eval, Array.getD_eq_getD_getElem?, Option.getD_some, e21, e26]; done) | (simp only [List.map_toArray, List.map_cons, List.map_nil, Act.eval, Array.getD_eq_getD_getElem?, Option.getD_some, e21, e26]; rfl)) ?_
      with_reducible refine (fixed_exact_plus.calls k t331 t332 t333 t334 t335 t336 t337 t338 t339 _ A11.out).mono ?_
      rintro e w38 ⟨rfl, hb⟩
      refine ⟨_, rfl, ?_⟩
      have n0_ := Aside0.mk (blk_below (g := gb318) (o := .cells #[.int .i64 t323, .bool t324] 23 (0, 0)) (by (with_reducible repeat (first | refine blk_drewN ?_ _ | refine blk_drew ?_ | refine blk_alloc ?_ _)); exact BK318.out) hb)
      have n1_ := Aside0.mk (blk_below (g := gb319) (o := .cells #[.int .i64 t325, .bool t326] 23 (0, 0)) (by (with_reducible repeat (first | refine blk_drewN ?_ _ | refine blk_drew ?_ | refine blk_alloc ?_ _)); exact BK319.out) hb)
      have n2_ := Aside0.mk (blk_below (g := gb320) (o := .cells #[.int .i64 t327, .bool t328] 23 (0, 0)) (by (with_reducible repeat (first | refine blk_drewN ?_ _ | refine blk_drew ?_ | refine blk_alloc ?_ _)); exact BK320.out) hb)
      have n3_ := Aside0.mk (blk_below (g := gb321) (o := .cells #[.int .i64 t329, .bool t330] 23 (0, 0)) (by (with_reducible repeat (first | refine blk_drewN ?_ _ | refine blk_drew ?_ | refine blk_alloc ?_ _)); exact BK321.out) hb)
      have n4_ := Aside0.mk (blk_below (g := gb322) (o := .cells #[.int .i64 0, .bool false] 23 (0, 0)) (by (with_reducible repeat (first | refine blk_drewN ?_ _ | refine blk_drew ?_ | refine blk_alloc ?_ _)); exact BK322.out) hb)
      have n5_ := Aside0.mk (below_step (by repeat (first | (with_reducible first | exact HB.out | apply below_alloc | apply pw_below_drewN | apply below_drew1 | refine below_set ?_ GE318.out | refine below_set ?_ GE319.out | refine below_set ?_ GE320.out | refine below_set ?_ GE321.out | refine below_set ?_ GE322.out) | exact HB.out)) hb)
      have z_HO345 := fun (h0_ : b 16 = true) => (show Kd.R k23 23 w38 w.heap.size (fun k_ => k_ ≠ gb318 ∧ k_ ≠ gb319 ∧ k_ ≠ gb320 ∧ k_ ≠ gb321 ∧ k_ ≠ gb322) v344 y343 from by first | exact (Kd.R_below (by (with_reducible repeat (first | apply Kd.R_alloc | apply Kd.R_drewN | apply Kd.R_drew)); exact (Q_HO345 h0_)) hb) | exact Kd.R_mono (Kd.R_below (by (with_reducible repeat (first | apply Kd.R_alloc | apply Kd.R_drewN | apply Kd.R_drew)); exact (Q_HO345 h0_)) hb) (fun _ h_ => by first | trivial | exact h_ | exact h_.1))
      clear BK318
      clear BK319
      clear BK320
      clear BK321
      clear BK322
      clear HB
      have BK318 := n0_
      have BK319 := n1_
      have BK320 := n2_
      have BK321 := n3_
      have BK322 := n4_
      have HB := n5_
      clear n0_ n1_ n2_ n3_ n4_ n5_
      (try clear hb)
      (try clear hb2)
      (try clear hk)
      (try clear hi)
      refine hK.out _ _ ⟨v344, (by rw [ha.out]; exact putSel_upk 6 hb_ rfl rfl rfl), (by (with_reducible repeat (first | refine blk_drewN ?_ _ | refine blk_drew ?_ | refine blk_alloc ?_ _)); exact BK318.out), (by (with_reducible repeat (first | refine blk_drewN ?_ _ | refine blk_drew ?_ | refine blk_alloc ?_ _)); exact BK319.out), (by (with_reducible repeat (first | refine blk_drewN ?_ _ | refine blk_drew ?_ | refine blk_alloc ?_ _)); exact BK320.out), (by (with_reducible repeat (first | refine blk_drewN ?_ _ | refine blk_drew ?_ | refine blk_alloc ?_ _)); exact BK321.out), fun _ => (by (with_reducible repeat (first | refine blk_drewN ?_ _ | refine blk_drew ?_ | refine blk_alloc ?_ _)); exact BK322.out), (by repeat (first | (with_reducible first | exact HB.out | apply below_alloc | apply pw_below_drewN | apply below_drew1 | refine below_set ?_ GE318.out | refine below_set ?_ GE319.out | refine below_set ?_ GE320.out | refine below_set ?_ GE321.out | refine below_set ?_ GE322.out) | exact HB.out)), z_HO345, fun h0_ => absurd ((hoff 19 (by kernel_rfl)).symm.trans h0_) (by decide)⟩
    refine steps_cons ?_ ?_
    · rintro b a w' ⟨v344, ha, Q_BK318, Q_BK319, Q_BK320, Q_BK321, Q_BK322, Q_HB, Q_HO345, Q_BK322_e19⟩ hb_ hon hoff
      refine ⟨_, rfl, fun K hK => ?_⟩
      have e27 : a.tmps[27]? = some (.agg #[.bool t337, .int .u64 t338, .int .u64 t339]) := by rw [ha]; exact putSel_on (e := (10, 27, .agg #[.bool t337, .int .u64 t338, .int .u64 t339])) 6 rfl rfl (hon 10 (by kernel_rfl)) rfl
      replace ha := Aside0.mk ha
      have BK318 := Aside0.mk Q_BK318
      have BK319 := Aside0.mk Q_BK319
      have BK320 := Aside0.mk Q_BK320
      have BK321 := Aside0.mk Q_BK321
      have BK322 := Aside0.mk (Q_BK322 (hoff 19 (by kernel_rfl)))
      have HB := Aside0.mk Q_HB
      refine goes_ Try.func87 (by kernel_rfl) rfl #[.agg #[.bool t337, .int .u64 t338, .int .u64 t339]] (by rfl) rfl rfl (by first | (simp only [List.map_toArray, List.map_cons, List.map_nil, Act.eval, Array.getD_eq_getD_getElem?, Option.getD_some, e27]; done) | (simp only [List.map_toArray, List.map_cons, List.map_nil, Act.eval, Array.getD_eq_getD_getElem?, Option.getD_some, e27]; rfl)) ?_
      with_reducible refine (fixed_exact_down.calls t337 t338 t339 t340 t341 t342 _ A12.out).mono ?_
      rintro e w39 ⟨rfl, hb⟩
      refine ⟨_, rfl, ?_⟩
      have n0_ := Aside0.mk (blk_below (g := gb318) (o := .cells #[.int .i64 t323, .bool t324] 23 (0, 0)) (by (with_reducible repeat (first | refine blk_drewN ?_ _ | refine blk_drew ?_ | refine blk_alloc ?_ _)); exact BK318.out) hb)
      have n1_ := Aside0.mk (blk_below (g := gb319) (o := .cells #[.int .i64 t325, .bool t326] 23 (0, 0)) (by (with_reducible repeat (first | refine blk_drewN ?_ _ | refine blk_drew ?_ | refine blk_alloc ?_ _)); exact BK319.out) hb)
      have n2_ := Aside0.mk (blk_below (g := gb320) (o := .cells #[.int .i64 t327, .bool t328] 23 (0, 0)) (by (with_reducible repeat (first | refine blk_drewN ?_ _ | refine blk_drew ?_ | refine blk_alloc ?_ _)); exact BK320.out) hb)
      have n3_ := Aside0.mk (blk_below (g := gb321) (o := .cells #[.int .i64 t329, .bool t330] 23 (0, 0)) (by (with_reducible repeat (first | refine blk_drewN ?_ _ | refine blk_drew ?_ | refine blk_alloc ?_ _)); exact BK321.out) hb)
      have n4_ := Aside0.mk (blk_below (g := gb322) (o := .cells #[.int .i64 0, .bool false] 23 (0, 0)) (by (with_reducible repeat (first | refine blk_drewN ?_ _ | refine blk_drew ?_ | refine blk_alloc ?_ _)); exact BK322.out) hb)
      have n5_ := Aside0.mk (below_step (by repeat (first | (with_reducible first | exact HB.out | apply below_alloc | apply pw_below_drewN | apply below_drew1 | refine below_set ?_ GE318.out | refine below_set ?_ GE319.out | refine below_set ?_ GE320.out | refine below_set ?_ GE321.out | refine below_set ?_ GE322.out) | exact HB.out)) hb)
      have z_HO345 := fun (h0_ : b 16 = true) => (show Kd.R k23 23 w39 w.heap.size (fun k_ => k_ ≠ gb318 ∧ k_ ≠ gb319 ∧ k_ ≠ gb320 ∧ k_ ≠ gb321 ∧ k_ ≠ gb322) v344 y343 from by first | exact (Kd.R_below (by (with_reducible repeat (first | apply Kd.R_alloc | apply Kd.R_drewN | apply Kd.R_drew)); exact (Q_HO345 h0_)) hb) | exact Kd.R_mono (Kd.R_below (by (with_reducible repeat (first | apply Kd.R_alloc | apply Kd.R_drewN | apply Kd.R_drew)); exact (Q_HO345 h0_)) hb) (fun _ h_ => by first | trivial | exact h_ | exact h_.1))
      clear BK318
      clear BK319
      clear BK320
      clear BK321
      clear BK322
      clear HB
      have BK318 := n0_
      have BK319 := n1_
      have BK320 := n2_
      have BK321 := n3_
      have BK322 := n4_
      have HB := n5_
      clear n0_ n1_ n2_ n3_ n4_ n5_
      (try clear hb)
      (try clear hb2)
      (try clear hk)
      (try clear hi)
      refine hK.out _ _ ⟨v344, (by rw [ha.out]; exact putSel_upk 7 hb_ rfl rfl rfl), (by (with_reducible repeat (first | refine blk_drewN ?_ _ | refine blk_drew ?_ | refine blk_alloc ?_ _)); exact BK318.out), (by (with_reducible repeat (first | refine blk_drewN ?_ _ | refine blk_drew ?_ | refine blk_alloc ?_ _)); exact BK319.out), (by (with_reducible repeat (first | refine blk_drewN ?_ _ | refine blk_drew ?_ | refine blk_alloc ?_ _)); exact BK320.out), (by (with_reducible repeat (first | refine blk_drewN ?_ _ | refine blk_drew ?_ | refine blk_alloc ?_ _)); exact BK321.out), fun _ => (by (with_reducible repeat (first | refine blk_drewN ?_ _ | refine blk_drew ?_ | refine blk_alloc ?_ _)); exact BK322.out), (by repeat (first | (with_reducible first | exact HB.out | apply below_alloc | apply pw_below_drewN | apply below_drew1 | refine below_set ?_ GE318.out | refine below_set ?_ GE319.out | refine below_set ?_ GE320.out | refine below_set ?_ GE321.out | refine below_set ?_ GE322.out) | exact HB.out)), z_HO345, fun h0_ => absurd ((hoff 19 (by kernel_rfl)).symm.trans h0_) (by decide)⟩
    refine steps_cons ?_ ?_
    · rintro b a w' ⟨v344, ha, Q_BK318, Q_BK319, Q_BK320, Q_BK321, Q_BK322, Q_HB, Q_HO345, Q_BK322_e19⟩ hb_ hon hoff
      refine ⟨_, rfl, fun K hK => ?_⟩
      have e4 : a.tmps[4]? = some (.pointer (some ⟨gb318, 0, none⟩)) := by rw [ha]; exact (putSel_off rfl).trans rfl
      replace ha := Aside0.mk ha
      have BK318 := Aside0.mk Q_BK318
      have BK319 := Aside0.mk Q_BK319
      have BK320 := Aside0.mk Q_BK320
      have BK321 := Aside0.mk Q_BK321
      have BK322 := Aside0.mk (Q_BK322 (hoff 19 (by kernel_rfl)))
      have HB := Aside0.mk Q_HB
      have hc0_ : w'.cell? ⟨gb318, 0, none⟩ = some (.int .i64 t323) := (blk_cell BK318.out 0).trans rfl
      have hc1_ : w'.cell? ⟨gb318, 1, none⟩ = some (.bool t324) := (blk_cell BK318.out 1).trans rfl
      refine value_ (w1 := w') (v := .agg #[.int .i64 t323, .bool t324]) (by rfl) rfl ?_ ?_
      · go_simp
        (try simp only [i64_w])
        try rfl
      refine hK.out _ _ ⟨v344, (by rw [ha.out]; exact putSel_upk 8 hb_ rfl rfl rfl), Q_BK318, Q_BK319, Q_BK320, Q_BK321, Q_BK322, Q_HB, fun h0_ => absurd ((hoff 16 (by kernel_rfl)).symm.trans h0_) (by decide), fun h0_ => absurd ((hoff 19 (by kernel_rfl)).symm.trans h0_) (by decide)⟩
    refine steps_cons ?_ ?_
    · rintro b a w' ⟨v344, ha, Q_BK318, Q_BK319, Q_BK320, Q_BK321, Q_BK322, Q_HB, Q_HO345, Q_BK322_e19⟩ hb_ hon hoff
      refine ⟨_, rfl, fun K hK => ?_⟩
      have e5 : a.tmps[5]? = some (.pointer (some ⟨gb319, 0, none⟩)) := by rw [ha]; exact (putSel_off rfl).trans rfl
      replace ha := Aside0.mk ha
      have BK318 := Aside0.mk Q_BK318
      have BK319 := Aside0.mk Q_BK319
      have BK320 := Aside0.mk Q_BK320
      have BK321 := Aside0.mk Q_BK321
      have BK322 := Aside0.mk (Q_BK322 (hoff 19 (by kernel_rfl)))
      have HB := Aside0.mk Q_HB
      have hc0_ : w'.cell? ⟨gb319, 0, none⟩ = some (.int .i64 t325) := (blk_cell BK319.out 0).trans rfl
      have hc1_ : w'.cell? ⟨gb319, 1, none⟩ = some (.bool t326) := (blk_cell BK319.out 1).trans rfl
      refine value_ (w1 := w') (v := .agg #[.int .i64 t325, .bool t326]) (by rfl) rfl ?_ ?_
      · go_simp
        (try simp only [i64_w])
        try rfl
      refine hK.out _ _ ⟨v344, (by rw [ha.out]; exact putSel_upk 9 hb_ rfl rfl rfl), Q_BK318, Q_BK319, Q_BK320, Q_BK321, Q_BK322, Q_HB, fun h0_ => absurd ((hoff 16 (by kernel_rfl)).symm.trans h0_) (by decide), fun h0_ => absurd ((hoff 19 (by kernel_rfl)).symm.trans h0_) (by decide)⟩
    refine steps_cons ?_ ?_
    · rintro b a w' ⟨v344, ha, Q_BK318, Q_BK319, Q_BK320, Q_BK321, Q_BK322, Q_HB, Q_HO345, Q_BK322_e19⟩ hb_ hon hoff
      refine ⟨_, rfl, fun K hK => ?_⟩
      have e6 : a.tmps[6]? = some (.pointer (some ⟨gb320, 0, none⟩)) := by rw [ha]; exact (putSel_off rfl).trans rfl
      replace ha := Aside0.mk ha
      have BK318 := Aside0.mk Q_BK318
      have BK319 := Aside0.mk Q_BK319
      have BK320 := Aside0.mk Q_BK320
      have BK321 := Aside0.mk Q_BK321
      have BK322 := Aside0.mk (Q_BK322 (hoff 19 (by kernel_rfl)))
      have HB := Aside0.mk Q_HB
      have hc0_ : w'.cell? ⟨gb320, 0, none⟩ = some (.int .i64 t327) := (blk_cell BK320.out 0).trans rfl
      have hc1_ : w'.cell? ⟨gb320, 1, none⟩ = some (.bool t328) := (blk_cell BK320.out 1).trans rfl
      refine value_ (w1 := w') (v := .agg #[.int .i64 t327, .bool t328]) (by rfl) rfl ?_ ?_
      · go_simp
        (try simp only [i64_w])
        try rfl
      refine hK.out _ _ ⟨v344, (by rw [ha.out]; exact putSel_upk 10 hb_ rfl rfl rfl), Q_BK318, Q_BK319, Q_BK320, Q_BK321, Q_BK322, Q_HB, fun h0_ => absurd ((hoff 16 (by kernel_rfl)).symm.trans h0_) (by decide), fun h0_ => absurd ((hoff 19 (by kernel_rfl)).symm.trans h0_) (by decide)⟩
    refine steps_cons ?_ ?_
    · rintro b a w' ⟨v344, ha, Q_BK318, Q_BK319, Q_BK320, Q_BK321, Q_BK322, Q_HB, Q_HO345, Q_BK322_e19⟩ hb_ hon hoff
      refine ⟨_, rfl, fun K hK => ?_⟩
      have e7 : a.tmps[7]? = some (.pointer (some ⟨gb321, 0, none⟩)) := by rw [ha]; exact (putSel_off rfl).trans rfl
      replace ha := Aside0.mk ha
      have BK318 := Aside0.mk Q_BK318
      have BK319 := Aside0.mk Q_BK319
      have BK320 := Aside0.mk Q_BK320
      have BK321 := Aside0.mk Q_BK321
      have BK322 := Aside0.mk (Q_BK322 (hoff 19 (by kernel_rfl)))
      have HB := Aside0.mk Q_HB
      have hc0_ : w'.cell? ⟨gb321, 0, none⟩ = some (.int .i64 t329) := (blk_cell BK321.out 0).trans rfl
      have hc1_ : w'.cell? ⟨gb321, 1, none⟩ = some (.bool t330) := (blk_cell BK321.out 1).trans rfl
      refine value_ (w1 := w') (v := .agg #[.int .i64 t329, .bool t330]) (by rfl) rfl ?_ ?_
      · go_simp
        (try simp only [i64_w])
        try rfl
      refine hK.out _ _ ⟨v344, (by rw [ha.out]; exact putSel_upk 11 hb_ rfl rfl rfl), Q_BK318, Q_BK319, Q_BK320, Q_BK321, Q_BK322, Q_HB, fun h0_ => absurd ((hoff 16 (by kernel_rfl)).symm.trans h0_) (by decide), fun h0_ => absurd ((hoff 19 (by kernel_rfl)).symm.trans h0_) (by decide)⟩
    refine steps_cons ?_ ?_
    · rintro b a w' ⟨v344, ha, Q_BK318, Q_BK319, Q_BK320, Q_BK321, Q_BK322, Q_HB, Q_HO345, Q_BK322_e19⟩ hb_ hon hoff
      refine ⟨_, rfl, fun K hK => ?_⟩
      have e29 : a.tmps[29]? = some (.agg #[.int .i64 t323, .bool t324]) := by rw [ha]; exact putSel_on (e := (12, 29, .agg #[.int .i64 t323, .bool t324])) 8 rfl rfl (hon 12 (by kernel_rfl)) rfl
      have e30 : a.tmps[30]? = some (.agg #[.int .i64 t325, .bool t326]) := by rw [ha]; exact putSel_on (e := (13, 30, .agg #[.int .i64 t325, .bool t326])) 9 rfl rfl (hon 13 (by kernel_rfl)) rfl
      have e31 : a.tmps[31]? = some (.agg #[.int .i64 t327, .bool t328]) := by rw [ha]; exact putSel_on (e := (14, 31, .agg #[.int .i64 t327, .bool t328])) 10 rfl rfl (hon 14 (by kernel_rfl)) rfl
      have e32 : a.tmps[32]? = some (.agg #[.int .i64 t329, .bool t330]) := by rw [ha]; exact putSel_on (e := (15, 32, .agg #[.int .i64 t329, .bool t330])) 11 rfl rfl (hon 15 (by kernel_rfl)) rfl
      replace ha := Aside0.mk ha
      have BK318 := Aside0.mk Q_BK318
      have BK319 := Aside0.mk Q_BK319
      have BK320 := Aside0.mk Q_BK320
      have BK321 := Aside0.mk Q_BK321
      have BK322 := Aside0.mk (Q_BK322 (hoff 19 (by kernel_rfl)))
      have HB := Aside0.mk Q_HB
      refine Kd.R_lit_step k23 _ 23 ?hg (N := 33) ?hd (xs := ([(⟨t323, t324⟩ : S23), (⟨t325, t326⟩ : S23), (⟨t327, t328⟩ : S23), (⟨t329, t330⟩ : S23)] : List (S23))) (inner := [.int .i64 t323, .bool t324, .int .i64 t325, .bool t326, .int .i64 t327, .bool t328, .int .i64 t329, .bool t330]) (ok := fun _ => True) (okp := fun _ => True) ?hr ?hp (fun _ hk => hk) trivial (Below.refl _ _) (Nat.le_refl _) (by simp) ?_; (case hd => rfl); (case hg => rfl); (case hr => first | (go_simp; done) | (go_simp; rfl)); (case hp => exact (Reps.c2 (show Kd.M k23 _ _ _ (⟨t323, t324⟩ : S23) [.int .i64 t323, .bool t324] from (k23_mkM _ _ _ (⟨t323, t324⟩ : S23) )) (Reps.c2 (show Kd.M k23 _ _ _ (⟨t325, t326⟩ : S23) [.int .i64 t325, .bool t326] from (k23_mkM _ _ _ (⟨t325, t326⟩ : S23) )) (Reps.c2 (show Kd.M k23 _ _ _ (⟨t327, t328⟩ : S23) [.int .i64 t327, .bool t328] from (k23_mkM _ _ _ (⟨t327, t328⟩ : S23) )) (Reps.c2 (show Kd.M k23 _ _ _ (⟨t329, t330⟩ : S23) [.int .i64 t329, .bool t330] from (k23_mkM _ _ _ (⟨t329, t330⟩ : S23) )) (Reps.none _ _))))))
      intro v344 w35 ho36 hb hg_ hnew_
      clear hg_ hnew_
      (first | rw [← Ny343.out] at ho36 | (simp only [Int.reduceToNat] at ho36; rw [← Ny343.out] at ho36))
      have n0_ := Aside0.mk (Kd.R_lower (Kd.R_newB (Kd.R_newB (Kd.R_newB (Kd.R_newB (Kd.R_newB ho36 (g := gb318) (o := .cells #[.int .i64 t323, .bool t324] 23 (0, 0)) (by (with_reducible repeat (first | refine blk_drewN ?_ _ | refine blk_drew ?_ | refine blk_alloc ?_ _)); exact BK318.out)) (g := gb319) (o := .cells #[.int .i64 t325, .bool t326] 23 (0, 0)) (by (with_reducible repeat (first | refine blk_drewN ?_ _ | refine blk_drew ?_ | refine blk_alloc ?_ _)); exact BK319.out)) (g := gb320) (o := .cells #[.int .i64 t327, .bool t328] 23 (0, 0)) (by (with_reducible repeat (first | refine blk_drewN ?_ _ | refine blk_drew ?_ | refine blk_alloc ?_ _)); exact BK320.out)) (g := gb321) (o := .cells #[.int .i64 t329, .bool t330] 23 (0, 0)) (by (with_reducible repeat (first | refine blk_drewN ?_ _ | refine blk_drew ?_ | refine blk_alloc ?_ _)); exact BK321.out)) (g := gb322) (o := .cells #[.int .i64 0, .bool false] 23 (0, 0)) (by (with_reducible repeat (first | refine blk_drewN ?_ _ | refine blk_drew ?_ | refine blk_alloc ?_ _)); exact BK322.out)) (below_size (by repeat (first | (with_reducible first | exact HB.out | apply below_alloc | apply pw_below_drewN | apply below_drew1 | refine below_set ?_ GE318.out | refine below_set ?_ GE319.out | refine below_set ?_ GE320.out | refine below_set ?_ GE321.out | refine below_set ?_ GE322.out) | exact HB.out))))
      have n1_ := Aside0.mk (blk_below (g := gb318) (o := .cells #[.int .i64 t323, .bool t324] 23 (0, 0)) (by (with_reducible repeat (first | refine blk_drewN ?_ _ | refine blk_drew ?_ | refine blk_alloc ?_ _)); exact BK318.out) hb)
      have n2_ := Aside0.mk (blk_below (g := gb319) (o := .cells #[.int .i64 t325, .bool t326] 23 (0, 0)) (by (with_reducible repeat (first | refine blk_drewN ?_ _ | refine blk_drew ?_ | refine blk_alloc ?_ _)); exact BK319.out) hb)
      have n3_ := Aside0.mk (blk_below (g := gb320) (o := .cells #[.int .i64 t327, .bool t328] 23 (0, 0)) (by (with_reducible repeat (first | refine blk_drewN ?_ _ | refine blk_drew ?_ | refine blk_alloc ?_ _)); exact BK320.out) hb)
      have n4_ := Aside0.mk (blk_below (g := gb321) (o := .cells #[.int .i64 t329, .bool t330] 23 (0, 0)) (by (with_reducible repeat (first | refine blk_drewN ?_ _ | refine blk_drew ?_ | refine blk_alloc ?_ _)); exact BK321.out) hb)
      have n5_ := Aside0.mk (blk_below (g := gb322) (o := .cells #[.int .i64 0, .bool false] 23 (0, 0)) (by (with_reducible repeat (first | refine blk_drewN ?_ _ | refine blk_drew ?_ | refine blk_alloc ?_ _)); exact BK322.out) hb)
      have n6_ := Aside0.mk (below_step (by repeat (first | (with_reducible first | exact HB.out | apply below_alloc | apply pw_below_drewN | apply below_drew1 | refine below_set ?_ GE318.out | refine below_set ?_ GE319.out | refine below_set ?_ GE320.out | refine below_set ?_ GE321.out | refine below_set ?_ GE322.out) | exact HB.out)) hb)
      clear BK318
      clear BK319
      clear BK320
      clear BK321
      clear BK322
      clear HB
      have HO345 := n0_
      have BK318 := n1_
      have BK319 := n2_
      have BK320 := n3_
      have BK321 := n4_
      have BK322 := n5_
      have HB := n6_
      clear n0_ n1_ n2_ n3_ n4_ n5_ n6_
      clear hb ho36
      refine hK.out _ _ ⟨v344, (by rw [ha.out]; exact putSel_upk 12 hb_ rfl rfl rfl), (by (with_reducible repeat (first | refine blk_drewN ?_ _ | refine blk_drew ?_ | refine blk_alloc ?_ _)); exact BK318.out), (by (with_reducible repeat (first | refine blk_drewN ?_ _ | refine blk_drew ?_ | refine blk_alloc ?_ _)); exact BK319.out), (by (with_reducible repeat (first | refine blk_drewN ?_ _ | refine blk_drew ?_ | refine blk_alloc ?_ _)); exact BK320.out), (by (with_reducible repeat (first | refine blk_drewN ?_ _ | refine blk_drew ?_ | refine blk_alloc ?_ _)); exact BK321.out), fun _ => (by (with_reducible repeat (first | refine blk_drewN ?_ _ | refine blk_drew ?_ | refine blk_alloc ?_ _)); exact BK322.out), (by repeat (first | (with_reducible first | exact HB.out | apply below_alloc | apply pw_below_drewN | apply below_drew1 | refine below_set ?_ GE318.out | refine below_set ?_ GE319.out | refine below_set ?_ GE320.out | refine below_set ?_ GE321.out | refine below_set ?_ GE322.out) | exact HB.out)), fun _ => (by (with_reducible repeat (first | apply Kd.R_alloc | apply Kd.R_drewN | apply Kd.R_drew)); exact Kd.R_mono HO345.out (fun _ hk => ⟨hk.1.1.1.1.2, ⟨hk.1.1.1.2, ⟨hk.1.1.2, ⟨hk.1.2, hk.2⟩⟩⟩⟩)), fun h0_ => absurd ((hoff 19 (by kernel_rfl)).symm.trans h0_) (by decide)⟩
    refine steps_cons ?_ ?_
    · rintro b a w' ⟨v344, ha, Q_BK318, Q_BK319, Q_BK320, Q_BK321, Q_BK322, Q_HB, Q_HO345, Q_BK322_e19⟩ hb_ hon hoff
      refine ⟨_, rfl, fun K hK => ?_⟩
      have e33 : a.tmps[33]? = some (v344) := by rw [ha]; exact putSel_on (e := (16, 33, v344)) 12 rfl rfl (hon 16 (by kernel_rfl)) rfl
      replace ha := Aside0.mk ha
      have BK318 := Aside0.mk Q_BK318
      have BK319 := Aside0.mk Q_BK319
      have BK320 := Aside0.mk Q_BK320
      have BK321 := Aside0.mk Q_BK321
      have BK322 := Aside0.mk (Q_BK322 (hoff 19 (by kernel_rfl)))
      have HB := Aside0.mk Q_HB
      have HO345 := Aside0.mk (Q_HO345 (hon 16 (by kernel_rfl)))
      obtain ⟨Ao42, co42, eo42⟩ := Kd.R_slice HO345.out
      (first | subst eo42 | (injection eo42 with f1_ f2_ f3_; have f4_ := f1_.symm; have f5_ := f3_.symm; clear f1_ f2_ f3_; subst f4_; subst f5_))
      refine goes_ Try.func88 (by kernel_rfl) rfl #[.slice Ao42 y343.length co42] (by rfl) rfl rfl (by first | (simp only [List.map_toArray, List.map_cons, List.map_nil, Act.eval, Array.getD_eq_getD_getElem?, Option.getD_some, e33]; done) | (simp only [List.map_toArray, List.map_cons, List.map_nil, Act.eval, Array.getD_eq_getD_getElem?, Option.getD_some, e33]; rfl)) ?_
      with_reducible refine (fixed_flags.calls k _ _ y343 t346 _ ?side1 ?side2 A13.out).mono ?_
      (case side1 => repeat (first | exact (Kd.R_reads' HO345.out).2.2 | (with_reducible refine Kd.C_alloc ?_ _) | (with_reducible refine Kd.C_drewN ?_ _) | (with_reducible refine Kd.C_drew ?_)))
      (case side2 => exact (Kd.R_reads' HO345.out).2.1)
      rintro e w43 ⟨rfl, hb⟩
      refine ⟨_, rfl, ?_⟩
      have n0_ := Aside0.mk (Kd.R_below (by (with_reducible repeat (first | apply Kd.R_alloc | apply Kd.R_drewN | apply Kd.R_drew)); exact HO345.out) hb)
      have n1_ := Aside0.mk (blk_below (g := gb318) (o := .cells #[.int .i64 t323, .bool t324] 23 (0, 0)) (by (with_reducible repeat (first | refine blk_drewN ?_ _ | refine blk_drew ?_ | refine blk_alloc ?_ _)); exact BK318.out) hb)
      have n2_ := Aside0.mk (blk_below (g := gb319) (o := .cells #[.int .i64 t325, .bool t326] 23 (0, 0)) (by (with_reducible repeat (first | refine blk_drewN ?_ _ | refine blk_drew ?_ | refine blk_alloc ?_ _)); exact BK319.out) hb)
      have n3_ := Aside0.mk (blk_below (g := gb320) (o := .cells #[.int .i64 t327, .bool t328] 23 (0, 0)) (by (with_reducible repeat (first | refine blk_drewN ?_ _ | refine blk_drew ?_ | refine blk_alloc ?_ _)); exact BK320.out) hb)
      have n4_ := Aside0.mk (blk_below (g := gb321) (o := .cells #[.int .i64 t329, .bool t330] 23 (0, 0)) (by (with_reducible repeat (first | refine blk_drewN ?_ _ | refine blk_drew ?_ | refine blk_alloc ?_ _)); exact BK321.out) hb)
      have n5_ := Aside0.mk (blk_below (g := gb322) (o := .cells #[.int .i64 0, .bool false] 23 (0, 0)) (by (with_reducible repeat (first | refine blk_drewN ?_ _ | refine blk_drew ?_ | refine blk_alloc ?_ _)); exact BK322.out) hb)
      have n6_ := Aside0.mk (below_step (by repeat (first | (with_reducible first | exact HB.out | apply below_alloc | apply pw_below_drewN | apply below_drew1 | refine below_set ?_ GE318.out | refine below_set ?_ GE319.out | refine below_set ?_ GE320.out | refine below_set ?_ GE321.out | refine below_set ?_ GE322.out) | exact HB.out)) hb)
      clear HO345
      clear BK318
      clear BK319
      clear BK320
      clear BK321
      clear BK322
      clear HB
      have HO345 := n0_
      have BK318 := n1_
      have BK319 := n2_
      have BK320 := n3_
      have BK321 := n4_
      have BK322 := n5_
      have HB := n6_
      clear n0_ n1_ n2_ n3_ n4_ n5_ n6_
      (try clear hb)
      (try clear hb2)
      (try clear hk)
      (try clear hi)
      refine hK.out _ _ ⟨.slice Ao42 y343.length co42, (by rw [ha.out]; exact putSel_upk 13 hb_ rfl rfl rfl), (by (with_reducible repeat (first | refine blk_drewN ?_ _ | refine blk_drew ?_ | refine blk_alloc ?_ _)); exact BK318.out), (by (with_reducible repeat (first | refine blk_drewN ?_ _ | refine blk_drew ?_ | refine blk_alloc ?_ _)); exact BK319.out), (by (with_reducible repeat (first | refine blk_drewN ?_ _ | refine blk_drew ?_ | refine blk_alloc ?_ _)); exact BK320.out), (by (with_reducible repeat (first | refine blk_drewN ?_ _ | refine blk_drew ?_ | refine blk_alloc ?_ _)); exact BK321.out), fun _ => (by (with_reducible repeat (first | refine blk_drewN ?_ _ | refine blk_drew ?_ | refine blk_alloc ?_ _)); exact BK322.out), (by repeat (first | (with_reducible first | exact HB.out | apply below_alloc | apply pw_below_drewN | apply below_drew1 | refine below_set ?_ GE318.out | refine below_set ?_ GE319.out | refine below_set ?_ GE320.out | refine below_set ?_ GE321.out | refine below_set ?_ GE322.out) | exact HB.out)), fun _ => (by (with_reducible repeat (first | apply Kd.R_alloc | apply Kd.R_drewN | apply Kd.R_drew)); exact HO345.out), fun h0_ => absurd ((hoff 19 (by kernel_rfl)).symm.trans h0_) (by decide)⟩
    refine steps_cons ?_ ?_
    · rintro b a w' ⟨v344, ha, Q_BK318, Q_BK319, Q_BK320, Q_BK321, Q_BK322, Q_HB, Q_HO345, Q_BK322_e19⟩ hb_ hon hoff
      refine ⟨_, rfl, fun K hK => ?_⟩
      have e28 : a.tmps[28]? = some (.agg #[.bool t340, .int .u64 t341, .int .u64 t342]) := by rw [ha]; exact putSel_on (e := (11, 28, .agg #[.bool t340, .int .u64 t341, .int .u64 t342])) 7 rfl rfl (hon 11 (by kernel_rfl)) rfl
      have e34 : a.tmps[34]? = some (.bool t346) := by rw [ha]; exact putSel_on (e := (17, 34, .bool t346)) 13 rfl rfl (hon 17 (by kernel_rfl)) rfl
      replace ha := Aside0.mk ha
      have BK318 := Aside0.mk Q_BK318
      have BK319 := Aside0.mk Q_BK319
      have BK320 := Aside0.mk Q_BK320
      have BK321 := Aside0.mk Q_BK321
      have BK322 := Aside0.mk (Q_BK322 (hoff 19 (by kernel_rfl)))
      have HB := Aside0.mk Q_HB
      have HO345 := Aside0.mk (Q_HO345 (hon 16 (by kernel_rfl)))
      refine goes_ Try.func83 (by kernel_rfl) rfl #[.agg #[.bool t340, .int .u64 t341, .int .u64 t342], .bool t346] (by rfl) rfl rfl (by first | (simp only [List.map_toArray, List.map_cons, List.map_nil, Act.eval, Array.getD_eq_getD_getElem?, Option.getD_some, e28, e34]; done) | (simp only [List.map_toArray, List.map_cons, List.map_nil, Act.eval, Array.getD_eq_getD_getElem?, Option.getD_some, e28, e34]; rfl)) ?_
      with_reducible refine (fixed_exact_fit.calls k t340 t341 t342 t346 t347 t348 _ A14.out).mono ?_
      rintro e w44 ⟨rfl, hb⟩
      refine ⟨_, rfl, ?_⟩
      have n0_ := Aside0.mk (Kd.R_below (by (with_reducible repeat (first | apply Kd.R_alloc | apply Kd.R_drewN | apply Kd.R_drew)); exact HO345.out) hb)
      have n1_ := Aside0.mk (blk_below (g := gb318) (o := .cells #[.int .i64 t323, .bool t324] 23 (0, 0)) (by (with_reducible repeat (first | refine blk_drewN ?_ _ | refine blk_drew ?_ | refine blk_alloc ?_ _)); exact BK318.out) hb)
      have n2_ := Aside0.mk (blk_below (g := gb319) (o := .cells #[.int .i64 t325, .bool t326] 23 (0, 0)) (by (with_reducible repeat (first | refine blk_drewN ?_ _ | refine blk_drew ?_ | refine blk_alloc ?_ _)); exact BK319.out) hb)
      have n3_ := Aside0.mk (blk_below (g := gb320) (o := .cells #[.int .i64 t327, .bool t328] 23 (0, 0)) (by (with_reducible repeat (first | refine blk_drewN ?_ _ | refine blk_drew ?_ | refine blk_alloc ?_ _)); exact BK320.out) hb)
      have n4_ := Aside0.mk (blk_below (g := gb321) (o := .cells #[.int .i64 t329, .bool t330] 23 (0, 0)) (by (with_reducible repeat (first | refine blk_drewN ?_ _ | refine blk_drew ?_ | refine blk_alloc ?_ _)); exact BK321.out) hb)
      have n5_ := Aside0.mk (blk_below (g := gb322) (o := .cells #[.int .i64 0, .bool false] 23 (0, 0)) (by (with_reducible repeat (first | refine blk_drewN ?_ _ | refine blk_drew ?_ | refine blk_alloc ?_ _)); exact BK322.out) hb)
      have n6_ := Aside0.mk (below_step (by repeat (first | (with_reducible first | exact HB.out | apply below_alloc | apply pw_below_drewN | apply below_drew1 | refine below_set ?_ GE318.out | refine below_set ?_ GE319.out | refine below_set ?_ GE320.out | refine below_set ?_ GE321.out | refine below_set ?_ GE322.out) | exact HB.out)) hb)
      clear HO345
      clear BK318
      clear BK319
      clear BK320
      clear BK321
      clear BK322
      clear HB
      have HO345 := n0_
      have BK318 := n1_
      have BK319 := n2_
      have BK320 := n3_
      have BK321 := n4_
      have BK322 := n5_
      have HB := n6_
      clear n0_ n1_ n2_ n3_ n4_ n5_ n6_
      (try clear hb)
      (try clear hb2)
      (try clear hk)
      (try clear hi)
      refine hK.out _ _ ⟨v344, (by rw [ha.out]; exact putSel_upk 14 hb_ rfl rfl rfl), (by (with_reducible repeat (first | refine blk_drewN ?_ _ | refine blk_drew ?_ | refine blk_alloc ?_ _)); exact BK318.out), (by (with_reducible repeat (first | refine blk_drewN ?_ _ | refine blk_drew ?_ | refine blk_alloc ?_ _)); exact BK319.out), (by (with_reducible repeat (first | refine blk_drewN ?_ _ | refine blk_drew ?_ | refine blk_alloc ?_ _)); exact BK320.out), (by (with_reducible repeat (first | refine blk_drewN ?_ _ | refine blk_drew ?_ | refine blk_alloc ?_ _)); exact BK321.out), fun _ => (by (with_reducible repeat (first | refine blk_drewN ?_ _ | refine blk_drew ?_ | refine blk_alloc ?_ _)); exact BK322.out), (by repeat (first | (with_reducible first | exact HB.out | apply below_alloc | apply pw_below_drewN | apply below_drew1 | refine below_set ?_ GE318.out | refine below_set ?_ GE319.out | refine below_set ?_ GE320.out | refine below_set ?_ GE321.out | refine below_set ?_ GE322.out) | exact HB.out)), fun _ => (by (with_reducible repeat (first | apply Kd.R_alloc | apply Kd.R_drewN | apply Kd.R_drew)); exact HO345.out), fun h0_ => absurd ((hoff 19 (by kernel_rfl)).symm.trans h0_) (by decide)⟩
    refine steps_cons ?_ ?_
    · rintro b a w' ⟨v344, ha, Q_BK318, Q_BK319, Q_BK320, Q_BK321, Q_BK322, Q_HB, Q_HO345, Q_BK322_e19⟩ hb_ hon hoff
      refine ⟨_, rfl, fun K hK => ?_⟩
      have e8 : a.tmps[8]? = some (.pointer (some ⟨gb322, 0, none⟩)) := by rw [ha]; exact (putSel_off rfl).trans rfl
      have e35 : a.tmps[35]? = some (.agg #[.int .i64 t347, .bool t348]) := by rw [ha]; exact putSel_on (e := (18, 35, .agg #[.int .i64 t347, .bool t348])) 14 rfl rfl (hon 18 (by kernel_rfl)) rfl
      replace ha := Aside0.mk ha
      have BK318 := Aside0.mk Q_BK318
      have BK319 := Aside0.mk Q_BK319
      have BK320 := Aside0.mk Q_BK320
      have BK321 := Aside0.mk Q_BK321
      have BK322 := Aside0.mk (Q_BK322 hb_)
      have HB := Aside0.mk Q_HB
      have HO345 := Aside0.mk (Q_HO345 (hon 16 (by kernel_rfl)))
      have hs45 : w'.cell? ⟨gb322, 0, none⟩ = some (.int .i64 0) := (blk_cell BK322.out 0).trans rfl
      have hfs45 := blk_frozen BK322.out 0
      have hns45_0 := NB318_322.out
      have hns45_1 := NB319_322.out
      have hns45_2 := NB320_322.out
      have hns45_3 := NB321_322.out
      have hms45_0 := NB322_318.out
      have hms45_1 := NB322_319.out
      have hms45_2 := NB322_320.out
      have hms45_3 := NB322_321.out
      have hs46 : w'.cell? ⟨gb322, 1, none⟩ = some (.bool false) := (blk_cell BK322.out 1).trans rfl
      have hfs46 := blk_frozen BK322.out 1
      have hns46_0 := NB318_322.out
      have hns46_1 := NB319_322.out
      have hns46_2 := NB320_322.out
      have hns46_3 := NB321_322.out
      have hms46_0 := NB322_318.out
      have hms46_1 := NB322_319.out
      have hms46_2 := NB322_320.out
      have hms46_3 := NB322_321.out
      refine skip_ (w1 := ?_) (by rfl) rfl ?_ ?_
      rotate_left
      · go_simp
        rfl
      refine hK.out _ _ ⟨v344, (by rw [ha.out]; exact putSel_none (v := undef) rfl), (by (with_reducible repeat (first | refine blk_drewN ?_ _ | refine blk_drew ?_ | refine blk_alloc ?_ _)); refine blk_far ?_ NB318_322.out _; (with_reducible repeat (first | refine blk_drewN ?_ _ | refine blk_drew ?_ | refine blk_alloc ?_ _)); refine blk_far ?_ NB318_322.out _; (with_reducible repeat (first | refine blk_drewN ?_ _ | refine blk_drew ?_ | refine blk_alloc ?_ _)); exact BK318.out), (by (with_reducible repeat (first | refine blk_drewN ?_ _ | refine blk_drew ?_ | refine blk_alloc ?_ _)); refine blk_far ?_ NB319_322.out _; (with_reducible repeat (first | refine blk_drewN ?_ _ | refine blk_drew ?_ | refine blk_alloc ?_ _)); refine blk_far ?_ NB319_322.out _; (with_reducible repeat (first | refine blk_drewN ?_ _ | refine blk_drew ?_ | refine blk_alloc ?_ _)); exact BK319.out), (by (with_reducible repeat (first | refine blk_drewN ?_ _ | refine blk_drew ?_ | refine blk_alloc ?_ _)); refine blk_far ?_ NB320_322.out _; (with_reducible repeat (first | refine blk_drewN ?_ _ | refine blk_drew ?_ | refine blk_alloc ?_ _)); refine blk_far ?_ NB320_322.out _; (with_reducible repeat (first | refine blk_drewN ?_ _ | refine blk_drew ?_ | refine blk_alloc ?_ _)); exact BK320.out), (by (with_reducible repeat (first | refine blk_drewN ?_ _ | refine blk_drew ?_ | refine blk_alloc ?_ _)); refine blk_far ?_ NB321_322.out _; (with_reducible repeat (first | refine blk_drewN ?_ _ | refine blk_drew ?_ | refine blk_alloc ?_ _)); refine blk_far ?_ NB321_322.out _; (with_reducible repeat (first | refine blk_drewN ?_ _ | refine blk_drew ?_ | refine blk_alloc ?_ _)); exact BK321.out), fun h0_ => absurd ((up_self b 19).symm.trans h0_) (by decide), (by repeat (first | (with_reducible first | exact HB.out | apply below_alloc | apply pw_below_drewN | apply below_drew1 | refine below_set ?_ GE318.out | refine below_set ?_ GE319.out | refine below_set ?_ GE320.out | refine below_set ?_ GE321.out | refine below_set ?_ GE322.out) | exact HB.out)), fun _ => (by (with_reducible repeat (first | apply Kd.R_alloc | apply Kd.R_drewN | apply Kd.R_drew)); exact Kd.R_mono (Kd.R_far (p := ⟨gb322, 1, none⟩) (Kd.R_far (p := ⟨gb322, 0, none⟩) (Kd.R_mono HO345.out (fun k_ hk => (⟨hk, hk.2.2.2.2⟩ : _ ∧ k_ ≠ gb322))) (fun _ hk => hk.2) (.int .i64 t347)) (fun _ hk => hk.2) (.bool t348)) (fun _ hk => ⟨hk.1.1, ⟨hk.1.2.1, ⟨hk.1.2.2.1, ⟨hk.1.2.2.2.1, hk.1.2.2.2.2⟩⟩⟩⟩)), fun _ => (by (with_reducible repeat (first | refine blk_drewN ?_ _ | refine blk_drew ?_ | refine blk_alloc ?_ _)); refine blk_put (cs := #[.int .i64 t347, .bool false]) ?_ 1 _ rfl; (with_reducible repeat (first | refine blk_drewN ?_ _ | refine blk_drew ?_ | refine blk_alloc ?_ _)); refine blk_put (cs := #[.int .i64 0, .bool false]) ?_ 0 _ rfl; (with_reducible repeat (first | refine blk_drewN ?_ _ | refine blk_drew ?_ | refine blk_alloc ?_ _)); exact BK322.out)⟩
    exact steps_nil
  rintro b a w46 hall ⟨v344, ha, Q_BK318, Q_BK319, Q_BK320, Q_BK321, Q_BK322, Q_HB, Q_HO345, Q_BK322_e19⟩
  clear BK318 BK319 BK320 BK321 BK322 HB
  have hb1_ := hall 1 (by kernel_rfl)
  have hb3_ := hall 3 (by kernel_rfl)
  have hb4_ := hall 4 (by kernel_rfl)
  have hb6_ := hall 6 (by kernel_rfl)
  have hb8_ := hall 8 (by kernel_rfl)
  have hb9_ := hall 9 (by kernel_rfl)
  have hb10_ := hall 10 (by kernel_rfl)
  have hb11_ := hall 11 (by kernel_rfl)
  have hb12_ := hall 12 (by kernel_rfl)
  have hb13_ := hall 13 (by kernel_rfl)
  have hb14_ := hall 14 (by kernel_rfl)
  have hb15_ := hall 15 (by kernel_rfl)
  have hb16_ := hall 16 (by kernel_rfl)
  have hb17_ := hall 17 (by kernel_rfl)
  have hb18_ := hall 18 (by kernel_rfl)
  have hb19_ := hall 19 (by kernel_rfl)
  subst ha
  simp only [putSel, hb1_, hb3_, hb4_, hb6_, hb8_, hb9_, hb10_, hb11_, hb12_, hb13_, hb14_, hb15_, hb16_, hb17_, hb18_, hb19_, if_true, Act.put, List.setIfInBounds_toArray, List.set_cons_zero, List.set_cons_succ]
  have BK318 := Aside0.mk Q_BK318
  clear Q_BK318
  have BK319 := Aside0.mk Q_BK319
  clear Q_BK319
  have BK320 := Aside0.mk Q_BK320
  clear Q_BK320
  have BK321 := Aside0.mk Q_BK321
  clear Q_BK321
  clear Q_BK322
  have HB := Aside0.mk Q_HB
  clear Q_HB
  have HO345 := Aside0.mk (Q_HO345 hb16_)
  clear Q_HO345
  have BK322 := Aside0.mk (Q_BK322_e19 hb19_)
  clear Q_BK322_e19
  clear hall hb1_ hb3_ hb4_ hb6_ hb8_ hb9_ hb10_ hb11_ hb12_ hb13_ hb14_ hb15_ hb16_ hb17_ hb18_ hb19_
  try go_wp2
  refine bodyPost_ret (results_cell_row rfl _ _ gb322 23 #[.int .i64 t347, .bool t348] (0, 0) _ rfl (by (with_reducible repeat (first | refine blk_drewN ?_ _ | refine blk_drew ?_ | refine blk_alloc ?_ _)); exact BK322.out) Try.underlying23 rfl (by kernel_rfl)) rfl ?_
  exact ⟨by first | rfl | (simp [errW_none, errW_some] <;> rfl) | (simp [*, errW_none, errW_some] <;> rfl), by repeat (first | (with_reducible first | exact HB.out | apply below_alloc | apply pw_below_drewN | apply below_drew1 | refine below_set ?_ GE318.out | refine below_set ?_ GE319.out | refine below_set ?_ GE320.out | refine below_set ?_ GE321.out | refine below_set ?_ GE322.out) | exact HB.out)⟩
end Go.Proofs.Ytenpiaafkmfjfaa.B

end
section
namespace Go.Proofs.Ytenpiaafkmfjfaa.B
open Go.RowKit Go.Proofs.YtenpiaafkmfjfaaW.PrintWords Go.Proofs.YtenpiaafkmfjfaaW.PrintLast Go.Proofs.YtenpiaafkmfjfaaW.PrintMore
theorem snd_mul {a b : Int} (ha : Snd a) (hb : Snd b) : -85070591730234615847396907784232501249 ≤ a * b ∧ a * b ≤ 85070591730234615847396907784232501249 := by
  have h : a.natAbs * b.natAbs ≤ 9223372036854775807 * 9223372036854775807 := by unfold Snd at *; exact Nat.mul_le_mul (by omega) (by omega)
  rw [← Int.natAbs_mul] at h
  omega
theorem sq_nonneg (a : Int) : 0 ≤ a * a := by
  rcases Int.natAbs_eq a with h | h
  · rw [h]; exact Int.mul_nonneg (by omega) (by omega)
  · rw [h, Int.neg_mul_neg]; exact Int.mul_nonneg (by omega) (by omega)
theorem dot_f (k : Nat) (hk : 5 ≤ k) {a b c d : Int} (fa fb fc fd : Bool) (ha : I64 a) (hb : I64 b) (hc : I64 c) (hd : I64 d) :
    fixed_Dot.f k a fa b fb c fc d fd = some (fitV ((sv a * sv b + sv c * sv d).tdiv 4294967296), fitF ((sv a * sv b + sv c * sv d).tdiv 4294967296) (sf a fa || (sf b fb || (sf c fc || sf d fd)))) := by
  have ma := snd_mul (sv_i64 ha) (sv_i64 hb)
  have mb := snd_mul (sv_i64 hc) (sv_i64 hd)
  obtain ⟨n1, lo1, hi1, e1, x1⟩ := product_ex (sv_i64 ha).i64 (sv_i64 hb).i64
  obtain ⟨n2, lo2, hi2, e2, x2⟩ := product_ex (sv_i64 hc).i64 (sv_i64 hd).i64
  obtain ⟨n, lo, hi, e, x⟩ := plus_ex k (by omega) x1 x2 (by omega)
  obtain ⟨lo', hi', e', x'⟩ := down_ex x
  have hfl : fixed_flags.f k [(⟨sv a, sf a fa⟩ : S23), ⟨sv b, sf b fb⟩, ⟨sv c, sf c fc⟩, ⟨sv d, sf d fd⟩] = some (sf a fa || (sf b fb || (sf c fc || sf d fd))) := by
    rw [flags_f _ (by simp) k (by simp; omega)]
    simp
  unfold fixed_Dot.f
  rw [sound_f, Option.bind_some, sound_f, Option.bind_some, sound_f, Option.bind_some, sound_f, Option.bind_some]
  dsimp only
  rw [e1, Option.bind_some, e2, Option.bind_some]
  dsimp only
  rw [e, Option.bind_some]
  dsimp only
  rw [e', Option.bind_some]
  dsimp only
  rw [hfl, Option.bind_some, fit_ex x' _ k (by omega), Option.bind_some]
end Go.Proofs.Ytenpiaafkmfjfaa.B

end
