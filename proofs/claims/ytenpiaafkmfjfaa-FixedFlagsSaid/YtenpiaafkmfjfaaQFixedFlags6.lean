/- FixedFlags: part 6 of the proof. -/
import Derived.Test.YtenpiaafkmfjfaaQFixedFlags5
section
namespace Go.Proofs.Ytenpiaafkmfjfaa.B
open Go.RowKit Go.Proofs.YtenpiaafkmfjfaaW.PrintWords Go.Proofs.YtenpiaafkmfjfaaW.PrintLast Go.Proofs.YtenpiaafkmfjfaaW.PrintMore
attribute [local go_sem] max2_int min2_int max_two min_two max_three min_three max_four min_four
set_option linter.unusedVariables false
set_option linter.unusedSimpArgs false
def fixed_Hypot.f (k : Nat) (a0_0 : Int) (a0_1 : Bool) (a1_0 : Int) (a1_1 : Bool) : Option (Int × Bool) := (fixed_sound.f a0_0 a0_1).bind fun bt298 => ((fixed_sound.f a1_0 a1_1).bind fun bt300 => ((fixed_product.f bt298.1 bt298.1).bind fun bt302 => ((fixed_product.f bt300.1 bt300.1).bind fun bt305 => ((fixed_exact_plus.f k bt302.1 bt302.2.1 bt302.2.2 bt305.1 bt305.2.1 bt305.2.2).bind fun bt308 => ((fixed_words_root.f k bt308.2.1 bt308.2.2).bind fun t311 => ((fixed_flags.f k (([(⟨bt298.1, bt298.2⟩ : S23), (⟨bt300.1, bt300.2⟩ : S23)] : List (S23)))).bind fun t315 => ((fixed_exact_fit.f k false t311 0 t315).bind fun bt316 => (some (bt316.1, bt316.2)))))))))
def fixed_Hypot.T2 : Bool × List (List Nat × List Nat) := (true, [([], []), ([0], [0]), ([], []), ([2], [2]), ([1, 3], [1, 3]), ([], []), ([5], [5]), ([], []), ([7], [7]), ([6, 8, 4], [6, 8]), ([4, 9, 9], [4, 9]), ([10], [10]), ([11, 10], [11]), ([12], [12]), ([13], [13]), ([], []), ([], []), ([15, 16], [15, 16]), ([17, 12], [17]), ([14, 18, 18], [14, 18]), ([19, 19, 0, 1, 2, 3, 4, 5, 6, 7, 8, 9, 10, 11, 12, 13, 14, 15, 16, 17, 18, 19], [19])])
def fixed_Hypot.B2 : List Nat := [0, 1, 0, 4, 15, 0, 32, 0, 128, 511, 1023, 2047, 4095, 8191, 16383, 0, 0, 98304, 237567, 524287, 1048575]
theorem fixed_Hypot.tab2 : rtab .any (opsOf Try.f44 2) = fixed_Hypot.T2 := by kernel_rfl
theorem fixed_Hypot.bits2 : waitsOk fixed_Hypot.T2.2 fixed_Hypot.B2 = true := by kernel_rfl
set_option maxHeartbeats 8000000 in
set_option maxRecDepth 100000 in
theorem fixed_Hypot.calls (k : Nat) (a0_0 : Int) (a0_1 : Bool) (a1_0 : Int) (a1_1 : Bool) (r1 : Int) (r2 : Bool) (w : World) (h : fixed_Hypot.f k a0_0 a0_1 a1_0 a1_1 = some (r1, r2)) :
    Calls Try.prog 44 #[.agg #[.int .i64 a0_0, .bool a0_1], .agg #[.int .i64 a1_0, .bool a1_1]] w fun e w' => e = .returned (.agg #[.int .i64 r1, .bool r2]) ∧ Below w.heap.size w w' := by
  have hu23 := Try.underlying23
  have hu58 := Try.underlying58
  have hu60 := Try.underlying60
  have hfld60_1 := @fld60_1
  have HB := Aside0.mk (Below.refl w.heap.size w)
  have H : ((fixed_sound.f a0_0 a0_1).bind fun bt298 => ((fixed_sound.f a1_0 a1_1).bind fun bt300 => ((fixed_product.f bt298.1 bt298.1).bind fun bt302 => ((fixed_product.f bt300.1 bt300.1).bind fun bt305 => ((fixed_exact_plus.f k bt302.1 bt302.2.1 bt302.2.2 bt305.1 bt305.2.1 bt305.2.2).bind fun bt308 => ((fixed_words_root.f k bt308.2.1 bt308.2.2).bind fun t311 => ((fixed_flags.f k (([(⟨bt298.1, bt298.2⟩ : S23), (⟨bt300.1, bt300.2⟩ : S23)] : List (S23)))).bind fun t315 => ((fixed_exact_fit.f k false t311 0 t315).bind fun bt316 => (some (bt316.1, bt316.2)))))))))) = some (r1, r2) := h
  clear h
  replace H := Option.bind_eq_some_iff.mp H
  obtain ⟨⟨t298, t299⟩, A30, H⟩ := H
  replace H : ((fixed_sound.f a1_0 a1_1).bind fun bt300 => ((fixed_product.f t298 t298).bind fun bt302 => ((fixed_product.f bt300.1 bt300.1).bind fun bt305 => ((fixed_exact_plus.f k bt302.1 bt302.2.1 bt302.2.2 bt305.1 bt305.2.1 bt305.2.2).bind fun bt308 => ((fixed_words_root.f k bt308.2.1 bt308.2.2).bind fun t311 => ((fixed_flags.f k (([(⟨t298, t299⟩ : S23), (⟨bt300.1, bt300.2⟩ : S23)] : List (S23)))).bind fun t315 => ((fixed_exact_fit.f k false t311 0 t315).bind fun bt316 => (some (bt316.1, bt316.2))))))))) = some (r1, r2) := H
  have A3 := Aside0.mk A30
  clear A30
  replace H := Option.bind_eq_some_iff.mp H
  obtain ⟨⟨t300, t301⟩, A40, H⟩ := H
  replace H : ((fixed_product.f t298 t298).bind fun bt302 => ((fixed_product.f t300 t300).bind fun bt305 => ((fixed_exact_plus.f k bt302.1 bt302.2.1 bt302.2.2 bt305.1 bt305.2.1 bt305.2.2).bind fun bt308 => ((fixed_words_root.f k bt308.2.1 bt308.2.2).bind fun t311 => ((fixed_flags.f k (([(⟨t298, t299⟩ : S23), (⟨t300, t301⟩ : S23)] : List (S23)))).bind fun t315 => ((fixed_exact_fit.f k false t311 0 t315).bind fun bt316 => (some (bt316.1, bt316.2)))))))) = some (r1, r2) := H
  have A4 := Aside0.mk A40
  clear A40
  replace H := Option.bind_eq_some_iff.mp H
  obtain ⟨⟨t302, t303, t304⟩, A50, H⟩ := H
  replace H : ((fixed_product.f t300 t300).bind fun bt305 => ((fixed_exact_plus.f k t302 t303 t304 bt305.1 bt305.2.1 bt305.2.2).bind fun bt308 => ((fixed_words_root.f k bt308.2.1 bt308.2.2).bind fun t311 => ((fixed_flags.f k (([(⟨t298, t299⟩ : S23), (⟨t300, t301⟩ : S23)] : List (S23)))).bind fun t315 => ((fixed_exact_fit.f k false t311 0 t315).bind fun bt316 => (some (bt316.1, bt316.2))))))) = some (r1, r2) := H
  have A5 := Aside0.mk A50
  clear A50
  replace H := Option.bind_eq_some_iff.mp H
  obtain ⟨⟨t305, t306, t307⟩, A60, H⟩ := H
  replace H : ((fixed_exact_plus.f k t302 t303 t304 t305 t306 t307).bind fun bt308 => ((fixed_words_root.f k bt308.2.1 bt308.2.2).bind fun t311 => ((fixed_flags.f k (([(⟨t298, t299⟩ : S23), (⟨t300, t301⟩ : S23)] : List (S23)))).bind fun t315 => ((fixed_exact_fit.f k false t311 0 t315).bind fun bt316 => (some (bt316.1, bt316.2)))))) = some (r1, r2) := H
  have A6 := Aside0.mk A60
  clear A60
  replace H := Option.bind_eq_some_iff.mp H
  obtain ⟨⟨t308, t309, t310⟩, A70, H⟩ := H
  replace H : ((fixed_words_root.f k t309 t310).bind fun t311 => ((fixed_flags.f k (([(⟨t298, t299⟩ : S23), (⟨t300, t301⟩ : S23)] : List (S23)))).bind fun t315 => ((fixed_exact_fit.f k false t311 0 t315).bind fun bt316 => (some (bt316.1, bt316.2))))) = some (r1, r2) := H
  have A7 := Aside0.mk A70
  clear A70
  replace H := Option.bind_eq_some_iff.mp H
  obtain ⟨t311, A80, H⟩ := H
  replace H : ((fixed_flags.f k (([(⟨t298, t299⟩ : S23), (⟨t300, t301⟩ : S23)] : List (S23)))).bind fun t315 => ((fixed_exact_fit.f k false t311 0 t315).bind fun bt316 => (some (bt316.1, bt316.2)))) = some (r1, r2) := H
  have A8 := Aside0.mk A80
  clear A80
  obtain ⟨y312, hy312⟩ : ∃ y_ : List (S23), y_ = (([(⟨t298, t299⟩ : S23), (⟨t300, t301⟩ : S23)] : List (S23))) := ⟨_, rfl⟩
  replace H : ((fixed_flags.f k y312).bind fun t315 => ((fixed_exact_fit.f k false t311 0 t315).bind fun bt316 => (some (bt316.1, bt316.2)))) = some (r1, r2) := by first | (rw [hy312]; with_reducible exact H) | (have H2_ := (Option.bind_some _ _).symm.trans H; rw [hy312]; with_reducible exact H2_) | (have H2_ := (Option.bind_some _ _).symm.trans H; with_reducible exact H2_) | with_reducible exact H | (rw [hy312]; exact H) | exact H
  have Ny312 := Aside0.mk hy312
  clear hy312
  replace H := Option.bind_eq_some_iff.mp H
  obtain ⟨t315, A90, H⟩ := H
  replace H : ((fixed_exact_fit.f k false t311 0 t315).bind fun bt316 => (some (bt316.1, bt316.2))) = some (r1, r2) := H
  have A9 := Aside0.mk A90
  clear A90
  replace H := Option.bind_eq_some_iff.mp H
  obtain ⟨⟨t316, t317⟩, A100, H⟩ := H
  replace H : (some (t316, t317)) = some (r1, r2) := H
  have A10 := Aside0.mk A100
  clear A100
  simp only [Option.some.injEq, Prod.mk.injEq] at H
  obtain ⟨rfl, rfl⟩ := H
  go_enter Try.func44, Try.ntmps44
  try go_wp2_with (first | ((with_reducible refine gate_dst (N := 2) rfl ?_); refine box_event ?hg (N := 2) ?hd (cs := #[.int .i64 a0_0, .bool a0_1]) (t := 23) ?hr ?_; (case hd => rfl); (case hg => rfl); (case hr => first | (go_simp; done) | (go_simp; rfl)); intro gb295 hg w11 hbox hb; have n0_ := Aside0.mk (below_step (by repeat (first | (with_reducible first | exact HB.out | apply below_alloc | apply pw_below_drewN | apply below_drew1) | exact HB.out)) hb); have n1_ := Aside0.mk (hbox); have n2_ := Aside0.mk ((by rw [hg]; exact (below_size (by repeat (first | (with_reducible first | exact HB.out | apply below_alloc | apply pw_below_drewN | apply below_drew1) | exact HB.out))) : w.heap.size ≤ gb295)); have n3_ := Aside0.mk ((by rw [hg]; exact (below_size (by repeat (first | (with_reducible first | exact HB.out | apply below_alloc | apply pw_below_drewN | apply below_drew1) | exact HB.out))) : w.heap.size ≤ gb295)); clear HB; have HB := n0_; have BK295 := n1_; have GW295 := n2_; have GE295 := n3_; clear n0_ n1_ n2_ n3_; clear hb hbox hg) | ((with_reducible refine gate_dst (N := 3) rfl ?_); refine box_event ?hg (N := 3) ?hd (cs := #[.int .i64 a1_0, .bool a1_1]) (t := 23) ?hr ?_; (case hd => rfl); (case hg => rfl); (case hr => first | (go_simp; done) | (go_simp; rfl)); intro gb296 hg w12 hbox hb; have n0_ := Aside0.mk (blk_below (g := gb295) (o := .cells #[.int .i64 a0_0, .bool a0_1] 23 (0, 0)) (by (with_reducible repeat (first | refine blk_drewN ?_ _ | refine blk_drew ?_ | refine blk_alloc ?_ _)); exact BK295.out) hb); have n1_ := Aside0.mk (below_step (by repeat (first | (with_reducible first | exact HB.out | apply below_alloc | apply pw_below_drewN | apply below_drew1 | refine below_set ?_ GE295.out) | exact HB.out)) hb); have n2_ := Aside0.mk (hbox); have n3_ := Aside0.mk ((by rw [hg]; exact (below_size (by repeat (first | (with_reducible first | exact HB.out | apply below_alloc | apply pw_below_drewN | apply below_drew1 | refine below_set ?_ GE295.out) | exact HB.out))) : w.heap.size ≤ gb296)); have n4_ := Aside0.mk ((by rw [hg]; exact (below_size (by repeat (first | (with_reducible first | exact HB.out | apply below_alloc | apply pw_below_drewN | apply below_drew1 | refine below_set ?_ GE295.out) | exact HB.out))) : w.heap.size ≤ gb296)); have n5_ := Aside0.mk ((by rw [hg]; exact Nat.ne_of_lt (blk_lt (g := gb295) (o := .cells #[.int .i64 a0_0, .bool a0_1] 23 (0, 0)) (by (with_reducible repeat (first | refine blk_drewN ?_ _ | refine blk_drew ?_ | refine blk_alloc ?_ _)); exact BK295.out)) : gb295 ≠ gb296)); have n6_ := Aside0.mk ((by rw [hg]; exact Nat.ne_of_gt (blk_lt (g := gb295) (o := .cells #[.int .i64 a0_0, .bool a0_1] 23 (0, 0)) (by (with_reducible repeat (first | refine blk_drewN ?_ _ | refine blk_drew ?_ | refine blk_alloc ?_ _)); exact BK295.out)) : gb296 ≠ gb295)); clear BK295; clear HB; have BK295 := n0_; have HB := n1_; have BK296 := n2_; have GW296 := n3_; have GE296 := n4_; have NB295_296 := n5_; have NB296_295 := n6_; clear n0_ n1_ n2_ n3_ n4_ n5_ n6_; clear hb hbox hg) | ((with_reducible refine gate_dst (N := 4) rfl ?_); refine box_event ?hg (N := 4) ?hd (cs := #[.int .i64 0, .bool false]) (t := 23) ?hr ?_; (case hd => rfl); (case hg => rfl); (case hr => first | (go_simp; done) | (go_simp; rfl)); intro gb297 hg w13 hbox hb; have n0_ := Aside0.mk (blk_below (g := gb295) (o := .cells #[.int .i64 a0_0, .bool a0_1] 23 (0, 0)) (by (with_reducible repeat (first | refine blk_drewN ?_ _ | refine blk_drew ?_ | refine blk_alloc ?_ _)); exact BK295.out) hb); have n1_ := Aside0.mk (blk_below (g := gb296) (o := .cells #[.int .i64 a1_0, .bool a1_1] 23 (0, 0)) (by (with_reducible repeat (first | refine blk_drewN ?_ _ | refine blk_drew ?_ | refine blk_alloc ?_ _)); exact BK296.out) hb); have n2_ := Aside0.mk (below_step (by repeat (first | (with_reducible first | exact HB.out | apply below_alloc | apply pw_below_drewN | apply below_drew1 | refine below_set ?_ GE295.out | refine below_set ?_ GE296.out) | exact HB.out)) hb); have n3_ := Aside0.mk (hbox); have n4_ := Aside0.mk ((by rw [hg]; exact (below_size (by repeat (first | (with_reducible first | exact HB.out | apply below_alloc | apply pw_below_drewN | apply below_drew1 | refine below_set ?_ GE295.out | refine below_set ?_ GE296.out) | exact HB.out))) : w.heap.size ≤ gb297)); have n5_ := Aside0.mk ((by rw [hg]; exact (below_size (by repeat (first | (with_reducible first | exact HB.out | apply below_alloc | apply pw_below_drewN | apply below_drew1 | refine below_set ?_ GE295.out | refine below_set ?_ GE296.out) | exact HB.out))) : w.heap.size ≤ gb297)); have n6_ := Aside0.mk ((by rw [hg]; exact Nat.ne_of_lt (blk_lt (g := gb295) (o := .cells #[.int .i64 a0_0, .bool a0_1] 23 (0, 0)) (by (with_reducible repeat (first | refine blk_drewN ?_ _ | refine blk_drew ?_ | refine blk_alloc ?_ _)); exact BK295.out)) : gb295 ≠ gb297)); have n7_ := Aside0.mk ((by rw [hg]; exact Nat.ne_of_gt (blk_lt (g := gb295) (o := .cells #[.int .i64 a0_0, .bool a0_1] 23 (0, 0)) (by (with_reducible repeat (first | refine blk_drewN ?_ _ | refine blk_drew ?_ | refine blk_alloc ?_ _)); exact BK295.out)) : gb297 ≠ gb295)); have n8_ := Aside0.mk ((by rw [hg]; exact Nat.ne_of_lt (blk_lt (g := gb296) (o := .cells #[.int .i64 a1_0, .bool a1_1] 23 (0, 0)) (by (with_reducible repeat (first | refine blk_drewN ?_ _ | refine blk_drew ?_ | refine blk_alloc ?_ _)); exact BK296.out)) : gb296 ≠ gb297)); have n9_ := Aside0.mk ((by rw [hg]; exact Nat.ne_of_gt (blk_lt (g := gb296) (o := .cells #[.int .i64 a1_0, .bool a1_1] 23 (0, 0)) (by (with_reducible repeat (first | refine blk_drewN ?_ _ | refine blk_drew ?_ | refine blk_alloc ?_ _)); exact BK296.out)) : gb297 ≠ gb296)); clear BK295; clear BK296; clear HB; have BK295 := n0_; have BK296 := n1_; have HB := n2_; have BK297 := n3_; have GW297 := n4_; have GE297 := n5_; have NB295_297 := n6_; have NB297_295 := n7_; have NB296_297 := n8_; have NB297_296 := n9_; clear n0_ n1_ n2_ n3_ n4_ n5_ n6_ n7_ n8_ n9_; clear hb hbox hg))
  have n0_ := Aside0.mk (blk_drew BK295.out)
  have n1_ := Aside0.mk (blk_drew BK296.out)
  have n2_ := Aside0.mk (blk_drew BK297.out)
  have n3_ := Aside0.mk (below_drew1 HB.out)
  clear BK295
  clear BK296
  clear BK297
  clear HB
  have BK295 := n0_
  have BK296 := n1_
  have BK297 := n2_
  have HB := n3_
  clear n0_ n1_ n2_ n3_
  refine start_ (n := 6) (S := fun w' => w'.cell? ⟨gb295, 0, none⟩ = some (.int .i64 a0_0) ∧ w'.cell? ⟨gb295, 1, none⟩ = some (.bool a0_1) ∧ w'.cell? ⟨gb296, 0, none⟩ = some (.int .i64 a1_0) ∧ w'.cell? ⟨gb296, 1, none⟩ = some (.bool a1_1)) (ds := [4, 5]) #[false, false, false, false, false, false] (by kernel_rfl) rfl rfl ⟨(blk_cell BK295.out 0).trans rfl, (blk_cell BK295.out 1).trans rfl, (blk_cell BK296.out 0).trans rfl, (blk_cell BK296.out 1).trans rfl⟩ (fun hHeld => ?_)
  generalize w13.drew = w14 at BK295 BK296 BK297 HB hHeld ⊢
  refine take_ (i := 0) (N := some 5) (v := ?_) (a' := ?_) #[true, false, false, false, false, false] rfl rfl (by kernel_rfl) (fun _ _ _ h => h) (Or.inl ⟨by rfl, ?_⟩) hHeld ?_ ?_
  rotate_left
  · rintro w' ⟨s0, s1, s2, s3⟩
    go_simp
    with_reducible rfl
  rotate_left
  · simp only [Act.put, List.setIfInBounds_toArray, List.set_cons_zero, List.set_cons_succ, i64_w, i32_w]
    rfl
  refine take_ (i := 2) (N := some 7) (v := ?_) (a' := ?_) #[true, false, true, false, false, false] rfl rfl (by kernel_rfl) (fun _ _ _ h => h) (Or.inl ⟨by rfl, ?_⟩) hHeld ?_ ?_
  rotate_left
  · rintro w' ⟨s0, s1, s2, s3⟩
    go_simp
    with_reducible rfl
  rotate_left
  · simp only [Act.put, List.setIfInBounds_toArray, List.set_cons_zero, List.set_cons_succ, i64_w, i32_w]
    rfl
  refine one_ (i := 1) (N := some 6) #[true, true, true, false, false, false] rfl rfl (by kernel_rfl) (by decide) (fun K hK => ?_)
  refine goes_ Try.func72 (by kernel_rfl) rfl #[.agg #[.int .i64 a0_0, .bool a0_1]] (by rfl) rfl rfl (by (try simp only [List.map_toArray, List.map_cons, List.map_nil]); first | done | rfl | (simp only [List.length_drop, List.length_take]; rfl)) ?_
  with_reducible refine (fixed_sound.calls a0_0 a0_1 t298 t299 _ A3.out).mono ?_
  rintro e w15 ⟨rfl, hb⟩
  refine ⟨_, rfl, ?_⟩
  have n0_ := Aside0.mk (blk_below (g := gb295) (o := .cells #[.int .i64 a0_0, .bool a0_1] 23 (0, 0)) (by (with_reducible repeat (first | refine blk_drewN ?_ _ | refine blk_drew ?_ | refine blk_alloc ?_ _)); exact BK295.out) hb)
  have n1_ := Aside0.mk (blk_below (g := gb296) (o := .cells #[.int .i64 a1_0, .bool a1_1] 23 (0, 0)) (by (with_reducible repeat (first | refine blk_drewN ?_ _ | refine blk_drew ?_ | refine blk_alloc ?_ _)); exact BK296.out) hb)
  have n2_ := Aside0.mk (blk_below (g := gb297) (o := .cells #[.int .i64 0, .bool false] 23 (0, 0)) (by (with_reducible repeat (first | refine blk_drewN ?_ _ | refine blk_drew ?_ | refine blk_alloc ?_ _)); exact BK297.out) hb)
  have n3_ := Aside0.mk (below_step (by repeat (first | (with_reducible first | exact HB.out | apply below_alloc | apply pw_below_drewN | apply below_drew1 | refine below_set ?_ GE295.out | refine below_set ?_ GE296.out | refine below_set ?_ GE297.out) | exact HB.out)) hb)
  clear BK295
  clear BK296
  clear BK297
  clear HB
  have BK295 := n0_
  have BK296 := n1_
  have BK297 := n2_
  have HB := n3_
  clear n0_ n1_ n2_ n3_
  (try clear hb)
  (try clear hb2)
  (try clear hk)
  (try clear hi)
  refine hK.out _ _ ⟨(blk_cell BK295.out 0).trans rfl, (blk_cell BK295.out 1).trans rfl, (blk_cell BK296.out 0).trans rfl, (blk_cell BK296.out 1).trans rfl⟩ (fun hHeld => ?_)
  clear hK K
  refine norm_ (a' := ?_) ?_ ?_
  rotate_left
  · show Act.put _ (some 6) _ = _
    simp only [Act.put, List.setIfInBounds_toArray, List.set_cons_zero, List.set_cons_succ, i64_w, i32_w]
    rfl
  refine one_ (i := 3) (N := some 8) #[true, true, true, true, false, false] rfl rfl (by kernel_rfl) (by decide) (fun K hK => ?_)
  refine goes_ Try.func72 (by kernel_rfl) rfl #[.agg #[.int .i64 a1_0, .bool a1_1]] (by rfl) rfl rfl (by (try simp only [List.map_toArray, List.map_cons, List.map_nil]); first | done | rfl | (simp only [List.length_drop, List.length_take]; rfl)) ?_
  with_reducible refine (fixed_sound.calls a1_0 a1_1 t300 t301 _ A4.out).mono ?_
  rintro e w16 ⟨rfl, hb⟩
  refine ⟨_, rfl, ?_⟩
  have n0_ := Aside0.mk (blk_below (g := gb295) (o := .cells #[.int .i64 a0_0, .bool a0_1] 23 (0, 0)) (by (with_reducible repeat (first | refine blk_drewN ?_ _ | refine blk_drew ?_ | refine blk_alloc ?_ _)); exact BK295.out) hb)
  have n1_ := Aside0.mk (blk_below (g := gb296) (o := .cells #[.int .i64 a1_0, .bool a1_1] 23 (0, 0)) (by (with_reducible repeat (first | refine blk_drewN ?_ _ | refine blk_drew ?_ | refine blk_alloc ?_ _)); exact BK296.out) hb)
  have n2_ := Aside0.mk (blk_below (g := gb297) (o := .cells #[.int .i64 0, .bool false] 23 (0, 0)) (by (with_reducible repeat (first | refine blk_drewN ?_ _ | refine blk_drew ?_ | refine blk_alloc ?_ _)); exact BK297.out) hb)
  have n3_ := Aside0.mk (below_step (by repeat (first | (with_reducible first | exact HB.out | apply below_alloc | apply pw_below_drewN | apply below_drew1 | refine below_set ?_ GE295.out | refine below_set ?_ GE296.out | refine below_set ?_ GE297.out) | exact HB.out)) hb)
  clear BK295
  clear BK296
  clear BK297
  clear HB
  have BK295 := n0_
  have BK296 := n1_
  have BK297 := n2_
  have HB := n3_
  clear n0_ n1_ n2_ n3_
  (try clear hb)
  (try clear hb2)
  (try clear hk)
  (try clear hi)
  refine hK.out _ _ ⟨(blk_cell BK295.out 0).trans rfl, (blk_cell BK295.out 1).trans rfl, (blk_cell BK296.out 0).trans rfl, (blk_cell BK296.out 1).trans rfl⟩ (fun hHeld => ?_)
  clear hK K
  refine norm_ (a' := ?_) ?_ ?_
  rotate_left
  · show Act.put _ (some 8) _ = _
    simp only [Act.put, List.setIfInBounds_toArray, List.set_cons_zero, List.set_cons_succ, i64_w, i32_w]
    rfl
  refine last_ (i := 4) (N := none) #[true, true, true, true, true, false] rfl rfl (by kernel_rfl) (by decide) (fun K hK => ?_)
  have hs17 : w16.cell? ⟨gb295, 0, none⟩ = some (.int .i64 a0_0) := (blk_cell BK295.out 0).trans rfl
  have hfs17 := blk_frozen BK295.out 0
  have hns17_1 := NB296_295.out
  have hns17_2 := NB297_295.out
  have hms17_1 := NB295_296.out
  have hms17_2 := NB295_297.out
  have hs18 : w16.cell? ⟨gb295, 1, none⟩ = some (.bool a0_1) := (blk_cell BK295.out 1).trans rfl
  have hfs18 := blk_frozen BK295.out 1
  have hns18_1 := NB296_295.out
  have hns18_2 := NB297_295.out
  have hms18_1 := NB295_296.out
  have hms18_2 := NB295_297.out
  refine skip_ (w1 := ?_) (by rfl) rfl ?_ ?_
  rotate_left
  · go_simp
    rfl
  refine hK.out _ _ ?_
  clear hK K
  refine last_ (i := 5) (N := none) #[true, true, true, true, true, true] rfl rfl (by kernel_rfl) (by decide) (fun K hK => ?_)
  have hs19 : w16.cell? ⟨gb296, 0, none⟩ = some (.int .i64 a1_0) := (blk_cell BK296.out 0).trans rfl
  have hfs19 := blk_frozen BK296.out 0
  have hns19_0 := NB295_296.out
  have hns19_2 := NB297_296.out
  have hms19_0 := NB296_295.out
  have hms19_2 := NB296_297.out
  have hs20 : w16.cell? ⟨gb296, 1, none⟩ = some (.bool a1_1) := (blk_cell BK296.out 1).trans rfl
  have hfs20 := blk_frozen BK296.out 1
  have hns20_0 := NB295_296.out
  have hns20_2 := NB297_296.out
  have hms20_0 := NB296_295.out
  have hms20_2 := NB296_297.out
  refine skip_ (w1 := ?_) (by rfl) rfl ?_ ?_
  rotate_left
  · go_simp
    rfl
  refine hK.out _ _ ?_
  clear hK K
  refine done_ (by kernel_rfl) ?_
  try go_wp2
  have n0_ : Aside0 (((((w16.setCell ⟨gb295, 0, none⟩ (.int .i64 t298)).setCell ⟨gb295, 1, none⟩ (.bool t299)).setCell ⟨gb296, 0, none⟩ (.int .i64 t300)).setCell ⟨gb296, 1, none⟩ (.bool t301)).heap[gb295]? = some (.cells #[.int .i64 t298, .bool t299] 23 (0, 0))) := ⟨by (with_reducible repeat (first | refine blk_drewN ?_ _ | refine blk_drew ?_ | refine blk_alloc ?_ _)); refine blk_far ?_ NB295_296.out _; (with_reducible repeat (first | refine blk_drewN ?_ _ | refine blk_drew ?_ | refine blk_alloc ?_ _)); refine blk_far ?_ NB295_296.out _; (with_reducible repeat (first | refine blk_drewN ?_ _ | refine blk_drew ?_ | refine blk_alloc ?_ _)); refine blk_put (cs := #[.int .i64 t298, .bool a0_1]) ?_ 1 _ rfl; (with_reducible repeat (first | refine blk_drewN ?_ _ | refine blk_drew ?_ | refine blk_alloc ?_ _)); refine blk_put (cs := #[.int .i64 a0_0, .bool a0_1]) ?_ 0 _ rfl; (with_reducible repeat (first | refine blk_drewN ?_ _ | refine blk_drew ?_ | refine blk_alloc ?_ _)); exact BK295.out⟩
  have n1_ : Aside0 (((((w16.setCell ⟨gb295, 0, none⟩ (.int .i64 t298)).setCell ⟨gb295, 1, none⟩ (.bool t299)).setCell ⟨gb296, 0, none⟩ (.int .i64 t300)).setCell ⟨gb296, 1, none⟩ (.bool t301)).heap[gb296]? = some (.cells #[.int .i64 t300, .bool t301] 23 (0, 0))) := ⟨by (with_reducible repeat (first | refine blk_drewN ?_ _ | refine blk_drew ?_ | refine blk_alloc ?_ _)); refine blk_put (cs := #[.int .i64 t300, .bool a1_1]) ?_ 1 _ rfl; (with_reducible repeat (first | refine blk_drewN ?_ _ | refine blk_drew ?_ | refine blk_alloc ?_ _)); refine blk_put (cs := #[.int .i64 a1_0, .bool a1_1]) ?_ 0 _ rfl; (with_reducible repeat (first | refine blk_drewN ?_ _ | refine blk_drew ?_ | refine blk_alloc ?_ _)); refine blk_far ?_ NB296_295.out _; (with_reducible repeat (first | refine blk_drewN ?_ _ | refine blk_drew ?_ | refine blk_alloc ?_ _)); refine blk_far ?_ NB296_295.out _; (with_reducible repeat (first | refine blk_drewN ?_ _ | refine blk_drew ?_ | refine blk_alloc ?_ _)); exact BK296.out⟩
  have n2_ : Aside0 (((((w16.setCell ⟨gb295, 0, none⟩ (.int .i64 t298)).setCell ⟨gb295, 1, none⟩ (.bool t299)).setCell ⟨gb296, 0, none⟩ (.int .i64 t300)).setCell ⟨gb296, 1, none⟩ (.bool t301)).heap[gb297]? = some (.cells #[.int .i64 0, .bool false] 23 (0, 0))) := ⟨by (with_reducible repeat (first | refine blk_drewN ?_ _ | refine blk_drew ?_ | refine blk_alloc ?_ _)); refine blk_far ?_ NB297_296.out _; (with_reducible repeat (first | refine blk_drewN ?_ _ | refine blk_drew ?_ | refine blk_alloc ?_ _)); refine blk_far ?_ NB297_296.out _; (with_reducible repeat (first | refine blk_drewN ?_ _ | refine blk_drew ?_ | refine blk_alloc ?_ _)); refine blk_far ?_ NB297_295.out _; (with_reducible repeat (first | refine blk_drewN ?_ _ | refine blk_drew ?_ | refine blk_alloc ?_ _)); refine blk_far ?_ NB297_295.out _; (with_reducible repeat (first | refine blk_drewN ?_ _ | refine blk_drew ?_ | refine blk_alloc ?_ _)); exact BK297.out⟩
  have n3_ : Aside0 (Below w.heap.size w ((((w16.setCell ⟨gb295, 0, none⟩ (.int .i64 t298)).setCell ⟨gb295, 1, none⟩ (.bool t299)).setCell ⟨gb296, 0, none⟩ (.int .i64 t300)).setCell ⟨gb296, 1, none⟩ (.bool t301))) := ⟨by repeat (first | (with_reducible first | exact HB.out | apply below_alloc | apply pw_below_drewN | apply below_drew1 | refine below_set ?_ GE295.out | refine below_set ?_ GE296.out | refine below_set ?_ GE297.out) | exact HB.out)⟩
  (try clear BK295)
  (try clear BK296)
  (try clear BK297)
  (try clear HB)
  generalize ((((w16.setCell ⟨gb295, 0, none⟩ (.int .i64 t298)).setCell ⟨gb295, 1, none⟩ (.bool t299)).setCell ⟨gb296, 0, none⟩ (.int .i64 t300)).setCell ⟨gb296, 1, none⟩ (.bool t301)) = w21 at n0_ n1_ n2_ n3_ ⊢
  have BK295 := n0_
  have BK296 := n1_
  have BK297 := n2_
  have HB := n3_
  clear n0_ n1_ n2_ n3_
  have n0_ := Aside0.mk (blk_drew BK295.out)
  have n1_ := Aside0.mk (blk_drew BK296.out)
  have n2_ := Aside0.mk (blk_drew BK297.out)
  have n3_ := Aside0.mk (below_drew1 HB.out)
  clear BK295
  clear BK296
  clear BK297
  clear HB
  have BK295 := n0_
  have BK296 := n1_
  have BK297 := n2_
  have HB := n3_
  clear n0_ n1_ n2_ n3_
  refine start_ (n := 21) (S := fun w' => True) (ds := []) #[false, false, false, false, false, false, false, false, false, false, false, false, false, false, false, false, false, false, false, false, false] (by kernel_rfl) rfl rfl trivial (fun hHeld => ?_); refine with_tabW fixed_Hypot.tab2 fixed_Hypot.bits2 (fun HT_ HW_ => ?_)
  generalize w21.drew = w22 at BK295 BK296 BK297 HB hHeld ⊢
  refine pure_ (i := 0) (N := some 9) (v := ?_) (a' := ?_) #[true, false, false, false, false, false, false, false, false, false, false, false, false, false, false, false, false, false, false, false, false] rfl rfl (any_of HT_.out (by kernel_rfl)) (fun _ _ _ h => h) (Or.inl ⟨by rfl, ?_⟩) ?_ ?_
  rotate_left
  · intro w'
    go_simp
    with_reducible rfl
  rotate_left
  · simp only [Act.put, List.setIfInBounds_toArray, List.set_cons_zero, List.set_cons_succ, i64_w, i32_w]
    rfl
  refine pure_ (i := 2) (N := some 11) (v := ?_) (a' := ?_) #[true, false, true, false, false, false, false, false, false, false, false, false, false, false, false, false, false, false, false, false, false] rfl rfl (any_of HT_.out (by kernel_rfl)) (fun _ _ _ h => h) (Or.inl ⟨by rfl, ?_⟩) ?_ ?_
  rotate_left
  · intro w'
    go_simp
    with_reducible rfl
  rotate_left
  · simp only [Act.put, List.setIfInBounds_toArray, List.set_cons_zero, List.set_cons_succ, i64_w, i32_w]
    rfl
  refine pure_ (i := 5) (N := some 14) (v := ?_) (a' := ?_) #[true, false, true, false, false, true, false, false, false, false, false, false, false, false, false, false, false, false, false, false, false] rfl rfl (any_of HT_.out (by kernel_rfl)) (fun _ _ _ h => h) (Or.inl ⟨by rfl, ?_⟩) ?_ ?_
  rotate_left
  · intro w'
    go_simp
    with_reducible rfl
  rotate_left
  · simp only [Act.put, List.setIfInBounds_toArray, List.set_cons_zero, List.set_cons_succ, i64_w, i32_w]
    rfl
  refine pure_ (i := 7) (N := some 16) (v := ?_) (a' := ?_) #[true, false, true, false, false, true, false, true, false, false, false, false, false, false, false, false, false, false, false, false, false] rfl rfl (any_of HT_.out (by kernel_rfl)) (fun _ _ _ h => h) (Or.inl ⟨by rfl, ?_⟩) ?_ ?_
  rotate_left
  · intro w'
    go_simp
    with_reducible rfl
  rotate_left
  · simp only [Act.put, List.setIfInBounds_toArray, List.set_cons_zero, List.set_cons_succ, i64_w, i32_w]
    rfl
  refine inv_at [1, 3, 4, 6, 8, 9, 10, 11, 12, 13, 14, 15, 16, 17, 18, 19, 20] (fun a0_ b a w' => ∃ (v313 : Value), a = putSel a0_ b [(1, 10, .int .i64 t298), (3, 12, .int .i64 t298), (4, 13, .agg #[.bool t302, .int .u64 t303, .int .u64 t304]), (6, 15, .int .i64 t300), (8, 17, .int .i64 t300), (9, 18, .agg #[.bool t305, .int .u64 t306, .int .u64 t307]), (10, 19, .agg #[.bool t308, .int .u64 t309, .int .u64 t310]), (11, 20, .agg #[.int .u64 t309, .int .u64 t310]), (12, 21, .int .u64 t311), (13, 22, .agg #[.int .u64 t311, .int .u64 0]), (14, 23, .agg #[.bool false, .int .u64 t311, .int .u64 0]), (15, 24, .agg #[.int .i64 t298, .bool t299]), (16, 25, .agg #[.int .i64 t300, .bool t301]), (17, 26, v313), (18, 27, .bool t315), (19, 28, .agg #[.int .i64 t316, .bool t317])] ∧ (w'.heap[gb295]? = some (.cells #[.int .i64 t298, .bool t299] 23 (0, 0))) ∧ (w'.heap[gb296]? = some (.cells #[.int .i64 t300, .bool t301] 23 (0, 0))) ∧ (b 20 = false → w'.heap[gb297]? = some (.cells #[.int .i64 0, .bool false] 23 (0, 0))) ∧ (Below w.heap.size w w') ∧ (b 17 = true → Kd.R k23 23 w' w.heap.size (fun k_ => k_ ≠ gb295 ∧ k_ ≠ gb296 ∧ k_ ≠ gb297) v313 y312) ∧ (b 20 = true → w'.heap[gb297]? = some (.cells #[.int .i64 t316, .bool t317] 23 (0, 0)))) HT_.out HW_.out (by kernel_rfl) (by kernel_rfl) ?_ ?_ ?_
  · exact ⟨.bool false, by simp only [putSel, Bool.false_eq_true, if_false], BK295.out, BK296.out, fun _ => BK297.out, HB.out, fun h_ => absurd h_ (by decide), fun h_ => absurd h_ (by decide)⟩
  · skip
    clear BK295 BK296 BK297 HB
    refine steps_cons ?_ ?_
    · rintro b a w' ⟨v313, ha, Q_BK295, Q_BK296, Q_BK297, Q_HB, Q_HO314, Q_BK297_e20⟩ hb_ hon hoff
      refine ⟨_, rfl, fun K hK => ?_⟩
      have e9 : a.tmps[9]? = some (.pointer (some ⟨gb295, 0, none⟩)) := by rw [ha]; exact (putSel_off rfl).trans rfl
      replace ha := Aside0.mk ha
      have BK295 := Aside0.mk Q_BK295
      have BK296 := Aside0.mk Q_BK296
      have BK297 := Aside0.mk (Q_BK297 (hoff 20 (by kernel_rfl)))
      have HB := Aside0.mk Q_HB
      have hc0_ : w'.cell? ⟨gb295, 0, none⟩ = some (.int .i64 t298) := (blk_cell BK295.out 0).trans rfl
      have hc1_ : w'.cell? ⟨gb295, 1, none⟩ = some (.bool t299) := (blk_cell BK295.out 1).trans rfl
      refine value_ (w1 := w') (v := .int .i64 t298) (by rfl) rfl ?_ ?_
      · go_simp
        (try simp only [i64_w])
        try rfl
      refine hK.out _ _ ⟨v313, (by rw [ha.out]; exact putSel_upk 0 hb_ rfl rfl rfl), Q_BK295, Q_BK296, Q_BK297, Q_HB, Q_HO314, fun h0_ => absurd ((hoff 20 (by kernel_rfl)).symm.trans h0_) (by decide)⟩
    refine steps_cons ?_ ?_
    · rintro b a w' ⟨v313, ha, Q_BK295, Q_BK296, Q_BK297, Q_HB, Q_HO314, Q_BK297_e20⟩ hb_ hon hoff
      refine ⟨_, rfl, fun K hK => ?_⟩
      have e11 : a.tmps[11]? = some (.pointer (some ⟨gb295, 0, none⟩)) := by rw [ha]; exact (putSel_off rfl).trans rfl
      replace ha := Aside0.mk ha
      have BK295 := Aside0.mk Q_BK295
      have BK296 := Aside0.mk Q_BK296
      have BK297 := Aside0.mk (Q_BK297 (hoff 20 (by kernel_rfl)))
      have HB := Aside0.mk Q_HB
      have hc0_ : w'.cell? ⟨gb295, 0, none⟩ = some (.int .i64 t298) := (blk_cell BK295.out 0).trans rfl
      have hc1_ : w'.cell? ⟨gb295, 1, none⟩ = some (.bool t299) := (blk_cell BK295.out 1).trans rfl
      refine value_ (w1 := w') (v := .int .i64 t298) (by rfl) rfl ?_ ?_
      · go_simp
        (try simp only [i64_w])
        try rfl
      refine hK.out _ _ ⟨v313, (by rw [ha.out]; exact putSel_upk 1 hb_ rfl rfl rfl), Q_BK295, Q_BK296, Q_BK297, Q_HB, Q_HO314, fun h0_ => absurd ((hoff 20 (by kernel_rfl)).symm.trans h0_) (by decide)⟩
    refine steps_cons ?_ ?_
    · rintro b a w' ⟨v313, ha, Q_BK295, Q_BK296, Q_BK297, Q_HB, Q_HO314, Q_BK297_e20⟩ hb_ hon hoff
      refine ⟨_, rfl, fun K hK => ?_⟩
      have e10 : a.tmps[10]? = some (.int .i64 t298) := by rw [ha]; exact putSel_on (e := (1, 10, .int .i64 t298)) 0 rfl rfl (hon 1 (by kernel_rfl)) rfl
      have e12 : a.tmps[12]? = some (.int .i64 t298) := by rw [ha]; exact putSel_on (e := (3, 12, .int .i64 t298)) 1 rfl rfl (hon 3 (by kernel_rfl)) rfl
      replace ha := Aside0.mk ha
      have BK295 := Aside0.mk Q_BK295
      have BK296 := Aside0.mk Q_BK296
      have BK297 := Aside0.mk (Q_BK297 (hoff 20 (by kernel_rfl)))
      have HB := Aside0.mk Q_HB
      refine goes_ Try.func74 (by kernel_rfl) rfl #[.int .i64 t298, .int .i64 t298] (by rfl) rfl rfl (by first | (simp only [List.map_toArray, List.map_cons, List.map_nil, Act.eval, Array.getD_eq_getD_getElem?, Option.getD_some, e10, e12]; done) | (simp only [List.map_toArray, List.map_cons, List.map_nil, Act.eval, Array.getD_eq_getD_getElem?, Option.getD_some, e10, e12]; rfl)) ?_
      with_reducible refine (fixed_product.calls t298 t298 t302 t303 t304 _ A5.out).mono ?_
      rintro e w23 ⟨rfl, hb⟩
      refine ⟨_, rfl, ?_⟩
      have n0_ := Aside0.mk (blk_below (g := gb295) (o := .cells #[.int .i64 t298, .bool t299] 23 (0, 0)) (by (with_reducible repeat (first | refine blk_drewN ?_ _ | refine blk_drew ?_ | refine blk_alloc ?_ _)); exact BK295.out) hb)
      have n1_ := Aside0.mk (blk_below (g := gb296) (o := .cells #[.int .i64 t300, .bool t301] 23 (0, 0)) (by (with_reducible repeat (first | refine blk_drewN ?_ _ | refine blk_drew ?_ | refine blk_alloc ?_ _)); exact BK296.out) hb)
      have n2_ := Aside0.mk (blk_below (g := gb297) (o := .cells #[.int .i64 0, .bool false] 23 (0, 0)) (by (with_reducible repeat (first | refine blk_drewN ?_ _ | refine blk_drew ?_ | refine blk_alloc ?_ _)); exact BK297.out) hb)
      have n3_ := Aside0.mk (below_step (by repeat (first | (with_reducible first | exact HB.out | apply below_alloc | apply pw_below_drewN | apply below_drew1 | refine below_set ?_ GE295.out | refine below_set ?_ GE296.out | refine below_set ?_ GE297.out) | exact HB.out)) hb)
      have z_HO314 := fun (h0_ : b 17 = true) => (show Kd.R k23 23 w23 w.heap.size (fun k_ => k_ ≠ gb295 ∧ k_ ≠ gb296 ∧ k_ ≠ gb297) v313 y312 from by first | exact (Kd.R_below (by (with_reducible repeat (first | apply Kd.R_alloc | apply Kd.R_drewN | apply Kd.R_drew)); exact (Q_HO314 h0_)) hb) | exact Kd.R_mono (Kd.R_below (by (with_reducible repeat (first | apply Kd.R_alloc | apply Kd.R_drewN | apply Kd.R_drew)); exact (Q_HO314 h0_)) hb) (fun _ h_ => by first | trivial | exact h_ | exact h_.1))
      clear BK295
      clear BK296
      clear BK297
      clear HB
      have BK295 := n0_
      have BK296 := n1_
      have BK297 := n2_
      have HB := n3_
      clear n0_ n1_ n2_ n3_
      (try clear hb)
      (try clear hb2)
      (try clear hk)
      (try clear hi)
      refine hK.out _ _ ⟨v313, (by rw [ha.out]; exact putSel_upk 2 hb_ rfl rfl rfl), (by (with_reducible repeat (first | refine blk_drewN ?_ _ | refine blk_drew ?_ | refine blk_alloc ?_ _)); exact BK295.out), (by (with_reducible repeat (first | refine blk_drewN ?_ _ | refine blk_drew ?_ | refine blk_alloc ?_ _)); exact BK296.out), fun _ => (by (with_reducible repeat (first | refine blk_drewN ?_ _ | refine blk_drew ?_ | refine blk_alloc ?_ _)); exact BK297.out), (by repeat (first | (with_reducible first | exact HB.out | apply below_alloc | apply pw_below_drewN | apply below_drew1 | refine below_set ?_ GE295.out | refine below_set ?_ GE296.out | refine below_set ?_ GE297.out) | exact HB.out)), z_HO314, fun h0_ => absurd ((hoff 20 (by kernel_rfl)).symm.trans h0_) (by decide)⟩
    refine steps_cons ?_ ?_
    · rintro b a w' ⟨v313, ha, Q_BK295, Q_BK296, Q_BK297, Q_HB, Q_HO314, Q_BK297_e20⟩ hb_ hon hoff
      refine ⟨_, rfl, fun K hK => ?_⟩
      have e14 : a.tmps[14]? = some (.pointer (some ⟨gb296, 0, none⟩)) := by rw [ha]; exact (putSel_off rfl).trans rfl
      replace ha := Aside0.mk ha
      have BK295 := Aside0.mk Q_BK295
      have BK296 := Aside0.mk Q_BK296
      have BK297 := Aside0.mk (Q_BK297 (hoff 20 (by kernel_rfl)))
      have HB := Aside0.mk Q_HB
      have hc0_ : w'.cell? ⟨gb296, 0, none⟩ = some (.int .i64 t300) := (blk_cell BK296.out 0).trans rfl
      have hc1_ : w'.cell? ⟨gb296, 1, none⟩ = some (.bool t301) := (blk_cell BK296.out 1).trans rfl
      refine value_ (w1 := w') (v := .int .i64 t300) (by rfl) rfl ?_ ?_
      · go_simp
        (try simp only [i64_w])
        try rfl
      refine hK.out _ _ ⟨v313, (by rw [ha.out]; exact putSel_upk 3 hb_ rfl rfl rfl), Q_BK295, Q_BK296, Q_BK297, Q_HB, Q_HO314, fun h0_ => absurd ((hoff 20 (by kernel_rfl)).symm.trans h0_) (by decide)⟩
    refine steps_cons ?_ ?_
    · rintro b a w' ⟨v313, ha, Q_BK295, Q_BK296, Q_BK297, Q_HB, Q_HO314, Q_BK297_e20⟩ hb_ hon hoff
      refine ⟨_, rfl, fun K hK => ?_⟩
      have e16 : a.tmps[16]? = some (.pointer (some ⟨gb296, 0, none⟩)) := by rw [ha]; exact (putSel_off rfl).trans rfl
      replace ha := Aside0.mk ha
      have BK295 := Aside0.mk Q_BK295
      have BK296 := Aside0.mk Q_BK296
      have BK297 := Aside0.mk (Q_BK297 (hoff 20 (by kernel_rfl)))
      have HB := Aside0.mk Q_HB
      have hc0_ : w'.cell? ⟨gb296, 0, none⟩ = some (.int .i64 t300) := (blk_cell BK296.out 0).trans rfl
      have hc1_ : w'.cell? ⟨gb296, 1, none⟩ = some (.bool t301) := (blk_cell BK296.out 1).trans rfl
      refine value_ (w1 := w') (v := .int .i64 t300) (by rfl) rfl ?_ ?_
      · go_simp
        (try simp only [i64_w])
        try rfl
      refine hK.out _ _ ⟨v313, (by rw [ha.out]; exact putSel_upk 4 hb_ rfl rfl rfl), Q_BK295, Q_BK296, Q_BK297, Q_HB, Q_HO314, fun h0_ => absurd ((hoff 20 (by kernel_rfl)).symm.trans h0_) (by decide)⟩
    refine steps_cons ?_ ?_
    · rintro b a w' ⟨v313, ha, Q_BK295, Q_BK296, Q_BK297, Q_HB, Q_HO314, Q_BK297_e20⟩ hb_ hon hoff
      refine ⟨_, rfl, fun K hK => ?_⟩
      have e15 : a.tmps[15]? = some (.int .i64 t300) := by rw [ha]; exact putSel_on (e := (6, 15, .int .i64 t300)) 3 rfl rfl (hon 6 (by kernel_rfl)) rfl
      have e17 : a.tmps[17]? = some (.int .i64 t300) := by rw [ha]; exact putSel_on (e := (8, 17, .int .i64 t300)) 4 rfl rfl (hon 8 (by kernel_rfl)) rfl
      replace ha := Aside0.mk ha
      have BK295 := Aside0.mk Q_BK295
      have BK296 := Aside0.mk Q_BK296
      have BK297 := Aside0.mk (Q_BK297 (hoff 20 (by kernel_rfl)))
      have HB := Aside0.mk Q_HB
      refine goes_ Try.func74 (by kernel_rfl) rfl #[.int .i64 t300, .int .i64 t300] (by rfl) rfl rfl (by first | (simp only [List.map_toArray, List.map_cons, List.map_nil, Act.eval, Array.getD_eq_getD_getElem?, Option.getD_some, e15, e17]; done) | (simp only [List.map_toArray, List.map_cons, List.map_nil, Act.eval, Array.getD_eq_getD_getElem?, Option.getD_some, e15, e17]; rfl)) ?_
      with_reducible refine (fixed_product.calls t300 t300 t305 t306 t307 _ A6.out).mono ?_
      rintro e w25 ⟨rfl, hb⟩
      refine ⟨_, rfl, ?_⟩
      have n0_ := Aside0.mk (blk_below (g := gb295) (o := .cells #[.int .i64 t298, .bool t299] 23 (0, 0)) (by (with_reducible repeat (first | refine blk_drewN ?_ _ | refine blk_drew ?_ | refine blk_alloc ?_ _)); exact BK295.out) hb)
      have n1_ := Aside0.mk (blk_below (g := gb296) (o := .cells #[.int .i64 t300, .bool t301] 23 (0, 0)) (by (with_reducible repeat (first | refine blk_drewN ?_ _ | refine blk_drew ?_ | refine blk_alloc ?_ _)); exact BK296.out) hb)
      have n2_ := Aside0.mk (blk_below (g := gb297) (o := .cells #[.int .i64 0, .bool false] 23 (0, 0)) (by (with_reducible repeat (first | refine blk_drewN ?_ _ | refine blk_drew ?_ | refine blk_alloc ?_ _)); exact BK297.out) hb)
      have n3_ := Aside0.mk (below_step (by repeat (first | (with_reducible first | exact HB.out | apply below_alloc | apply pw_below_drewN | apply below_drew1 | refine below_set ?_ GE295.out | refine below_set ?_ GE296.out | refine below_set ?_ GE297.out) | exact HB.out)) hb)
      have z_HO314 := fun (h0_ : b 17 = true) => (show Kd.R k23 23 w25 w.heap.size (fun k_ => k_ ≠ gb295 ∧ k_ ≠ gb296 ∧ k_ ≠ gb297) v313 y312 from by first | exact (Kd.R_below (by (with_reducible repeat (first | apply Kd.R_alloc | apply Kd.R_drewN | apply Kd.R_drew)); exact (Q_HO314 h0_)) hb) | exact Kd.R_mono (Kd.R_below (by (with_reducible repeat (first | apply Kd.R_alloc | apply Kd.R_drewN | apply Kd.R_drew)); exact (Q_HO314 h0_)) hb) (fun _ h_ => by first | trivial | exact h_ | exact h_.1))
      clear BK295
      clear BK296
      clear BK297
      clear HB
      have BK295 := n0_
      have BK296 := n1_
      have BK297 := n2_
      have HB := n3_
      clear n0_ n1_ n2_ n3_
      (try clear hb)
      (try clear hb2)
      (try clear hk)
      (try clear hi)
      refine hK.out _ _ ⟨v313, (by rw [ha.out]; exact putSel_upk 5 hb_ rfl rfl rfl), (by (with_reducible repeat (first | refine blk_drewN ?_ _ | refine blk_drew ?_ | refine blk_alloc ?_ _)); exact BK295.out), (by (with_reducible repeat (first | refine blk_drewN ?_ _ | refine blk_drew ?_ | refine blk_alloc ?_ _)); exact BK296.out), fun _ => (by (with_reducible repeat (first | refine blk_drewN ?_ _ | refine blk_drew ?_ | refine blk_alloc ?_ _)); exact BK297.out), (by repeat (first | (with_reducible first | exact HB.out | apply below_alloc | apply pw_below_drewN | apply below_drew1 | refine below_set ?_ GE295.out | refine below_set ?_ GE296.out | refine below_set ?_ GE297.out) | exact HB.out)), z_HO314, fun h0_ => absurd ((hoff 20 (by kernel_rfl)).symm.trans h0_) (by decide)⟩
    refine steps_cons ?_ ?_
    · rintro b a w' ⟨v313, ha, Q_BK295, Q_BK296, Q_BK297, Q_HB, Q_HO314, Q_BK297_e20⟩ hb_ hon hoff
      refine ⟨_, rfl, fun K hK => ?_⟩
      have e13 : a.tmps[13]? = some (.agg #[.bool t302, .int .u64 t303, .int .u64 t304]) := by rw [ha]; exact putSel_on (e := (4, 13, .agg #[.bool t302, .int .u64 t303, .int .u64 t304])) 2 rfl rfl (hon 4 (by kernel_rfl)) rfl
      have e18 : a.tmps[18]? = some (.agg #[.bool t305, .int .u64 t306, .int .u64 t307]) := by rw [ha]; exact putSel_on (e := (9, 18, .agg #[.bool t305, .int .u64 t306, .int .u64 t307])) 5 rfl rfl (hon 9 (by kernel_rfl)) rfl
      replace ha := Aside0.mk ha
      have BK295 := Aside0.mk Q_BK295
      have BK296 := Aside0.mk Q_BK296
      have BK297 := Aside0.mk (Q_BK297 (hoff 20 (by kernel_rfl)))
      have HB := Aside0.mk Q_HB
      refine goes_ Try.func75 (by kernel_rfl) rfl #[.agg #[.bool t302, .int .u64 t303, .int .u64 t304], .agg #[.bool t305, .int .u64 t306, .int .u64 t307]] (by rfl) rfl rfl (by first | (simp only [List.map_toArray, List.map_cons, List.map_nil, Act.eval, Array.getD_eq_getD_getElem?, Option.getD_some, e13, e18]; done) | (simp only [List.map_toArray, List.map_cons, List.map_nil, Act.eval, Array.getD_eq_getD_getElem?, Option.getD_some, e13, e18]; rfl)) ?_
      with_reducible refine (fixed_exact_plus.calls k t302 t303 t304 t305 t306 t307 t308 t309 t310 _ A7.out).mono ?_
      rintro e w26 ⟨rfl, hb⟩
      refine ⟨_, rfl, ?_⟩
      have n0_ := Aside0.mk (blk_below (g := gb295) (o := .cells #[.int .i64 t298, .bool t299] 23 (0, 0)) (by (with_reducible repeat (first | refine blk_drewN ?_ _ | refine blk_drew ?_ | refine blk_alloc ?_ _)); exact BK295.out) hb)
      have n1_ := Aside0.mk (blk_below (g := gb296) (o := .cells #[.int .i64 t300, .bool t301] 23 (0, 0)) (by (with_reducible repeat (first | refine blk_drewN ?_ _ | refine blk_drew ?_ | refine blk_alloc ?_ _)); exact BK296.out) hb)
      have n2_ := Aside0.mk (blk_below (g := gb297) (o := .cells #[.int .i64 0, .bool false] 23 (0, 0)) (by (with_reducible repeat (first | refine blk_drewN ?_ _ | refine blk_drew ?_ | refine blk_alloc ?_ _)); exact BK297.out) hb)
      have n3_ := Aside0.mk (below_step (by repeat (first | (with_reducible first | exact HB.out | apply below_alloc | apply pw_below_drewN | apply below_drew1 | refine below_set ?_ GE295.out | refine below_set ?_ GE296.out | refine below_set ?_ GE297.out) | exact HB.out)) hb)
      have z_HO314 := fun (h0_ : b 17 = true) => (show Kd.R k23 23 w26 w.heap.size (fun k_ => k_ ≠ gb295 ∧ k_ ≠ gb296 ∧ k_ ≠ gb297) v313 y312 from by first | exact (Kd.R_below (by (with_reducible repeat (first | apply Kd.R_alloc | apply Kd.R_drewN | apply Kd.R_drew)); exact (Q_HO314 h0_)) hb) | exact Kd.R_mono (Kd.R_below (by (with_reducible repeat (first | apply Kd.R_alloc | apply Kd.R_drewN | apply Kd.R_drew)); exact (Q_HO314 h0_)) hb) (fun _ h_ => by first | trivial | exact h_ | exact h_.1))
      clear BK295
      clear BK296
      clear BK297
      clear HB
      have BK295 := n0_
      have BK296 := n1_
      have BK297 := n2_
      have HB := n3_
      clear n0_ n1_ n2_ n3_
      (try clear hb)
      (try clear hb2)
      (try clear hk)
      (try clear hi)
      refine hK.out _ _ ⟨v313, (by rw [ha.out]; exact putSel_upk 6 hb_ rfl rfl rfl), (by (with_reducible repeat (first | refine blk_drewN ?_ _ | refine blk_drew ?_ | refine blk_alloc ?_ _)); exact BK295.out), (by (with_reducible repeat (first | refine blk_drewN ?_ _ | refine blk_drew ?_ | refine blk_alloc ?_ _)); exact BK296.out), fun _ => (by (with_reducible repeat (first | refine blk_drewN ?_ _ | refine blk_drew ?_ | refine blk_alloc ?_ _)); exact BK297.out), (by repeat (first | (with_reducible first | exact HB.out | apply below_alloc | apply pw_below_drewN | apply below_drew1 | refine below_set ?_ GE295.out | refine below_set ?_ GE296.out | refine below_set ?_ GE297.out) | exact HB.out)), z_HO314, fun h0_ => absurd ((hoff 20 (by kernel_rfl)).symm.trans h0_) (by decide)⟩
    refine steps_cons ?_ ?_
    · rintro b a w' ⟨v313, ha, Q_BK295, Q_BK296, Q_BK297, Q_HB, Q_HO314, Q_BK297_e20⟩ hb_ hon hoff
      refine ⟨_, rfl, fun K hK => ?_⟩
      have e19 : a.tmps[19]? = some (.agg #[.bool t308, .int .u64 t309, .int .u64 t310]) := by rw [ha]; exact putSel_on (e := (10, 19, .agg #[.bool t308, .int .u64 t309, .int .u64 t310])) 6 rfl rfl (hon 10 (by kernel_rfl)) rfl
      replace ha := Aside0.mk ha
      have BK295 := Aside0.mk Q_BK295
      have BK296 := Aside0.mk Q_BK296
      have BK297 := Aside0.mk (Q_BK297 (hoff 20 (by kernel_rfl)))
      have HB := Aside0.mk Q_HB
      refine value_ (w1 := w') (v := .agg #[.int .u64 t309, .int .u64 t310]) (by rfl) rfl ?_ ?_
      · go_simp
        (try simp only [i64_w])
        try rfl
      refine hK.out _ _ ⟨v313, (by rw [ha.out]; exact putSel_upk 7 hb_ rfl rfl rfl), Q_BK295, Q_BK296, Q_BK297, Q_HB, Q_HO314, fun h0_ => absurd ((hoff 20 (by kernel_rfl)).symm.trans h0_) (by decide)⟩
    refine steps_cons ?_ ?_
    · rintro b a w' ⟨v313, ha, Q_BK295, Q_BK296, Q_BK297, Q_HB, Q_HO314, Q_BK297_e20⟩ hb_ hon hoff
      refine ⟨_, rfl, fun K hK => ?_⟩
      have e20 : a.tmps[20]? = some (.agg #[.int .u64 t309, .int .u64 t310]) := by rw [ha]; exact putSel_on (e := (11, 20, .agg #[.int .u64 t309, .int .u64 t310])) 7 rfl rfl (hon 11 (by kernel_rfl)) rfl
      replace ha := Aside0.mk ha
      have BK295 := Aside0.mk Q_BK295
      have BK296 := Aside0.mk Q_BK296
      have BK297 := Aside0.mk (Q_BK297 (hoff 20 (by kernel_rfl)))
      have HB := Aside0.mk Q_HB
      refine goes_ Try.func90 (by kernel_rfl) rfl #[.agg #[.int .u64 t309, .int .u64 t310]] (by rfl) rfl rfl (by first | (simp only [List.map_toArray, List.map_cons, List.map_nil, Act.eval, Array.getD_eq_getD_getElem?, Option.getD_some, e20]; done) | (simp only [List.map_toArray, List.map_cons, List.map_nil, Act.eval, Array.getD_eq_getD_getElem?, Option.getD_some, e20]; rfl)) ?_
      with_reducible refine (fixed_words_root.calls k t309 t310 t311 _ A8.out).mono ?_
      rintro e w27 ⟨rfl, hb⟩
      refine ⟨_, rfl, ?_⟩
      have n0_ := Aside0.mk (blk_below (g := gb295) (o := .cells #[.int .i64 t298, .bool t299] 23 (0, 0)) (by (with_reducible repeat (first | refine blk_drewN ?_ _ | refine blk_drew ?_ | refine blk_alloc ?_ _)); exact BK295.out) hb)
      have n1_ := Aside0.mk (blk_below (g := gb296) (o := .cells #[.int .i64 t300, .bool t301] 23 (0, 0)) (by (with_reducible repeat (first | refine blk_drewN ?_ _ | refine blk_drew ?_ | refine blk_alloc ?_ _)); exact BK296.out) hb)
      have n2_ := Aside0.mk (blk_below (g := gb297) (o := .cells #[.int .i64 0, .bool false] 23 (0, 0)) (by (with_reducible repeat (first | refine blk_drewN ?_ _ | refine blk_drew ?_ | refine blk_alloc ?_ _)); exact BK297.out) hb)
      have n3_ := Aside0.mk (below_step (by repeat (first | (with_reducible first | exact HB.out | apply below_alloc | apply pw_below_drewN | apply below_drew1 | refine below_set ?_ GE295.out | refine below_set ?_ GE296.out | refine below_set ?_ GE297.out) | exact HB.out)) hb)
      have z_HO314 := fun (h0_ : b 17 = true) => (show Kd.R k23 23 w27 w.heap.size (fun k_ => k_ ≠ gb295 ∧ k_ ≠ gb296 ∧ k_ ≠ gb297) v313 y312 from by first | exact (Kd.R_below (by (with_reducible repeat (first | apply Kd.R_alloc | apply Kd.R_drewN | apply Kd.R_drew)); exact (Q_HO314 h0_)) hb) | exact Kd.R_mono (Kd.R_below (by (with_reducible repeat (first | apply Kd.R_alloc | apply Kd.R_drewN | apply Kd.R_drew)); exact (Q_HO314 h0_)) hb) (fun _ h_ => by first | trivial | exact h_ | exact h_.1))
      clear BK295
      clear BK296
      clear BK297
      clear HB
      have BK295 := n0_
      have BK296 := n1_
      have BK297 := n2_
      have HB := n3_
      clear n0_ n1_ n2_ n3_
      (try clear hb)
      (try clear hb2)
      (try clear hk)
      (try clear hi)
      refine hK.out _ _ ⟨v313, (by rw [ha.out]; exact putSel_upk 8 hb_ rfl rfl rfl), (by (with_reducible repeat (first | refine blk_drewN ?_ _ | refine blk_drew ?_ | refine blk_alloc ?_ _)); exact BK295.out), (by (with_reducible repeat (first | refine blk_drewN ?_ _ | refine blk_drew ?_ | refine blk_alloc ?_ _)); exact BK296.out), fun _ => (by (with_reducible repeat (first | refine blk_drewN ?_ _ | refine blk_drew ?_ | refine blk_alloc ?_ _)); exact BK297.out), (by repeat (first | (with_reducible first | exact HB.out | apply below_alloc | apply pw_below_drewN | apply below_drew1 | refine below_set ?_ GE295.out | refine below_set ?_ GE296.out | refine below_set ?_ GE297.out) | exact HB.out)), z_HO314, fun h0_ => absurd ((hoff 20 (by kernel_rfl)).symm.trans h0_) (by decide)⟩
    refine steps_cons ?_ ?_
    · rintro b a w' ⟨v313, ha, Q_BK295, Q_BK296, Q_BK297, Q_HB, Q_HO314, Q_BK297_e20⟩ hb_ hon hoff
      refine ⟨_, rfl, fun K hK => ?_⟩
      have e21 : a.tmps[21]? = some (.int .u64 t311) := by rw [ha]; exact putSel_on (e := (12, 21, .int .u64 t311)) 8 rfl rfl (hon 12 (by kernel_rfl)) rfl
      replace ha := Aside0.mk ha
      have BK295 := Aside0.mk Q_BK295
      have BK296 := Aside0.mk Q_BK296
      have BK297 := Aside0.mk (Q_BK297 (hoff 20 (by kernel_rfl)))
      have HB := Aside0.mk Q_HB
      refine value_ (w1 := w') (v := .agg #[.int .u64 t311, .int .u64 0]) (by rfl) rfl ?_ ?_
      · go_simp
        (try simp only [i64_w])
        try rfl
      refine hK.out _ _ ⟨v313, (by rw [ha.out]; exact putSel_upk 9 hb_ rfl rfl rfl), Q_BK295, Q_BK296, Q_BK297, Q_HB, Q_HO314, fun h0_ => absurd ((hoff 20 (by kernel_rfl)).symm.trans h0_) (by decide)⟩
    refine steps_cons ?_ ?_
    · rintro b a w' ⟨v313, ha, Q_BK295, Q_BK296, Q_BK297, Q_HB, Q_HO314, Q_BK297_e20⟩ hb_ hon hoff
      refine ⟨_, rfl, fun K hK => ?_⟩
      have e22 : a.tmps[22]? = some (.agg #[.int .u64 t311, .int .u64 0]) := by rw [ha]; exact putSel_on (e := (13, 22, .agg #[.int .u64 t311, .int .u64 0])) 9 rfl rfl (hon 13 (by kernel_rfl)) rfl
      replace ha := Aside0.mk ha
      have BK295 := Aside0.mk Q_BK295
      have BK296 := Aside0.mk Q_BK296
      have BK297 := Aside0.mk (Q_BK297 (hoff 20 (by kernel_rfl)))
      have HB := Aside0.mk Q_HB
      refine value_ (w1 := w') (v := .agg #[.bool false, .int .u64 t311, .int .u64 0]) (by rfl) rfl ?_ ?_
      · go_simp
        (try simp only [i64_w])
        try rfl
      refine hK.out _ _ ⟨v313, (by rw [ha.out]; exact putSel_upk 10 hb_ rfl rfl rfl), Q_BK295, Q_BK296, Q_BK297, Q_HB, Q_HO314, fun h0_ => absurd ((hoff 20 (by kernel_rfl)).symm.trans h0_) (by decide)⟩
    refine steps_cons ?_ ?_
    · rintro b a w' ⟨v313, ha, Q_BK295, Q_BK296, Q_BK297, Q_HB, Q_HO314, Q_BK297_e20⟩ hb_ hon hoff
      refine ⟨_, rfl, fun K hK => ?_⟩
      have e2 : a.tmps[2]? = some (.pointer (some ⟨gb295, 0, none⟩)) := by rw [ha]; exact (putSel_off rfl).trans rfl
      replace ha := Aside0.mk ha
      have BK295 := Aside0.mk Q_BK295
      have BK296 := Aside0.mk Q_BK296
      have BK297 := Aside0.mk (Q_BK297 (hoff 20 (by kernel_rfl)))
      have HB := Aside0.mk Q_HB
      have hc0_ : w'.cell? ⟨gb295, 0, none⟩ = some (.int .i64 t298) := (blk_cell BK295.out 0).trans rfl
      have hc1_ : w'.cell? ⟨gb295, 1, none⟩ = some (.bool t299) := (blk_cell BK295.out 1).trans rfl
      refine value_ (w1 := w') (v := .agg #[.int .i64 t298, .bool t299]) (by rfl) rfl ?_ ?_
      · go_simp
        (try simp only [i64_w])
        try rfl
      refine hK.out _ _ ⟨v313, (by rw [ha.out]; exact putSel_upk 11 hb_ rfl rfl rfl), Q_BK295, Q_BK296, Q_BK297, Q_HB, fun h0_ => absurd ((hoff 17 (by kernel_rfl)).symm.trans h0_) (by decide), fun h0_ => absurd ((hoff 20 (by kernel_rfl)).symm.trans h0_) (by decide)⟩
    refine steps_cons ?_ ?_
    · rintro b a w' ⟨v313, ha, Q_BK295, Q_BK296, Q_BK297, Q_HB, Q_HO314, Q_BK297_e20⟩ hb_ hon hoff
      refine ⟨_, rfl, fun K hK => ?_⟩
      have e3 : a.tmps[3]? = some (.pointer (some ⟨gb296, 0, none⟩)) := by rw [ha]; exact (putSel_off rfl).trans rfl
      replace ha := Aside0.mk ha
      have BK295 := Aside0.mk Q_BK295
      have BK296 := Aside0.mk Q_BK296
      have BK297 := Aside0.mk (Q_BK297 (hoff 20 (by kernel_rfl)))
      have HB := Aside0.mk Q_HB
      have hc0_ : w'.cell? ⟨gb296, 0, none⟩ = some (.int .i64 t300) := (blk_cell BK296.out 0).trans rfl
      have hc1_ : w'.cell? ⟨gb296, 1, none⟩ = some (.bool t301) := (blk_cell BK296.out 1).trans rfl
      refine value_ (w1 := w') (v := .agg #[.int .i64 t300, .bool t301]) (by rfl) rfl ?_ ?_
      · go_simp
        (try simp only [i64_w])
        try rfl
      refine hK.out _ _ ⟨v313, (by rw [ha.out]; exact putSel_upk 12 hb_ rfl rfl rfl), Q_BK295, Q_BK296, Q_BK297, Q_HB, fun h0_ => absurd ((hoff 17 (by kernel_rfl)).symm.trans h0_) (by decide), fun h0_ => absurd ((hoff 20 (by kernel_rfl)).symm.trans h0_) (by decide)⟩
    refine steps_cons ?_ ?_
    · rintro b a w' ⟨v313, ha, Q_BK295, Q_BK296, Q_BK297, Q_HB, Q_HO314, Q_BK297_e20⟩ hb_ hon hoff
      refine ⟨_, rfl, fun K hK => ?_⟩
      have e24 : a.tmps[24]? = some (.agg #[.int .i64 t298, .bool t299]) := by rw [ha]; exact putSel_on (e := (15, 24, .agg #[.int .i64 t298, .bool t299])) 11 rfl rfl (hon 15 (by kernel_rfl)) rfl
      have e25 : a.tmps[25]? = some (.agg #[.int .i64 t300, .bool t301]) := by rw [ha]; exact putSel_on (e := (16, 25, .agg #[.int .i64 t300, .bool t301])) 12 rfl rfl (hon 16 (by kernel_rfl)) rfl
      replace ha := Aside0.mk ha
      have BK295 := Aside0.mk Q_BK295
      have BK296 := Aside0.mk Q_BK296
      have BK297 := Aside0.mk (Q_BK297 (hoff 20 (by kernel_rfl)))
      have HB := Aside0.mk Q_HB
      refine Kd.R_lit_step k23 _ 23 ?hg (N := 26) ?hd (xs := ([(⟨t298, t299⟩ : S23), (⟨t300, t301⟩ : S23)] : List (S23))) (inner := [.int .i64 t298, .bool t299, .int .i64 t300, .bool t301]) (ok := fun _ => True) (okp := fun _ => True) ?hr ?hp (fun _ hk => hk) trivial (Below.refl _ _) (Nat.le_refl _) (by simp) ?_; (case hd => rfl); (case hg => rfl); (case hr => first | (go_simp; done) | (go_simp; rfl)); (case hp => exact (Reps.c2 (show Kd.M k23 _ _ _ (⟨t298, t299⟩ : S23) [.int .i64 t298, .bool t299] from (k23_mkM _ _ _ (⟨t298, t299⟩ : S23) )) (Reps.c2 (show Kd.M k23 _ _ _ (⟨t300, t301⟩ : S23) [.int .i64 t300, .bool t301] from (k23_mkM _ _ _ (⟨t300, t301⟩ : S23) )) (Reps.none _ _))))
      intro v313 w23 ho24 hb hg_ hnew_
      clear hg_ hnew_
      (first | rw [← Ny312.out] at ho24 | (simp only [Int.reduceToNat] at ho24; rw [← Ny312.out] at ho24))
      have n0_ := Aside0.mk (Kd.R_lower (Kd.R_newB (Kd.R_newB (Kd.R_newB ho24 (g := gb295) (o := .cells #[.int .i64 t298, .bool t299] 23 (0, 0)) (by (with_reducible repeat (first | refine blk_drewN ?_ _ | refine blk_drew ?_ | refine blk_alloc ?_ _)); exact BK295.out)) (g := gb296) (o := .cells #[.int .i64 t300, .bool t301] 23 (0, 0)) (by (with_reducible repeat (first | refine blk_drewN ?_ _ | refine blk_drew ?_ | refine blk_alloc ?_ _)); exact BK296.out)) (g := gb297) (o := .cells #[.int .i64 0, .bool false] 23 (0, 0)) (by (with_reducible repeat (first | refine blk_drewN ?_ _ | refine blk_drew ?_ | refine blk_alloc ?_ _)); exact BK297.out)) (below_size (by repeat (first | (with_reducible first | exact HB.out | apply below_alloc | apply pw_below_drewN | apply below_drew1 | refine below_set ?_ GE295.out | refine below_set ?_ GE296.out | refine below_set ?_ GE297.out) | exact HB.out))))
      have n1_ := Aside0.mk (blk_below (g := gb295) (o := .cells #[.int .i64 t298, .bool t299] 23 (0, 0)) (by (with_reducible repeat (first | refine blk_drewN ?_ _ | refine blk_drew ?_ | refine blk_alloc ?_ _)); exact BK295.out) hb)
      have n2_ := Aside0.mk (blk_below (g := gb296) (o := .cells #[.int .i64 t300, .bool t301] 23 (0, 0)) (by (with_reducible repeat (first | refine blk_drewN ?_ _ | refine blk_drew ?_ | refine blk_alloc ?_ _)); exact BK296.out) hb)
      have n3_ := Aside0.mk (blk_below (g := gb297) (o := .cells #[.int .i64 0, .bool false] 23 (0, 0)) (by (with_reducible repeat (first | refine blk_drewN ?_ _ | refine blk_drew ?_ | refine blk_alloc ?_ _)); exact BK297.out) hb)
      have n4_ := Aside0.mk (below_step (by repeat (first | (with_reducible first | exact HB.out | apply below_alloc | apply pw_below_drewN | apply below_drew1 | refine below_set ?_ GE295.out | refine below_set ?_ GE296.out | refine below_set ?_ GE297.out) | exact HB.out)) hb)
      clear BK295
      clear BK296
      clear BK297
      clear HB
      have HO314 := n0_
      have BK295 := n1_
      have BK296 := n2_
      have BK297 := n3_
      have HB := n4_
      clear n0_ n1_ n2_ n3_ n4_
      clear hb ho24
      refine hK.out _ _ ⟨v313, (by rw [ha.out]; exact putSel_upk 13 hb_ rfl rfl rfl), (by (with_reducible repeat (first | refine blk_drewN ?_ _ | refine blk_drew ?_ | refine blk_alloc ?_ _)); exact BK295.out), (by (with_reducible repeat (first | refine blk_drewN ?_ _ | refine blk_drew ?_ | refine blk_alloc ?_ _)); exact BK296.out), fun _ => (by (with_reducible repeat (first | refine blk_drewN ?_ _ | refine blk_drew ?_ | refine blk_alloc ?_ _)); exact BK297.out), (by repeat (first | (with_reducible first | exact HB.out | apply below_alloc | apply pw_below_drewN | apply below_drew1 | refine below_set ?_ GE295.out | refine below_set ?_ GE296.out | refine below_set ?_ GE297.out) | exact HB.out)), fun _ => (by (with_reducible repeat (first | apply Kd.R_alloc | apply Kd.R_drewN | apply Kd.R_drew)); exact Kd.R_mono HO314.out (fun _ hk => ⟨hk.1.1.2, ⟨hk.1.2, hk.2⟩⟩)), fun h0_ => absurd ((hoff 20 (by kernel_rfl)).symm.trans h0_) (by decide)⟩
    refine steps_cons ?_ ?_
    · rintro b a w' ⟨v313, ha, Q_BK295, Q_BK296, Q_BK297, Q_HB, Q_HO314, Q_BK297_e20⟩ hb_ hon hoff
      refine ⟨_, rfl, fun K hK => ?_⟩
      have e26 : a.tmps[26]? = some (v313) := by rw [ha]; exact putSel_on (e := (17, 26, v313)) 13 rfl rfl (hon 17 (by kernel_rfl)) rfl
      replace ha := Aside0.mk ha
      have BK295 := Aside0.mk Q_BK295
      have BK296 := Aside0.mk Q_BK296
      have BK297 := Aside0.mk (Q_BK297 (hoff 20 (by kernel_rfl)))
      have HB := Aside0.mk Q_HB
      have HO314 := Aside0.mk (Q_HO314 (hon 17 (by kernel_rfl)))
      obtain ⟨Ao30, co30, eo30⟩ := Kd.R_slice HO314.out
      (first | subst eo30 | (injection eo30 with f1_ f2_ f3_; have f4_ := f1_.symm; have f5_ := f3_.symm; clear f1_ f2_ f3_; subst f4_; subst f5_))
      refine goes_ Try.func88 (by kernel_rfl) rfl #[.slice Ao30 y312.length co30] (by rfl) rfl rfl (by first | (simp only [List.map_toArray, List.map_cons, List.map_nil, Act.eval, Array.getD_eq_getD_getElem?, Option.getD_some, e26]; done) | (simp only [List.map_toArray, List.map_cons, List.map_nil, Act.eval, Array.getD_eq_getD_getElem?, Option.getD_some, e26]; rfl)) ?_
      with_reducible refine (fixed_flags.calls k _ _ y312 t315 _ ?side1 ?side2 A9.out).mono ?_
      (case side1 => repeat (first | exact (Kd.R_reads' HO314.out).2.2 | (with_reducible refine Kd.C_alloc ?_ _) | (with_reducible refine Kd.C_drewN ?_ _) | (with_reducible refine Kd.C_drew ?_)))
      (case side2 => exact (Kd.R_reads' HO314.out).2.1)
      rintro e w31 ⟨rfl, hb⟩
      refine ⟨_, rfl, ?_⟩
      have n0_ := Aside0.mk (Kd.R_below (by (with_reducible repeat (first | apply Kd.R_alloc | apply Kd.R_drewN | apply Kd.R_drew)); exact HO314.out) hb)
      have n1_ := Aside0.mk (blk_below (g := gb295) (o := .cells #[.int .i64 t298, .bool t299] 23 (0, 0)) (by (with_reducible repeat (first | refine blk_drewN ?_ _ | refine blk_drew ?_ | refine blk_alloc ?_ _)); exact BK295.out) hb)
      have n2_ := Aside0.mk (blk_below (g := gb296) (o := .cells #[.int .i64 t300, .bool t301] 23 (0, 0)) (by (with_reducible repeat (first | refine blk_drewN ?_ _ | refine blk_drew ?_ | refine blk_alloc ?_ _)); exact BK296.out) hb)
      have n3_ := Aside0.mk (blk_below (g := gb297) (o := .cells #[.int .i64 0, .bool false] 23 (0, 0)) (by (with_reducible repeat (first | refine blk_drewN ?_ _ | refine blk_drew ?_ | refine blk_alloc ?_ _)); exact BK297.out) hb)
      have n4_ := Aside0.mk (below_step (by repeat (first | (with_reducible first | exact HB.out | apply below_alloc | apply pw_below_drewN | apply below_drew1 | refine below_set ?_ GE295.out | refine below_set ?_ GE296.out | refine below_set ?_ GE297.out) | exact HB.out)) hb)
      clear HO314
      clear BK295
      clear BK296
      clear BK297
      clear HB
      have HO314 := n0_
      have BK295 := n1_
      have BK296 := n2_
      have BK297 := n3_
      have HB := n4_
      clear n0_ n1_ n2_ n3_ n4_
      (try clear hb)
      (try clear hb2)
      (try clear hk)
      (try clear hi)
      refine hK.out _ _ ⟨.slice Ao30 y312.length co30, (by rw [ha.out]; exact putSel_upk 14 hb_ rfl rfl rfl), (by (with_reducible repeat (first | refine blk_drewN ?_ _ | refine blk_drew ?_ | refine blk_alloc ?_ _)); exact BK295.out), (by (with_reducible repeat (first | refine blk_drewN ?_ _ | refine blk_drew ?_ | refine blk_alloc ?_ _)); exact BK296.out), fun _ => (by (with_reducible repeat (first | refine blk_drewN ?_ _ | refine blk_drew ?_ | refine blk_alloc ?_ _)); exact BK297.out), (by repeat (first | (with_reducible first | exact HB.out | apply below_alloc | apply pw_below_drewN | apply below_drew1 | refine below_set ?_ GE295.out | refine below_set ?_ GE296.out | refine below_set ?_ GE297.out) | exact HB.out)), fun _ => (by (with_reducible repeat (first | apply Kd.R_alloc | apply Kd.R_drewN | apply Kd.R_drew)); exact HO314.out), fun h0_ => absurd ((hoff 20 (by kernel_rfl)).symm.trans h0_) (by decide)⟩
    refine steps_cons ?_ ?_
    · rintro b a w' ⟨v313, ha, Q_BK295, Q_BK296, Q_BK297, Q_HB, Q_HO314, Q_BK297_e20⟩ hb_ hon hoff
      refine ⟨_, rfl, fun K hK => ?_⟩
      have e23 : a.tmps[23]? = some (.agg #[.bool false, .int .u64 t311, .int .u64 0]) := by rw [ha]; exact putSel_on (e := (14, 23, .agg #[.bool false, .int .u64 t311, .int .u64 0])) 10 rfl rfl (hon 14 (by kernel_rfl)) rfl
      have e27 : a.tmps[27]? = some (.bool t315) := by rw [ha]; exact putSel_on (e := (18, 27, .bool t315)) 14 rfl rfl (hon 18 (by kernel_rfl)) rfl
      replace ha := Aside0.mk ha
      have BK295 := Aside0.mk Q_BK295
      have BK296 := Aside0.mk Q_BK296
      have BK297 := Aside0.mk (Q_BK297 (hoff 20 (by kernel_rfl)))
      have HB := Aside0.mk Q_HB
      have HO314 := Aside0.mk (Q_HO314 (hon 17 (by kernel_rfl)))
      refine goes_ Try.func83 (by kernel_rfl) rfl #[.agg #[.bool false, .int .u64 t311, .int .u64 0], .bool t315] (by rfl) rfl rfl (by first | (simp only [List.map_toArray, List.map_cons, List.map_nil, Act.eval, Array.getD_eq_getD_getElem?, Option.getD_some, e23, e27]; done) | (simp only [List.map_toArray, List.map_cons, List.map_nil, Act.eval, Array.getD_eq_getD_getElem?, Option.getD_some, e23, e27]; rfl)) ?_
      with_reducible refine (fixed_exact_fit.calls k false t311 0 t315 t316 t317 _ A10.out).mono ?_
      rintro e w32 ⟨rfl, hb⟩
      refine ⟨_, rfl, ?_⟩
      have n0_ := Aside0.mk (Kd.R_below (by (with_reducible repeat (first | apply Kd.R_alloc | apply Kd.R_drewN | apply Kd.R_drew)); exact HO314.out) hb)
      have n1_ := Aside0.mk (blk_below (g := gb295) (o := .cells #[.int .i64 t298, .bool t299] 23 (0, 0)) (by (with_reducible repeat (first | refine blk_drewN ?_ _ | refine blk_drew ?_ | refine blk_alloc ?_ _)); exact BK295.out) hb)
      have n2_ := Aside0.mk (blk_below (g := gb296) (o := .cells #[.int .i64 t300, .bool t301] 23 (0, 0)) (by (with_reducible repeat (first | refine blk_drewN ?_ _ | refine blk_drew ?_ | refine blk_alloc ?_ _)); exact BK296.out) hb)
      have n3_ := Aside0.mk (blk_below (g := gb297) (o := .cells #[.int .i64 0, .bool false] 23 (0, 0)) (by (with_reducible repeat (first | refine blk_drewN ?_ _ | refine blk_drew ?_ | refine blk_alloc ?_ _)); exact BK297.out) hb)
      have n4_ := Aside0.mk (below_step (by repeat (first | (with_reducible first | exact HB.out | apply below_alloc | apply pw_below_drewN | apply below_drew1 | refine below_set ?_ GE295.out | refine below_set ?_ GE296.out | refine below_set ?_ GE297.out) | exact HB.out)) hb)
      clear HO314
      clear BK295
      clear BK296
      clear BK297
      clear HB
      have HO314 := n0_
      have BK295 := n1_
      have BK296 := n2_
      have BK297 := n3_
      have HB := n4_
      clear n0_ n1_ n2_ n3_ n4_
      (try clear hb)
      (try clear hb2)
      (try clear hk)
      (try clear hi)
      refine hK.out _ _ ⟨v313, (by rw [ha.out]; exact putSel_upk 15 hb_ rfl rfl rfl), (by (with_reducible repeat (first | refine blk_drewN ?_ _ | refine blk_drew ?_ | refine blk_alloc ?_ _)); exact BK295.out), (by (with_reducible repeat (first | refine blk_drewN ?_ _ | refine blk_drew ?_ | refine blk_alloc ?_ _)); exact BK296.out), fun _ => (by (with_reducible repeat (first | refine blk_drewN ?_ _ | refine blk_drew ?_ | refine blk_alloc ?_ _)); exact BK297.out), (by repeat (first | (with_reducible first | exact HB.out | apply below_alloc | apply pw_below_drewN | apply below_drew1 | refine below_set ?_ GE295.out | refine below_set ?_ GE296.out | refine below_set ?_ GE297.out) | exact HB.out)), fun _ => (by (with_reducible repeat (first | apply Kd.R_alloc | apply Kd.R_drewN | apply Kd.R_drew)); exact HO314.out), fun h0_ => absurd ((hoff 20 (by kernel_rfl)).symm.trans h0_) (by decide)⟩
    refine steps_cons ?_ ?_
    · rintro b a w' ⟨v313, ha, Q_BK295, Q_BK296, Q_BK297, Q_HB, Q_HO314, Q_BK297_e20⟩ hb_ hon hoff
      refine ⟨_, rfl, fun K hK => ?_⟩
      have e4 : a.tmps[4]? = some (.pointer (some ⟨gb297, 0, none⟩)) := by rw [ha]; exact (putSel_off rfl).trans rfl
      have e28 : a.tmps[28]? = some (.agg #[.int .i64 t316, .bool t317]) := by rw [ha]; exact putSel_on (e := (19, 28, .agg #[.int .i64 t316, .bool t317])) 15 rfl rfl (hon 19 (by kernel_rfl)) rfl
      replace ha := Aside0.mk ha
      have BK295 := Aside0.mk Q_BK295
      have BK296 := Aside0.mk Q_BK296
      have BK297 := Aside0.mk (Q_BK297 hb_)
      have HB := Aside0.mk Q_HB
      have HO314 := Aside0.mk (Q_HO314 (hon 17 (by kernel_rfl)))
      have hs33 : w'.cell? ⟨gb297, 0, none⟩ = some (.int .i64 0) := (blk_cell BK297.out 0).trans rfl
      have hfs33 := blk_frozen BK297.out 0
      have hns33_0 := NB295_297.out
      have hns33_1 := NB296_297.out
      have hms33_0 := NB297_295.out
      have hms33_1 := NB297_296.out
      have hs34 : w'.cell? ⟨gb297, 1, none⟩ = some (.bool false) := (blk_cell BK297.out 1).trans rfl
      have hfs34 := blk_frozen BK297.out 1
      have hns34_0 := NB295_297.out
      have hns34_1 := NB296_297.out
      have hms34_0 := NB297_295.out
      have hms34_1 := NB297_296.out
      refine skip_ (w1 := ?_) (by rfl) rfl ?_ ?_
      rotate_left
      · go_simp
        rfl
      refine hK.out _ _ ⟨v313, (by rw [ha.out]; exact putSel_none (v := undef) rfl), (by (with_reducible repeat (first | refine blk_drewN ?_ _ | refine blk_drew ?_ | refine blk_alloc ?_ _)); refine blk_far ?_ NB295_297.out _; (with_reducible repeat (first | refine blk_drewN ?_ _ | refine blk_drew ?_ | refine blk_alloc ?_ _)); refine blk_far ?_ NB295_297.out _; (with_reducible repeat (first | refine blk_drewN ?_ _ | refine blk_drew ?_ | refine blk_alloc ?_ _)); exact BK295.out), (by (with_reducible repeat (first | refine blk_drewN ?_ _ | refine blk_drew ?_ | refine blk_alloc ?_ _)); refine blk_far ?_ NB296_297.out _; (with_reducible repeat (first | refine blk_drewN ?_ _ | refine blk_drew ?_ | refine blk_alloc ?_ _)); refine blk_far ?_ NB296_297.out _; (with_reducible repeat (first | refine blk_drewN ?_ _ | refine blk_drew ?_ | refine blk_alloc ?_ _)); exact BK296.out), fun h0_ => absurd ((up_self b 20).symm.trans h0_) (by decide), (by repeat (first | (with_reducible first | exact HB.out | apply below_alloc | apply pw_below_drewN | apply below_drew1 | refine below_set ?_ GE295.out | refine below_set ?_ GE296.out | refine below_set ?_ GE297.out) | exact HB.out)), fun _ => (by (with_reducible repeat (first | apply Kd.R_alloc | apply Kd.R_drewN | apply Kd.R_drew)); exact Kd.R_mono (Kd.R_far (p := ⟨gb297, 1, none⟩) (Kd.R_far (p := ⟨gb297, 0, none⟩) (Kd.R_mono HO314.out (fun k_ hk => (⟨hk, hk.2.2⟩ : _ ∧ k_ ≠ gb297))) (fun _ hk => hk.2) (.int .i64 t316)) (fun _ hk => hk.2) (.bool t317)) (fun _ hk => ⟨hk.1.1, ⟨hk.1.2.1, hk.1.2.2⟩⟩)), fun _ => (by (with_reducible repeat (first | refine blk_drewN ?_ _ | refine blk_drew ?_ | refine blk_alloc ?_ _)); refine blk_put (cs := #[.int .i64 t316, .bool false]) ?_ 1 _ rfl; (with_reducible repeat (first | refine blk_drewN ?_ _ | refine blk_drew ?_ | refine blk_alloc ?_ _)); refine blk_put (cs := #[.int .i64 0, .bool false]) ?_ 0 _ rfl; (with_reducible repeat (first | refine blk_drewN ?_ _ | refine blk_drew ?_ | refine blk_alloc ?_ _)); exact BK297.out)⟩
    exact steps_nil
  rintro b a w34 hall ⟨v313, ha, Q_BK295, Q_BK296, Q_BK297, Q_HB, Q_HO314, Q_BK297_e20⟩
  clear BK295 BK296 BK297 HB
  have hb1_ := hall 1 (by kernel_rfl)
  have hb3_ := hall 3 (by kernel_rfl)
  have hb4_ := hall 4 (by kernel_rfl)
  have hb6_ := hall 6 (by kernel_rfl)
  have hb8_ := hall 8 (by kernel_rfl)
  have hb9_ := hall 9 (by kernel_rfl)
  have hb10_ := hall 10 (by kernel_rfl)
  have hb11_ := hall 11 (by kernel_rfl)
  have hb12_ := hall 12 (by kernel_rfl)
  have hb13_ := hall 13 (by kernel_rfl)
  have hb14_ := hall 14 (by kernel_rfl)
  have hb15_ := hall 15 (by kernel_rfl)
  have hb16_ := hall 16 (by kernel_rfl)
  have hb17_ := hall 17 (by kernel_rfl)
  have hb18_ := hall 18 (by kernel_rfl)
  have hb19_ := hall 19 (by kernel_rfl)
  have hb20_ := hall 20 (by kernel_rfl)
  subst ha
  simp only [putSel, hb1_, hb3_, hb4_, hb6_, hb8_, hb9_, hb10_, hb11_, hb12_, hb13_, hb14_, hb15_, hb16_, hb17_, hb18_, hb19_, hb20_, if_true, Act.put, List.setIfInBounds_toArray, List.set_cons_zero, List.set_cons_succ]
  have BK295 := Aside0.mk Q_BK295
  clear Q_BK295
  have BK296 := Aside0.mk Q_BK296
  clear Q_BK296
  clear Q_BK297
  have HB := Aside0.mk Q_HB
  clear Q_HB
  have HO314 := Aside0.mk (Q_HO314 hb17_)
  clear Q_HO314
  have BK297 := Aside0.mk (Q_BK297_e20 hb20_)
  clear Q_BK297_e20
  clear hall hb1_ hb3_ hb4_ hb6_ hb8_ hb9_ hb10_ hb11_ hb12_ hb13_ hb14_ hb15_ hb16_ hb17_ hb18_ hb19_ hb20_
  try go_wp2
  refine bodyPost_ret (results_cell_row rfl _ _ gb297 23 #[.int .i64 t316, .bool t317] (0, 0) _ rfl (by (with_reducible repeat (first | refine blk_drewN ?_ _ | refine blk_drew ?_ | refine blk_alloc ?_ _)); exact BK297.out) Try.underlying23 rfl (by kernel_rfl)) rfl ?_
  exact ⟨by first | rfl | (simp [errW_none, errW_some] <;> rfl) | (simp [*, errW_none, errW_some] <;> rfl), by repeat (first | (with_reducible first | exact HB.out | apply below_alloc | apply pw_below_drewN | apply below_drew1 | refine below_set ?_ GE295.out | refine below_set ?_ GE296.out | refine below_set ?_ GE297.out) | exact HB.out)⟩
end Go.Proofs.Ytenpiaafkmfjfaa.B

end
section
namespace Go.Proofs.Ytenpiaafkmfjfaa.B
open Go.RowKit Go.Proofs.YtenpiaafkmfjfaaW.PrintWords Go.Proofs.YtenpiaafkmfjfaaW.PrintLast Go.Proofs.YtenpiaafkmfjfaaW.PrintMore
attribute [local go_sem] max2_int min2_int max_two min_two max_three min_three max_four min_four
set_option linter.unusedVariables false
set_option linter.unusedSimpArgs false
def fixed_Dot.f (k : Nat) (a0_0 : Int) (a0_1 : Bool) (a1_0 : Int) (a1_1 : Bool) (a2_0 : Int) (a2_1 : Bool) (a3_0 : Int) (a3_1 : Bool) : Option (Int × Bool) := (fixed_sound.f a0_0 a0_1).bind fun bt323 => ((fixed_sound.f a1_0 a1_1).bind fun bt325 => ((fixed_sound.f a2_0 a2_1).bind fun bt327 => ((fixed_sound.f a3_0 a3_1).bind fun bt329 => ((fixed_product.f bt323.1 bt325.1).bind fun bt331 => ((fixed_product.f bt327.1 bt329.1).bind fun bt334 => ((fixed_exact_plus.f k bt331.1 bt331.2.1 bt331.2.2 bt334.1 bt334.2.1 bt334.2.2).bind fun bt337 => ((fixed_exact_down.f bt337.1 bt337.2.1 bt337.2.2).bind fun bt340 => ((fixed_flags.f k (([(⟨bt323.1, bt323.2⟩ : S23), (⟨bt325.1, bt325.2⟩ : S23), (⟨bt327.1, bt327.2⟩ : S23), (⟨bt329.1, bt329.2⟩ : S23)] : List (S23)))).bind fun t346 => ((fixed_exact_fit.f k bt340.1 bt340.2.1 bt340.2.2 t346).bind fun bt347 => (some (bt347.1, bt347.2)))))))))))
def fixed_Dot.T1 : Bool × List (List Nat × List Nat) := (true, [([], []), ([0], [0]), ([], []), ([2, 1], [2]), ([], []), ([4, 3], [4]), ([], []), ([6, 5], [6]), ([1, 7, 0, 1], [1]), ([3, 8, 0, 1, 2, 3, 8], [3]), ([5, 9, 0, 1, 2, 3, 4, 5, 8, 9], [5]), ([7, 10, 0, 1, 2, 3, 4, 5, 6, 7, 8, 9, 10], [7])])
def fixed_Dot.B1 : List Nat := [0, 1, 0, 7, 0, 31, 0, 127, 255, 511, 1023, 2047]
theorem fixed_Dot.tab1 : rtab .any (opsOf Try.f43 1) = fixed_Dot.T1 := by kernel_rfl
theorem fixed_Dot.bits1 : waitsOk fixed_Dot.T1.2 fixed_Dot.B1 = true := by kernel_rfl
def fixed_Dot.T2 : Bool × List (List Nat × List Nat) := (true, [([], []), ([0], [0]), ([], []), ([2], [2]), ([1, 3], [1, 3]), ([], []), ([5], [5]), ([], []), ([7], [7]), ([6, 8, 4], [6, 8]), ([4, 9, 9], [4, 9]), ([10, 10], [10]), ([], []), ([], []), ([], []), ([], []), ([12, 13, 14, 15], [12, 13, 14, 15]), ([16, 11], [16]), ([11, 17, 17], [11, 17]), ([18, 18, 0, 1, 2, 3, 4, 5, 6, 7, 8, 9, 10, 11, 12, 13, 14, 15, 16, 17, 18], [18])])
def fixed_Dot.B2 : List Nat := [0, 1, 0, 4, 15, 0, 32, 0, 128, 511, 1023, 2047, 0, 0, 0, 0, 61440, 131071, 262143, 524287]
theorem fixed_Dot.tab2 : rtab .any (opsOf Try.f43 2) = fixed_Dot.T2 := by kernel_rfl
theorem fixed_Dot.bits2 : waitsOk fixed_Dot.T2.2 fixed_Dot.B2 = true := by kernel_rfl
set_option maxHeartbeats 8000000 in
set_option maxRecDepth 100000 in
theorem fixed_Dot.calls (k : Nat) (a0_0 : Int) (a0_1 : Bool) (a1_0 : Int) (a1_1 : Bool) (a2_0 : Int) (a2_1 : Bool) (a3_0 : Int) (a3_1 : Bool) (r1 : Int) (r2 : Bool) (w : World) (h : fixed_Dot.f k a0_0 a0_1 a1_0 a1_1 a2_0 a2_1 a3_0 a3_1 = some (r1, r2)) :
    Calls Try.prog 43 #[.agg #[.int .i64 a0_0, .bool a0_1], .agg #[.int .i64 a1_0, .bool a1_1], .agg #[.int .i64 a2_0, .bool a2_1], .agg #[.int .i64 a3_0, .bool a3_1]] w fun e w' => e = .returned (.agg #[.int .i64 r1, .bool r2]) ∧ Below w.heap.size w w' := by
  have hu23 := Try.underlying23
  have HB := Aside0.mk (Below.refl w.heap.size w)
  have H : ((fixed_sound.f a0_0 a0_1).bind fun bt323 => ((fixed_sound.f a1_0 a1_1).bind fun bt325 => ((fixed_sound.f a2_0 a2_1).bind fun bt327 => ((fixed_sound.f a3_0 a3_1).bind fun bt329 => ((fixed_product.f bt323.1 bt325.1).bind fun bt331 => ((fixed_product.f bt327.1 bt329.1).bind fun bt334 => ((fixed_exact_plus.f k bt331.1 bt331.2.1 bt331.2.2 bt334.1 bt334.2.1 bt334.2.2).bind fun bt337 => ((fixed_exact_down.f bt337.1 bt337.2.1 bt337.2.2).bind fun bt340 => ((fixed_flags.f k (([(⟨bt323.1, bt323.2⟩ : S23), (⟨bt325.1, bt325.2⟩ : S23), (⟨bt327.1, bt327.2⟩ : S23), (⟨bt329.1, bt329.2⟩ : S23)] : List (S23)))).bind fun t346 => ((fixed_exact_fit.f k bt340.1 bt340.2.1 bt340.2.2 t346).bind fun bt347 => (some (bt347.1, bt347.2)))))))))))) = some (r1, r2) := h
  clear h
  replace H := Option.bind_eq_some_iff.mp H
  obtain ⟨⟨t323, t324⟩, A50, H⟩ := H
  replace H : ((fixed_sound.f a1_0 a1_1).bind fun bt325 => ((fixed_sound.f a2_0 a2_1).bind fun bt327 => ((fixed_sound.f a3_0 a3_1).bind fun bt329 => ((fixed_product.f t323 bt325.1).bind fun bt331 => ((fixed_product.f bt327.1 bt329.1).bind fun bt334 => ((fixed_exact_plus.f k bt331.1 bt331.2.1 bt331.2.2 bt334.1 bt334.2.1 bt334.2.2).bind fun bt337 => ((fixed_exact_down.f bt337.1 bt337.2.1 bt337.2.2).bind fun bt340 => ((fixed_flags.f k (([(⟨t323, t324⟩ : S23), (⟨bt325.1, bt325.2⟩ : S23), (⟨bt327.1, bt327.2⟩ : S23), (⟨bt329.1, bt329.2⟩ : S23)] : List (S23)))).bind fun t346 => ((fixed_exact_fit.f k bt340.1 bt340.2.1 bt340.2.2 t346).bind fun bt347 => (some (bt347.1, bt347.2))))))))))) = some (r1, r2) := H
  have A5 := Aside0.mk A50
  clear A50
  replace H := Option.bind_eq_some_iff.mp H
  obtain ⟨⟨t325, t326⟩, A60, H⟩ := H
  replace H : ((fixed_sound.f a2_0 a2_1).bind fun bt327 => ((fixed_sound.f a3_0 a3_1).bind fun bt329 => ((fixed_product.f t323 t325).bind fun bt331 => ((fixed_product.f bt327.1 bt329.1).bind fun bt334 => ((fixed_exact_plus.f k bt331.1 bt331.2.1 bt331.2.2 bt334.1 bt334.2.1 bt334.2.2).bind fun bt337 => ((fixed_exact_down.f bt337.1 bt337.2.1 bt337.2.2).bind fun bt340 => ((fixed_flags.f k (([(⟨t323, t324⟩ : S23), (⟨t325, t326⟩ : S23), (⟨bt327.1, bt327.2⟩ : S23), (⟨bt329.1, bt329.2⟩ : S23)] : List (S23)))).bind fun t346 => ((fixed_exact_fit.f k bt340.1 bt340.2.1 bt340.2.2 t346).bind fun bt347 => (some (bt347.1, bt347.2)))))))))) = some (r1, r2) := H
  have A6 := Aside0.mk A60
  clear A60
  replace H := Option.bind_eq_some_iff.mp H
  obtain ⟨⟨t327, t328⟩, A70, H⟩ := H
  replace H : ((fixed_sound.f a3_0 a3_1).bind fun bt329 => ((fixed_product.f t323 t325).bind fun bt331 => ((fixed_product.f t327 bt329.1).bind fun bt334 => ((fixed_exact_plus.f k bt331.1 bt331.2.1 bt331.2.2 bt334.1 bt334.2.1 bt334.2.2).bind fun bt337 => ((fixed_exact_down.f bt337.1 bt337.2.1 bt337.2.2).bind fun bt340 => ((fixed_flags.f k (([(⟨t323, t324⟩ : S23), (⟨t325, t326⟩ : S23), (⟨t327, t328⟩ : S23), (⟨bt329.1, bt329.2⟩ : S23)] : List (S23)))).bind fun t346 => ((fixed_exact_fit.f k bt340.1 bt340.2.1 bt340.2.2 t346).bind fun bt347 => (some (bt347.1, bt347.2))))))))) = some (r1, r2) := H
  have A7 := Aside0.mk A70
  clear A70
  replace H := Option.bind_eq_some_iff.mp H
  obtain ⟨⟨t329, t330⟩, A80, H⟩ := H
  replace H : ((fixed_product.f t323 t325).bind fun bt331 => ((fixed_product.f t327 t329).bind fun bt334 => ((fixed_exact_plus.f k bt331.1 bt331.2.1 bt331.2.2 bt334.1 bt334.2.1 bt334.2.2).bind fun bt337 => ((fixed_exact_down.f bt337.1 bt337.2.1 bt337.2.2).bind fun bt340 => ((fixed_flags.f k (([(⟨t323, t324⟩ : S23), (⟨t325, t326⟩ : S23), (⟨t327, t328⟩ : S23), (⟨t329, t330⟩ : S23)] : List (S23)))).bind fun t346 => ((fixed_exact_fit.f k bt340.1 bt340.2.1 bt340.2.2 t346).bind fun bt347 => (some (bt347.1, bt347.2)))))))) = some (r1, r2) := H
  have A8 := Aside0.mk A80
  clear A80
  replace H := Option.bind_eq_some_iff.mp H
  obtain ⟨⟨t331, t332, t333⟩, A90, H⟩ := H
  replace H : ((fixed_product.f t327 t329).bind fun bt334 => ((fixed_exact_plus.f k t331 t332 t333 bt334.1 bt334.2.1 bt334.2.2).bind fun bt337 => ((fixed_exact_down.f bt337.1 bt337.2.1 bt337.2.2).bind fun bt340 => ((fixed_flags.f k (([(⟨t323, t324⟩ : S23), (⟨t325, t326⟩ : S23), (⟨t327, t328⟩ : S23), (⟨t329, t330⟩ : S23)] : List (S23)))).bind fun t346 => ((fixed_exact_fit.f k bt340.1 bt340.2.1 bt340.2.2 t346).bind fun bt347 => (some (bt347.1, bt347.2))))))) = some (r1, r2) := H
  have A9 := Aside0.mk A90
  clear A90
  replace H := Option.bind_eq_some_iff.mp H
  obtain ⟨⟨t334, t335, t336⟩, A100, H⟩ := H
  replace H : ((fixed_exact_plus.f k t331 t332 t333 t334 t335 t336).bind fun bt337 => ((fixed_exact_down.f bt337.1 bt337.2.1 bt337.2.2).bind fun bt340 => ((fixed_flags.f k (([(⟨t323, t324⟩ : S23), (⟨t325, t326⟩ : S23), (⟨t327, t328⟩ : S23), (⟨t329, t330⟩ : S23)] : List (S23)))).bind fun t346 => ((fixed_exact_fit.f k bt340.1 bt340.2.1 bt340.2.2 t346).bind fun bt347 => (some (bt347.1, bt347.2)))))) = some (r1, r2) := H
  have A10 := Aside0.mk A100
  clear A100
  replace H := Option.bind_eq_some_iff.mp H
  obtain ⟨⟨t337, t338, t339⟩, A110, H⟩ := H
  replace H : ((fixed_exact_down.f t337 t338 t339).bind fun bt340 => ((fixed_flags.f k (([(⟨t323, t324⟩ : S23), (⟨t325, t326⟩ : S23), (⟨t327, t328⟩ : S23), (⟨t329, t330⟩ : S23)] : List (S23)))).bind fun t346 => ((fixed_exact_fit.f k bt340.1 bt340.2.1 bt340.2.2 t346).bind fun bt347 => (some (bt347.1, bt347.2))))) = some (r1, r2) := H
  have A11 := Aside0.mk A110
  clear A110
  replace H := Option.bind_eq_some_iff.mp H
  obtain ⟨⟨t340, t341, t342⟩, A120, H⟩ := H
  replace H : ((fixed_flags.f k (([(⟨t323, t324⟩ : S23), (⟨t325, t326⟩ : S23), (⟨t327, t328⟩ : S23), (⟨t329, t330⟩ : S23)] : List (S23)))).bind fun t346 => ((fixed_exact_fit.f k t340 t341 t342 t346).bind fun bt347 => (some (bt347.1, bt347.2)))) = some (r1, r2) := H
  have A12 := Aside0.mk A120
  clear A120
  obtain ⟨y343, hy343⟩ : ∃ y_ : List (S23), y_ = (([(⟨t323, t324⟩ : S23), (⟨t325, t326⟩ : S23), (⟨t327, t328⟩ : S23), (⟨t329, t330⟩ : S23)] : List (S23))) := ⟨_, rfl⟩
  replace H : ((fixed_flags.f k y343).bind fun t346 => ((fixed_exact_fit.f k t340 t341 t342 t346).bind fun bt347 => (some (bt347.1, bt347.2)))) = some (r1, r2) := by first | (rw [hy343]; with_reducible exact H) | (have H2_ := (Option.bind_some _ _).symm.trans H; rw [hy343]; with_reducible exact H2_) | (have H2_ := (Option.bind_some _ _).symm.trans H; with_reducible exact H2_) | with_reducible exact H | (rw [hy343]; exact H) | exact H
  have Ny343 := Aside0.mk hy343
  clear hy343
  replace H := Option.bind_eq_some_iff.mp H
  obtain ⟨t346, A130, H⟩ := H
  replace H : ((fixed_exact_fit.f k t340 t341 t342 t346).bind fun bt347 => (some (bt347.1, bt347.2))) = some (r1, r2) := H
  have A13 := Aside0.mk A130
  clear A130
  replace H := Option.bind_eq_some_iff.mp H
  obtain ⟨⟨t347, t348⟩, A140, H⟩ := H
  replace H : (some (t347, t348)) = some (r1, r2) := H
  have A14 := Aside0.mk A140
  clear A140
  simp only [Option.some.injEq, Prod.mk.injEq] at H
  obtain ⟨rfl, rfl⟩ := H
  go_enter Try.func43, Try.ntmps43
  try go_wp2_with (first | ((with_reducible refine gate_dst (N := 4) rfl ?_); refine box_event ?hg (N := 4) ?hd (cs := #[.int .i64 a0_0, .bool a0_1]) (t := 23) ?hr ?_; (case hd => rfl); (case hg => rfl); (case hr => first | (go_simp; done) | (go_simp; rfl)); intro gb318 hg w15 hbox hb; have n0_ := Aside0.mk (below_step (by repeat (first | (with_reducible first | exact HB.out | apply below_alloc | apply pw_below_drewN | apply below_drew1) | exact HB.out)) hb); have n1_ := Aside0.mk (hbox); have n2_ := Aside0.mk ((by rw [hg]; exact (below_size (by repeat (first | (with_reducible first | exact HB.out | apply below_alloc | apply pw_below_drewN | apply below_drew1) | exact HB.out))) : w.heap.size ≤ gb318)); have n3_ := Aside0.mk ((by rw [hg]; exact (below_size (by repeat (first | (with_reducible first | exact HB.out | apply below_alloc | apply pw_below_drewN | apply below_drew1) | exact HB.out))) : w.heap.size ≤ gb318)); clear HB; have HB := n0_; have BK318 := n1_; have GW318 := n2_; have GE318 := n3_; clear n0_ n1_ n2_ n3_; clear hb hbox hg) | ((with_reducible refine gate_dst (N := 5) rfl ?_); refine box_event ?hg (N := 5) ?hd (cs := #[.int .i64 a1_0, .bool a1_1]) (t := 23) ?hr ?_; (case hd => rfl); (case hg => rfl); (case hr => first | (go_simp; done) | (go_simp; rfl)); intro gb319 hg w16 hbox hb; have n0_ := Aside0.mk (blk_below (g := gb318) (o := .cells #[.int .i64 a0_0, .bool a0_1] 23 (0, 0)) (by (with_reducible repeat (first | refine blk_drewN ?_ _ | refine blk_drew ?_ | refine blk_alloc ?_ _)); exact BK318.out) hb); have n1_ := Aside0.mk (below_step (by repeat (first | (with_reducible first | exact HB.out | apply below_alloc | apply pw_below_drewN | apply below_drew1 | refine below_set ?_ GE318.out) | exact HB.out)) hb); have n2_ := Aside0.mk (hbox); have n3_ := Aside0.mk ((by rw [hg]; exact (below_size (by repeat (first | (with_reducible first | exact HB.out | apply below_alloc | apply pw_below_drewN | apply below_drew1 | refine below_set ?_ GE318.out) | exact HB.out))) : w.heap.size ≤ gb319)); have n4_ := Aside0.mk ((by rw [hg]; exact (below_size (by repeat (first | (with_reducible first | exact HB.out | apply below_alloc | apply pw_below_drewN | apply below_drew1 | refine below_set ?_ GE318.out) | exact HB.out))) : w.heap.size ≤ gb319)); have n5_ := Aside0.mk ((by rw [hg]; exact Nat.ne_of_lt (blk_lt (g := gb318) (o := .cells #[.int .i64 a0_0, .bool a0_1] 23 (0, 0)) (by (with_reducible repeat (first | refine blk_drewN ?_ _ | refine blk_drew ?_ | refine blk_alloc ?_ _)); exact BK318.out)) : gb318 ≠ gb319)); have n6_ := Aside0.mk ((by rw [hg]; exact Nat.ne_of_gt (blk_lt (g := gb318) (o := .cells #[.int .i64 a0_0, .bool a0_1] 23 (0, 0)) (by (with_reducible repeat (first | refine blk_drewN ?_ _ | refine blk_drew ?_ | refine blk_alloc ?_ _)); exact BK318.out)) : gb319 ≠ gb318)); clear BK318; clear HB; have BK318 := n0_; have HB := n1_; have BK319 := n2_; have GW319 := n3_; have GE319 := n4_; have NB318_319 := n5_; have NB319_318 := n6_; clear n0_ n1_ n2_ n3_ n4_ n5_ n6_; clear hb hbox hg) | ((with_reducible refine gate_dst (N := 6) rfl ?_); refine box_event ?hg (N := 6) ?hd (cs := #[.int .i64 a2_0, .bool a2_1]) (t := 23) ?hr ?_; (case hd => rfl); (case hg => rfl); (case hr => first | (go_simp; done) | (go_simp; rfl)); intro gb320 hg w17 hbox hb; have n0_ := Aside0.mk (blk_below (g := gb318) (o := .cells #[.int .i64 a0_0, .bool a0_1] 23 (0, 0)) (by (with_reducible repeat (first | refine blk_drewN ?_ _ | refine blk_drew ?_ | refine blk_alloc ?_ _)); exact BK318.out) hb); have n1_ := Aside0.mk (blk_below (g := gb319) (o := .cells #[.int .i64 a1_0, .bool a1_1] 23 (0, 0)) (by (with_reducible repeat (first | refine blk_drewN ?_ _ | refine blk_drew ?_ | refine blk_alloc ?_ _)); exact BK319.out) hb); have n2_ := Aside0.mk (below_step (by repeat (first | (with_reducible first | exact HB.out | apply below_alloc | apply pw_below_drewN | apply below_drew1 | refine below_set ?_ GE318.out | refine below_set ?_ GE319.out) | exact HB.out)) hb); have n3_ := Aside0.mk (hbox); have n4_ := Aside0.mk ((by rw [hg]; exact (below_size (by repeat (first | (with_reducible first | exact HB.out | apply below_alloc | apply pw_below_drewN | apply below_drew1 | refine below_set ?_ GE318.out | refine below_set ?_ GE319.out) | exact HB.out))) : w.heap.size ≤ gb320)); have n5_ := Aside0.mk ((by rw [hg]; exact (below_size (by repeat (first | (with_reducible first | exact HB.out | apply below_alloc | apply pw_below_drewN | apply below_drew1 | refine below_set ?_ GE318.out | refine below_set ?_ GE319.out) | exact HB.out))) : w.heap.size ≤ gb320)); have n6_ := Aside0.mk ((by rw [hg]; exact Nat.ne_of_lt (blk_lt (g := gb318) (o := .cells #[.int .i64 a0_0, .bool a0_1] 23 (0, 0)) (by (with_reducible repeat (first | refine blk_drewN ?_ _ | refine blk_drew ?_ | refine blk_alloc ?_ _)); exact BK318.out)) : gb318 ≠ gb320)); have n7_ := Aside0.mk ((by rw [hg]; exact Nat.ne_of_gt (blk_lt (g := gb318) (o := .cells #[.int .i64 a0_0, .bool a0_1] 23 (0, 0)) (by (with_reducible repeat (first | refine blk_drewN ?_ _ | refine blk_drew ?_ | refine blk_alloc ?_ _)); exact BK318.out)) : gb320 ≠ gb318)); have n8_ := Aside0.mk ((by rw [hg]; exact Nat.ne_of_lt (blk_lt (g := gb319) (o := .cells #[.int .i64 a1_0, .bool a1_1] 23 (0, 0)) (by (with_reducible repeat (first | refine blk_drewN ?_ _ | refine blk_drew ?_ | refine blk_alloc ?_ _)); exact BK319.out)) : gb319 ≠ gb320)); have n9_ := Aside0.mk ((by rw [hg]; exact Nat.ne_of_gt (blk_lt (g := gb319) (o := .cells #[.int .i64 a1_0, .bool a1_1] 23 (0, 0)) (by (with_reducible repeat (first | refine blk_drewN ?_ _ | refine blk_drew ?_ | refine blk_alloc ?_ _)); exact BK319.out)) : gb320 ≠ gb319)); clear BK318; clear BK319; clear HB; have BK318 := n0_; have BK319 := n1_; have HB := n2_; have BK320 := n3_; have GW320 := n4_; have GE320 := n5_; have NB318_320 := n6_; have NB320_318 := n7_; have NB319_320 := n8_; have NB320_319 := n9_; clear n0_ n1_ n2_ n3_ n4_ n5_ n6_ n7_ n8_ n9_; clear hb hbox hg) | ((with_reducible refine gate_dst (N := 7) rfl ?_); refine box_event ?hg (N := 7) ?hd (cs := #[.int .i64 a3_0, .bool a3_1]) (t := 23) ?hr ?_; (case hd => rfl); (case hg => rfl); (case hr => first | (go_simp; done) | (go_simp; rfl)); intro gb321 hg w18 hbox hb; have n0_ := Aside0.mk (blk_below (g := gb318) (o := .cells #[.int .i64 a0_0, .bool a0_1] 23 (0, 0)) (by (with_reducible repeat (first | refine blk_drewN ?_ _ | refine blk_drew ?_ | refine blk_alloc ?_ _)); exact BK318.out) hb); have n1_ := Aside0.mk (blk_below (g := gb319) (o := .cells #[.int .i64 a1_0, .bool a1_1] 23 (0, 0)) (by (with_reducible repeat (first | refine blk_drewN ?_ _ | refine blk_drew ?_ | refine blk_alloc ?_ _)); exact BK319.out) hb); have n2_ := Aside0.mk (blk_below (g := gb320) (o := .cells #[.int .i64 a2_0, .bool a2_1] 23 (0, 0)) (by (with_reducible repeat (first | refine blk_drewN ?_ _ | refine blk_drew ?_ | refine blk_alloc ?_ _)); exact BK320.out) hb); have n3_ := Aside0.mk (below_step (by repeat (first | (with_reducible first | exact HB.out | apply below_alloc | apply pw_below_drewN | apply below_drew1 | refine below_set ?_ GE318.out | refine below_set ?_ GE319.out | refine below_set ?_ GE320.out) | exact HB.out)) hb); have n4_ := Aside0.mk (hbox); have n5_ := Aside0.mk ((by rw [hg]; exact (below_size (by repeat (first | (with_reducible first | exact HB.out | apply below_alloc | apply pw_below_drewN | apply below_drew1 | refine below_set ?_ GE318.out | refine below_set ?_ GE319.out | refine below_set ?_ GE320.out) | exact HB.out))) : w.heap.size ≤ gb321)); have n6_ := Aside0.mk ((by rw [hg]; exact (below_size (by repeat (first | (with_reducible first | exact HB.out | apply below_alloc | apply pw_below_drewN | apply below_drew1 | refine below_set ?_ GE318.out | refine below_set ?_ GE319.out | refine below_set ?_ GE320.out) | exact HB.out))) : w.heap.size ≤ gb321)); have n7_ := Aside0.mk ((by rw [hg]; exact Nat.ne_of_lt (blk_lt (g := gb318) (o := .cells #[.int .i64 a0_0, .bool a0_1] 23 (0, 0)) (by (with_reducible repeat (first | refine blk_drewN ?_ _ | refine blk_drew ?_ | refine blk_alloc ?_ _)); exact BK318.out)) : gb318 ≠ gb321)); have n8_ := Aside0.mk ((by rw [hg]; exact Nat.ne_of_gt (blk_lt (g := gb318) (o := .cells #[.int .i64 a0_0, .bool a0_1] 23 (0, 0)) (by (with_reducible repeat (first | refine blk_drewN ?_ _ | refine blk_drew ?_ | refine blk_alloc ?_ _)); exact BK318.out)) : gb321 ≠ gb318)); have n9_ := Aside0.mk ((by rw [hg]; exact Nat.ne_of_lt (blk_lt (g := gb319) (o := .cells #[.int .i64 a1_0, .bool a1_1] 23 (0, 0)) (by (with_reducible repeat (first | refine blk_drewN ?_ _ | refine blk_drew ?_ | refine blk_alloc ?_ _)); exact BK319.out)) : gb319 ≠ gb321)); have n10_ := Aside0.mk ((by rw [hg]; exact Nat.ne_of_gt (blk_lt (g := gb319) (o := .cells #[.int .i64 a1_0, .bool a1_1] 23 (0, 0)) (by (with_reducible repeat (first | refine blk_drewN ?_ _ | refine blk_drew ?_ | refine blk_alloc ?_ _)); exact BK319.out)) : gb321 ≠ gb319)); have n11_ := Aside0.mk ((by rw [hg]; exact Nat.ne_of_lt (blk_lt (g := gb320) (o := .cells #[.int .i64 a2_0, .bool a2_1] 23 (0, 0)) (by (with_reducible repeat (first | refine blk_drewN ?_ _ | refine blk_drew ?_ | refine blk_alloc ?_ _)); exact BK320.out)) : gb320 ≠ gb321)); have n12_ := Aside0.mk ((by rw [hg]; exact Nat.ne_of_gt (blk_lt (g := gb320) (o := .cells #[.int .i64 a2_0, .bool a2_1] 23 (0, 0)) (by (with_reducible repeat (first | refine blk_drewN ?_ _ | refine blk_drew ?_ | refine blk_alloc ?_ _)); exact BK320.out)) : gb321 ≠ gb320)); clear BK318; clear BK319; clear BK320; clear HB; have BK318 := n0_; have BK319 := n1_; have BK320 := n2_; have HB := n3_; have BK321 := n4_; have GW321 := n5_; have GE321 := n6_; have NB318_321 := n7_; have NB321_318 := n8_; have NB319_321 := n9_; have NB321_319 := n10_; have NB320_321 := n11_; have NB321_320 := n12_; clear n0_ n1_ n2_ n3_ n4_ n5_ n6_ n7_ n8_ n9_ n10_ n11_ n12_; clear hb hbox hg) | ((with_reducible refine gate_dst (N := 8) rfl ?_); refine box_event ?hg (N := 8) ?hd (cs := #[.int .i64 0, .bool false]) (t := 23) ?hr ?_; (case hd => rfl); (case hg => rfl); (case hr => first | (go_simp; done) | (go_simp; rfl)); intro gb322 hg w19 hbox hb; have n0_ := Aside0.mk (blk_below (g := gb318) (o := .cells #[.int .i64 a0_0, .bool a0_1] 23 (0, 0)) (by (with_reducible repeat (first | refine blk_drewN ?_ _ | refine blk_drew ?_ | refine blk_alloc ?_ _)); exact BK318.out) hb); have n1_ := Aside0.mk (blk_below (g := gb319) (o := .cells #[.int .i64 a1_0, .bool a1_1] 23 (0, 0)) (by (with_reducible repeat (first | refine blk_drewN ?_ _ | refine blk_drew ?_ | refine blk_alloc ?_ _)); exact BK319.out) hb); have n2_ := Aside0.mk (blk_below (g := gb320) (o := .cells #[.int .i64 a2_0, .bool a2_1] 23 (0, 0)) (by (with_reducible repeat (first | refine blk_drewN ?_ _ | refine blk_drew ?_ | refine blk_alloc ?_ _)); exact BK320.out) hb); have n3_ := Aside0.mk (blk_below (g := gb321) (o := .cells #[.int .i64 a3_0, .bool a3_1] 23 (0, 0)) (by (with_reducible repeat (first | refine blk_drewN ?_ _ | refine blk_drew ?_ | refine blk_alloc ?_ _)); exact BK321.out) hb); have n4_ := Aside0.mk (below_step (by repeat (first | (with_reducible first | exact HB.out | apply below_alloc | apply pw_below_drewN | apply below_drew1 | refine below_set ?_ GE318.out | refine below_set ?_ GE319.out | refine below_set ?_ GE320.out | refine below_set ?_ GE321.out) | exact HB.out)) hb); have n5_ := Aside0.mk (hbox); have n6_ := Aside0.mk ((by rw [hg]; exact (below_size (by repeat (first | (with_reducible first | exact HB.out | apply below_alloc | apply pw_below_drewN | apply below_drew1 | refine below_set ?_ GE318.out | refine below_set ?_ GE319.out | refine below_set ?_ GE320.out | refine below_set ?_ GE321.out) | exact HB.out))) : w.heap.size ≤ gb322)); have n7_ := Aside0.mk ((by rw [hg]; exact (below_size (by repeat (first | (with_reducible first | exact HB.out | apply below_alloc | apply pw_below_drewN | apply below_drew1 | refine below_set ?_ GE318.out | refine below_set ?_ GE319.out | refine below_set ?_ GE320.out | refine below_set ?_ GE321.out) | exact HB.out))) : w.heap.size ≤ gb322)); have n8_ := Aside0.mk ((by rw [hg]; exact Nat.ne_of_lt (blk_lt (g := gb318) (o := .cells #[.int .i64 a0_0, .bool a0_1] 23 (0, 0)) (by (with_reducible repeat (first | refine blk_drewN ?_ _ | refine blk_drew ?_ | refine blk_alloc ?_ _)); exact BK318.out)) : gb318 ≠ gb322)); have n9_ := Aside0.mk ((by rw [hg]; exact Nat.ne_of_gt (blk_lt (g := gb318) (o := .cells #[.int .i64 a0_0, .bool a0_1] 23 (0, 0)) (by (with_reducible repeat (first | refine blk_drewN ?_ _ | refine blk_drew ?_ | refine blk_alloc ?_ _)); exact BK318.out)) : gb322 ≠ gb318)); have n10_ := Aside0.mk ((by rw [hg]; exact Nat.ne_of_lt (blk_lt (g := gb319) (o := .cells #[.int .i64 a1_0, .bool a1_1] 23 (0, 0)) (by (with_reducible repeat (first | refine blk_drewN ?_ _ | refine blk_drew ?_ | refine blk_alloc ?_ _)); exact BK319.out)) : gb319 ≠ gb322)); have n11_ := Aside0.mk ((by rw [hg]; exact Nat.ne_of_gt (blk_lt (g := gb319) (o := .cells #[.int .i64 a1_0, .bool a1_1] 23 (0, 0)) (by (with_reducible repeat (first | refine blk_drewN ?_ _ | refine blk_drew ?_ | refine blk_alloc ?_ _)); exact BK319.out)) : gb322 ≠ gb319)); have n12_ := Aside0.mk ((by rw [hg]; exact Nat.ne_of_lt (blk_lt (g := gb320) (o := .cells #[.int .i64 a2_0, .bool a2_1] 23 (0, 0)) (by (with_reducible repeat (first | refine blk_drewN ?_ _ | refine blk_drew ?_ | refine blk_alloc ?_ _)); exact BK320.out)) : gb320 ≠ gb322)); have n13_ := Aside0.mk ((by rw [hg]; exact Nat.ne_of_gt (blk_lt (g := gb320) (o := .cells #[.int .i64 a2_0, .bool a2_1] 23 (0, 0)) (by (with_reducible repeat (first | refine blk_drewN ?_ _ | refine blk_drew ?_ | refine blk_alloc ?_ _)); exact BK320.out)) : gb322 ≠ gb320)); have n14_ := Aside0.mk ((by rw [hg]; exact Nat.ne_of_lt (blk_lt (g := gb321) (o := .cells #[.int .i64 a3_0, .bool a3_1] 23 (0, 0)) (by (with_reducible repeat (first | refine blk_drewN ?_ _ | refine blk_drew ?_ | refine blk_alloc ?_ _)); exact BK321.out)) : gb321 ≠ gb322)); have n15_ := Aside0.mk ((by rw [hg]; exact Nat.ne_of_gt (blk_lt (g := gb321) (o := .cells #[.int .i64 a3_0, .bool a3_1] 23 (0, 0)) (by (with_reducible repeat (first | refine blk_drewN ?_ _ | refine blk_drew ?_ | refine blk_alloc ?_ _)); exact BK321.out)) : gb322 ≠ gb321)); clear BK318; clear BK319; clear BK320; clear BK321; clear HB; have BK318 := n0_; have BK319 := n1_; have BK320 := n2_; have BK321 := n3_; have HB := n4_; have BK322 := n5_; have GW322 := n6_; have GE322 := n7_; have NB318_322 := n8_; have NB322_318 := n9_; have NB319_322 := n10_; have NB322_319 := n11_; have NB320_322 := n12_; have NB322_320 := n13_; have NB321_322 := n14_; have NB322_321 := n15_; clear n0_ n1_ n2_ n3_ n4_ n5_ n6_ n7_ n8_ n9_ n10_ n11_ n12_ n13_ n14_ n15_; clear hb hbox hg))
  have n0_ := Aside0.mk (blk_drew BK318.out)
  have n1_ := Aside0.mk (blk_drew BK319.out)
  have n2_ := Aside0.mk (blk_drew BK320.out)
  have n3_ := Aside0.mk (blk_drew BK321.out)
  have n4_ := Aside0.mk (blk_drew BK322.out)
  have n5_ := Aside0.mk (below_drew1 HB.out)
  clear BK318
  clear BK319
  clear BK320
  clear BK321
  clear BK322
  clear HB
  have BK318 := n0_
  have BK319 := n1_
  have BK320 := n2_
  have BK321 := n3_
  have BK322 := n4_
  have HB := n5_
  clear n0_ n1_ n2_ n3_ n4_ n5_
  refine start_ (n := 12) (S := fun w' => w'.cell? ⟨gb318, 0, none⟩ = some (.int .i64 a0_0) ∧ w'.cell? ⟨gb318, 1, none⟩ = some (.bool a0_1) ∧ w'.cell? ⟨gb319, 0, none⟩ = some (.int .i64 a1_0) ∧ w'.cell? ⟨gb319, 1, none⟩ = some (.bool a1_1) ∧ w'.cell? ⟨gb320, 0, none⟩ = some (.int .i64 a2_0) ∧ w'.cell? ⟨gb320, 1, none⟩ = some (.bool a2_1) ∧ w'.cell? ⟨gb321, 0, none⟩ = some (.int .i64 a3_0) ∧ w'.cell? ⟨gb321, 1, none⟩ = some (.bool a3_1)) (ds := [8, 9, 10, 11]) #[false, false, false, false, false, false, false, false, false, false, false, false] (by kernel_rfl) rfl rfl ⟨(blk_cell BK318.out 0).trans rfl, (blk_cell BK318.out 1).trans rfl, (blk_cell BK319.out 0).trans rfl, (blk_cell BK319.out 1).trans rfl, (blk_cell BK320.out 0).trans rfl, (blk_cell BK320.out 1).trans rfl, (blk_cell BK321.out 0).trans rfl, (blk_cell BK321.out 1).trans rfl⟩ (fun hHeld => ?_); refine with_tabW fixed_Dot.tab1 fixed_Dot.bits1 (fun HT_ HW_ => ?_)
  generalize w19.drew = w20 at BK318 BK319 BK320 BK321 BK322 HB hHeld ⊢
  refine take_ (i := 0) (N := some 9) (v := ?_) (a' := ?_) #[true, false, false, false, false, false, false, false, false, false, false, false] rfl rfl (take_ofW HT_.out HW_.out (by kernel_rfl)) (fun _ _ _ h => h) (Or.inl ⟨by rfl, ?_⟩) hHeld ?_ ?_
  rotate_left
  · rintro w' ⟨s0, s1, s2, s3, s4, s5, s6, s7⟩
    go_simp
    with_reducible rfl
  rotate_left
  · simp only [Act.put, List.setIfInBounds_toArray, List.set_cons_zero, List.set_cons_succ, i64_w, i32_w]
    rfl
  refine take_ (i := 2) (N := some 11) (v := ?_) (a' := ?_) #[true, false, true, false, false, false, false, false, false, false, false, false] rfl rfl (take_ofW HT_.out HW_.out (by kernel_rfl)) (fun _ _ _ h => h) (Or.inl ⟨by rfl, ?_⟩) hHeld ?_ ?_
  rotate_left
  · rintro w' ⟨s0, s1, s2, s3, s4, s5, s6, s7⟩
    go_simp
    with_reducible rfl
  rotate_left
  · simp only [Act.put, List.setIfInBounds_toArray, List.set_cons_zero, List.set_cons_succ, i64_w, i32_w]
    rfl
  refine take_ (i := 4) (N := some 13) (v := ?_) (a' := ?_) #[true, false, true, false, true, false, false, false, false, false, false, false] rfl rfl (take_ofW HT_.out HW_.out (by kernel_rfl)) (fun _ _ _ h => h) (Or.inl ⟨by rfl, ?_⟩) hHeld ?_ ?_
  rotate_left
  · rintro w' ⟨s0, s1, s2, s3, s4, s5, s6, s7⟩
    go_simp
    with_reducible rfl
  rotate_left
  · simp only [Act.put, List.setIfInBounds_toArray, List.set_cons_zero, List.set_cons_succ, i64_w, i32_w]
    rfl
  refine take_ (i := 6) (N := some 15) (v := ?_) (a' := ?_) #[true, false, true, false, true, false, true, false, false, false, false, false] rfl rfl (take_ofW HT_.out HW_.out (by kernel_rfl)) (fun _ _ _ h => h) (Or.inl ⟨by rfl, ?_⟩) hHeld ?_ ?_
  rotate_left
  · rintro w' ⟨s0, s1, s2, s3, s4, s5, s6, s7⟩
    go_simp
    with_reducible rfl
  rotate_left
  · simp only [Act.put, List.setIfInBounds_toArray, List.set_cons_zero, List.set_cons_succ, i64_w, i32_w]
    rfl
  refine one_ (i := 1) (N := some 10) #[true, true, true, false, true, false, true, false, false, false, false, false] rfl rfl (one_of HT_.out (by kernel_rfl)) (by decide) (fun K hK => ?_)
  refine goes_ Try.func72 (by kernel_rfl) rfl #[.agg #[.int .i64 a0_0, .bool a0_1]] (by rfl) rfl rfl (by (try simp only [List.map_toArray, List.map_cons, List.map_nil]); first | done | rfl | (simp only [List.length_drop, List.length_take]; rfl)) ?_
  with_reducible refine (fixed_sound.calls a0_0 a0_1 t323 t324 _ A5.out).mono ?_
  rintro e w21 ⟨rfl, hb⟩
  refine ⟨_, rfl, ?_⟩
  have n0_ := Aside0.mk (blk_below (g := gb318) (o := .cells #[.int .i64 a0_0, .bool a0_1] 23 (0, 0)) (by (with_reducible repeat (first | refine blk_drewN ?_ _ | refine blk_drew ?_ | refine blk_alloc ?_ _)); exact BK318.out) hb)
  have n1_ := Aside0.mk (blk_below (g := gb319) (o := .cells #[.int .i64 a1_0, .bool a1_1] 23 (0, 0)) (by (with_reducible repeat (first | refine blk_drewN ?_ _ | refine blk_drew ?_ | refine blk_alloc ?_ _)); exact BK319.out) hb)
  have n2_ := Aside0.mk (blk_below (g := gb320) (o := .cells #[.int .i64 a2_0, .bool a2_1] 23 (0, 0)) (by (with_reducible repeat (first | refine blk_drewN ?_ _ | refine blk_drew ?_ | refine blk_alloc ?_ _)); exact BK320.out) hb)
  have n3_ := Aside0.mk (blk_below (g := gb321) (o := .cells #[.int .i64 a3_0, .bool a3_1] 23 (0, 0)) (by (with_reducible repeat (first | refine blk_drewN ?_ _ | refine blk_drew ?_ | refine blk_alloc ?_ _)); exact BK321.out) hb)
  have n4_ := Aside0.mk (blk_below (g := gb322) (o := .cells #[.int .i64 0, .bool false] 23 (0, 0)) (by (with_reducible repeat (first | refine blk_drewN ?_ _ | refine blk_drew ?_ | refine blk_alloc ?_ _)); exact BK322.out) hb)
  have n5_ := Aside0.mk (below_step (by repeat (first | (with_reducible first | exact HB.out | apply below_alloc | apply pw_below_drewN | apply below_drew1 | refine below_set ?_ GE318.out | refine below_set ?_ GE319.out | refine below_set ?_ GE320.out | refine below_set ?_ GE321.out | refine below_set ?_ GE322.out) | exact HB.out)) hb)
  clear BK318
  clear BK319
  clear BK320
  clear BK321
  clear BK322
  clear HB
  have BK318 := n0_
  have BK319 := n1_
  have BK320 := n2_
  have BK321 := n3_
  have BK322 := n4_
  have HB := n5_
  clear n0_ n1_ n2_ n3_ n4_ n5_
  (try clear hb)
  (try clear hb2)
  (try clear hk)
  (try clear hi)
  refine hK.out _ _ ⟨(blk_cell BK318.out 0).trans rfl, (blk_cell BK318.out 1).trans rfl, (blk_cell BK319.out 0).trans rfl, (blk_cell BK319.out 1).trans rfl, (blk_cell BK320.out 0).trans rfl, (blk_cell BK320.out 1).trans rfl, (blk_cell BK321.out 0).trans rfl, (blk_cell BK321.out 1).trans rfl⟩ (fun hHeld => ?_)
  clear hK K
  refine norm_ (a' := ?_) ?_ ?_
  rotate_left
  · show Act.put _ (some 10) _ = _
    simp only [Act.put, List.setIfInBounds_toArray, List.set_cons_zero, List.set_cons_succ, i64_w, i32_w]
    rfl
  refine one_ (i := 3) (N := some 12) #[true, true, true, true, true, false, true, false, false, false, false, false] rfl rfl (one_of HT_.out (by kernel_rfl)) (by decide) (fun K hK => ?_)
  refine goes_ Try.func72 (by kernel_rfl) rfl #[.agg #[.int .i64 a1_0, .bool a1_1]] (by rfl) rfl rfl (by (try simp only [List.map_toArray, List.map_cons, List.map_nil]); first | done | rfl | (simp only [List.length_drop, List.length_take]; rfl)) ?_
  with_reducible refine (fixed_sound.calls a1_0 a1_1 t325 t326 _ A6.out).mono ?_
  rintro e w22 ⟨rfl, hb⟩
  refine ⟨_, rfl, ?_⟩
  have n0_ := Aside0.mk (blk_below (g := gb318) (o := .cells #[.int .i64 a0_0, .bool a0_1] 23 (0, 0)) (by (with_reducible repeat (first | refine blk_drewN ?_ _ | refine blk_drew ?_ | refine blk_alloc ?_ _)); exact BK318.out) hb)
  have n1_ := Aside0.mk (blk_below (g := gb319) (o := .cells #[.int .i64 a1_0, .bool a1_1] 23 (0, 0)) (by (with_reducible repeat (first | refine blk_drewN ?_ _ | refine blk_drew ?_ | refine blk_alloc ?_ _)); exact BK319.out) hb)
  have n2_ := Aside0.mk (blk_below (g := gb320) (o := .cells #[.int .i64 a2_0, .bool a2_1] 23 (0, 0)) (by (with_reducible repeat (first | refine blk_drewN ?_ _ | refine blk_drew ?_ | refine blk_alloc ?_ _)); exact BK320.out) hb)
  have n3_ := Aside0.mk (blk_below (g := gb321) (o := .cells #[.int .i64 a3_0, .bool a3_1] 23 (0, 0)) (by (with_reducible repeat (first | refine blk_drewN ?_ _ | refine blk_drew ?_ | refine blk_alloc ?_ _)); exact BK321.out) hb)
  have n4_ := Aside0.mk (blk_below (g := gb322) (o := .cells #[.int .i64 0, .bool false] 23 (0, 0)) (by (with_reducible repeat (first | refine blk_drewN ?_ _ | refine blk_drew ?_ | refine blk_alloc ?_ _)); exact BK322.out) hb)
  have n5_ := Aside0.mk (below_step (by repeat (first | (with_reducible first | exact HB.out | apply below_alloc | apply pw_below_drewN | apply below_drew1 | refine below_set ?_ GE318.out | refine below_set ?_ GE319.out | refine below_set ?_ GE320.out | refine below_set ?_ GE321.out | refine below_set ?_ GE322.out) | exact HB.out)) hb)
  clear BK318
  clear BK319
  clear BK320
  clear BK321
  clear BK322
  clear HB
  have BK318 := n0_
  have BK319 := n1_
  have BK320 := n2_
  have BK321 := n3_
  have BK322 := n4_
  have HB := n5_
  clear n0_ n1_ n2_ n3_ n4_ n5_
  (try clear hb)
  (try clear hb2)
  (try clear hk)
  (try clear hi)
  refine hK.out _ _ ⟨(blk_cell BK318.out 0).trans rfl, (blk_cell BK318.out 1).trans rfl, (blk_cell BK319.out 0).trans rfl, (blk_cell BK319.out 1).trans rfl, (blk_cell BK320.out 0).trans rfl, (blk_cell BK320.out 1).trans rfl, (blk_cell BK321.out 0).trans rfl, (blk_cell BK321.out 1).trans rfl⟩ (fun hHeld => ?_)
  clear hK K
  refine norm_ (a' := ?_) ?_ ?_
  rotate_left
  · show Act.put _ (some 12) _ = _
    simp only [Act.put, List.setIfInBounds_toArray, List.set_cons_zero, List.set_cons_succ, i64_w, i32_w]
    rfl
  refine one_ (i := 5) (N := some 14) #[true, true, true, true, true, true, true, false, false, false, false, false] rfl rfl (one_of HT_.out (by kernel_rfl)) (by decide) (fun K hK => ?_)
  refine goes_ Try.func72 (by kernel_rfl) rfl #[.agg #[.int .i64 a2_0, .bool a2_1]] (by rfl) rfl rfl (by (try simp only [List.map_toArray, List.map_cons, List.map_nil]); first | done | rfl | (simp only [List.length_drop, List.length_take]; rfl)) ?_
  with_reducible refine (fixed_sound.calls a2_0 a2_1 t327 t328 _ A7.out).mono ?_
  rintro e w23 ⟨rfl, hb⟩
  refine ⟨_, rfl, ?_⟩
  have n0_ := Aside0.mk (blk_below (g := gb318) (o := .cells #[.int .i64 a0_0, .bool a0_1] 23 (0, 0)) (by (with_reducible repeat (first | refine blk_drewN ?_ _ | refine blk_drew ?_ | refine blk_alloc ?_ _)); exact BK318.out) hb)
  have n1_ := Aside0.mk (blk_below (g := gb319) (o := .cells #[.int .i64 a1_0, .bool a1_1] 23 (0, 0)) (by (with_reducible repeat (first | refine blk_drewN ?_ _ | refine blk_drew ?_ | refine blk_alloc ?_ _)); exact BK319.out) hb)
  have n2_ := Aside0.mk (blk_below (g := gb320) (o := .cells #[.int .i64 a2_0, .bool a2_1] 23 (0, 0)) (by (with_reducible repeat (first | refine blk_drewN ?_ _ | refine blk_drew ?_ | refine blk_alloc ?_ _)); exact BK320.out) hb)
  have n3_ := Aside0.mk (blk_below (g := gb321) (o := .cells #[.int .i64 a3_0, .bool a3_1] 23 (0, 0)) (by (with_reducible repeat (first | refine blk_drewN ?_ _ | refine blk_drew ?_ | refine blk_alloc ?_ _)); exact BK321.out) hb)
  have n4_ := Aside0.mk (blk_below (g := gb322) (o := .cells #[.int .i64 0, .bool false] 23 (0, 0)) (by (with_reducible repeat (first | refine blk_drewN ?_ _ | refine blk_drew ?_ | refine blk_alloc ?_ _)); exact BK322.out) hb)
  have n5_ := Aside0.mk (below_step (by repeat (first | (with_reducible first | exact HB.out | apply below_alloc | apply pw_below_drewN | apply below_drew1 | refine below_set ?_ GE318.out | refine below_set ?_ GE319.out | refine below_set ?_ GE320.out | refine below_set ?_ GE321.out | refine below_set ?_ GE322.out) | exact HB.out)) hb)
  clear BK318
  clear BK319
  clear BK320
  clear BK321
  clear BK322
  clear HB
  have BK318 := n0_
  have BK319 := n1_
  have BK320 := n2_
  have BK321 := n3_
  have BK322 := n4_
  have HB := n5_
  clear n0_ n1_ n2_ n3_ n4_ n5_
  (try clear hb)
  (try clear hb2)
  (try clear hk)
  (try clear hi)
  refine hK.out _ _ ⟨(blk_cell BK318.out 0).trans rfl, (blk_cell BK318.out 1).trans rfl, (blk_cell BK319.out 0).trans rfl, (blk_cell BK319.out 1).trans rfl, (blk_cell BK320.out 0).trans rfl, (blk_cell BK320.out 1).trans rfl, (blk_cell BK321.out 0).trans rfl, (blk_cell BK321.out 1).trans rfl⟩ (fun hHeld => ?_)
  clear hK K
  refine norm_ (a' := ?_) ?_ ?_
  rotate_left
  · show Act.put _ (some 14) _ = _
    simp only [Act.put, List.setIfInBounds_toArray, List.set_cons_zero, List.set_cons_succ, i64_w, i32_w]
    rfl
  refine one_ (i := 7) (N := some 16) #[true, true, true, true, true, true, true, true, false, false, false, false] rfl rfl (one_of HT_.out (by kernel_rfl)) (by decide) (fun K hK => ?_)
  refine goes_ Try.func72 (by kernel_rfl) rfl #[.agg #[.int .i64 a3_0, .bool a3_1]] (by rfl) rfl rfl (by (try simp only [List.map_toArray, List.map_cons, List.map_nil]); first | done | rfl | (simp only [List.length_drop, List.length_take]; rfl)) ?_
  with_reducible refine (fixed_sound.calls a3_0 a3_1 t329 t330 _ A8.out).mono ?_
  rintro e w24 ⟨rfl, hb⟩
  refine ⟨_, rfl, ?_⟩
  have n0_ := Aside0.mk (blk_below (g := gb318) (o := .cells #[.int .i64 a0_0, .bool a0_1] 23 (0, 0)) (by (with_reducible repeat (first | refine blk_drewN ?_ _ | refine blk_drew ?_ | refine blk_alloc ?_ _)); exact BK318.out) hb)
  have n1_ := Aside0.mk (blk_below (g := gb319) (o := .cells #[.int .i64 a1_0, .bool a1_1] 23 (0, 0)) (by (with_reducible repeat (first | refine blk_drewN ?_ _ | refine blk_drew ?_ | refine blk_alloc ?_ _)); exact BK319.out) hb)
  have n2_ := Aside0.mk (blk_below (g := gb320) (o := .cells #[.int .i64 a2_0, .bool a2_1] 23 (0, 0)) (by (with_reducible repeat (first | refine blk_drewN ?_ _ | refine blk_drew ?_ | refine blk_alloc ?_ _)); exact BK320.out) hb)
  have n3_ := Aside0.mk (blk_below (g := gb321) (o := .cells #[.int .i64 a3_0, .bool a3_1] 23 (0, 0)) (by (with_reducible repeat (first | refine blk_drewN ?_ _ | refine blk_drew ?_ | refine blk_alloc ?_ _)); exact BK321.out) hb)
  have n4_ := Aside0.mk (blk_below (g := gb322) (o := .cells #[.int .i64 0, .bool false] 23 (0, 0)) (by (with_reducible repeat (first | refine blk_drewN ?_ _ | refine blk_drew ?_ | refine blk_alloc ?_ _)); exact BK322.out) hb)
  have n5_ := Aside0.mk (below_step (by repeat (first | (with_reducible first | exact HB.out | apply below_alloc | apply pw_below_drewN | apply below_drew1 | refine below_set ?_ GE318.out | refine below_set ?_ GE319.out | refine below_set ?_ GE320.out | refine below_set ?_ GE321.out | refine below_set ?_ GE322.out) | exact HB.out)) hb)
  clear BK318
  clear BK319
  clear BK320
  clear BK321
  clear BK322
  clear HB
  have BK318 := n0_
  have BK319 := n1_
  have BK320 := n2_
  have BK321 := n3_
  have BK322 := n4_
  have HB := n5_
  clear n0_ n1_ n2_ n3_ n4_ n5_
  (try clear hb)
  (try clear hb2)
  (try clear hk)
  (try clear hi)
  refine hK.out _ _ ⟨(blk_cell BK318.out 0).trans rfl, (blk_cell BK318.out 1).trans rfl, (blk_cell BK319.out 0).trans rfl, (blk_cell BK319.out 1).trans rfl, (blk_cell BK320.out 0).trans rfl, (blk_cell BK320.out 1).trans rfl, (blk_cell BK321.out 0).trans rfl, (blk_cell BK321.out 1).trans rfl⟩ (fun hHeld => ?_)
  clear hK K
  refine norm_ (a' := ?_) ?_ ?_
  rotate_left
  · show Act.put _ (some 16) _ = _
    simp only [Act.put, List.setIfInBounds_toArray, List.set_cons_zero, List.set_cons_succ, i64_w, i32_w]
    rfl
  refine last_ (i := 8) (N := none) #[true, true, true, true, true, true, true, true, true, false, false, false] rfl rfl (one_of HT_.out (by kernel_rfl)) (by decide) (fun K hK => ?_)
  have hs25 : w24.cell? ⟨gb318, 0, none⟩ = some (.int .i64 a0_0) := (blk_cell BK318.out 0).trans rfl
  have hfs25 := blk_frozen BK318.out 0
  have hns25_1 := NB319_318.out
  have hns25_2 := NB320_318.out
  have hns25_3 := NB321_318.out
  have hns25_4 := NB322_318.out
  have hms25_1 := NB318_319.out
  have hms25_2 := NB318_320.out
  have hms25_3 := NB318_321.out
  have hms25_4 := NB318_322.out
  have hs26 : w24.cell? ⟨gb318, 1, none⟩ = some (.bool a0_1) := (blk_cell BK318.out 1).trans rfl
  have hfs26 := blk_frozen BK318.out 1
  have hns26_1 := NB319_318.out
  have hns26_2 := NB320_318.out
  have hns26_3 := NB321_318.out
  have hns26_4 := NB322_318.out
  have hms26_1 := NB318_319.out
  have hms26_2 := NB318_320.out
  have hms26_3 := NB318_321.out
  have hms26_4 := NB318_322.out
  refine skip_ (w1 := ?_) (by rfl) rfl ?_ ?_
  rotate_left
  · go_simp
    rfl
  refine hK.out _ _ ?_
  clear hK K
  refine last_ (i := 9) (N := none) #[true, true, true, true, true, true, true, true, true, true, false, false] rfl rfl (one_of HT_.out (by kernel_rfl)) (by decide) (fun K hK => ?_)
  have hs27 : w24.cell? ⟨gb319, 0, none⟩ = some (.int .i64 a1_0) := (blk_cell BK319.out 0).trans rfl
  have hfs27 := blk_frozen BK319.out 0
  have hns27_0 := NB318_319.out
  have hns27_2 := NB320_319.out
  have hns27_3 := NB321_319.out
  have hns27_4 := NB322_319.out
  have hms27_0 := NB319_318.out
  have hms27_2 := NB319_320.out
  have hms27_3 := NB319_321.out
  have hms27_4 := NB319_322.out
  have hs28 : w24.cell? ⟨gb319, 1, none⟩ = some (.bool a1_1) := (blk_cell BK319.out 1).trans rfl
  have hfs28 := blk_frozen BK319.out 1
  have hns28_0 := NB318_319.out
  have hns28_2 := NB320_319.out
  have hns28_3 := NB321_319.out
  have hns28_4 := NB322_319.out
  have hms28_0 := NB319_318.out
  have hms28_2 := NB319_320.out
  have hms28_3 := NB319_321.out
  have hms28_4 := NB319_322.out
  refine skip_ (w1 := ?_) (by rfl) rfl ?_ ?_
  rotate_left
  · go_simp
    rfl
  refine hK.out _ _ ?_
  clear hK K
  refine last_ (i := 10) (N := none) #[true, true, true, true, true, true, true, true, true, true, true, false] rfl rfl (one_of HT_.out (by kernel_rfl)) (by decide) (fun K hK => ?_)
  have hs29 : w24.cell? ⟨gb320, 0, none⟩ = some (.int .i64 a2_0) := (blk_cell BK320.out 0).trans rfl
  have hfs29 := blk_frozen BK320.out 0
  have hns29_0 := NB318_320.out
  have hns29_1 := NB319_320.out
  have hns29_3 := NB321_320.out
  have hns29_4 := NB322_320.out
  have hms29_0 := NB320_318.out
  have hms29_1 := NB320_319.out
  have hms29_3 := NB320_321.out
  have hms29_4 := NB320_322.out
  have hs30 : w24.cell? ⟨gb320, 1, none⟩ = some (.bool a2_1) := (blk_cell BK320.out 1).trans rfl
  have hfs30 := blk_frozen BK320.out 1
  have hns30_0 := NB318_320.out
  have hns30_1 := NB319_320.out
  have hns30_3 := NB321_320.out
  have hns30_4 := NB322_320.out
  have hms30_0 := NB320_318.out
  have hms30_1 := NB320_319.out
  have hms30_3 := NB320_321.out
  have hms30_4 := NB320_322.out
  refine skip_ (w1 := ?_) (by rfl) rfl ?_ ?_
  rotate_left
  · go_simp
    rfl
  refine hK.out _ _ ?_
  clear hK K
  refine last_ (i := 11) (N := none) #[true, true, true, true, true, true, true, true, true, true, true, true] rfl rfl (one_of HT_.out (by kernel_rfl)) (by decide) (fun K hK => ?_)
  have hs31 : w24.cell? ⟨gb321, 0, none⟩ = some (.int .i64 a3_0) := (blk_cell BK321.out 0).trans rfl
  have hfs31 := blk_frozen BK321.out 0
  have hns31_0 := NB318_321.out
  have hns31_1 := NB319_321.out
  have hns31_2 := NB320_321.out
  have hns31_4 := NB322_321.out
  have hms31_0 := NB321_318.out
  have hms31_1 := NB321_319.out
  have hms31_2 := NB321_320.out
  have hms31_4 := NB321_322.out
  have hs32 : w24.cell? ⟨gb321, 1, none⟩ = some (.bool a3_1) := (blk_cell BK321.out 1).trans rfl
  have hfs32 := blk_frozen BK321.out 1
  have hns32_0 := NB318_321.out
  have hns32_1 := NB319_321.out
  have hns32_2 := NB320_321.out
  have hns32_4 := NB322_321.out
  have hms32_0 := NB321_318.out
  have hms32_1 := NB321_319.out
  have hms32_2 := NB321_320.out
  have hms32_4 := NB321_322.out
  refine skip_ (w1 := ?_) (by rfl) rfl ?_ ?_
  rotate_left
  · go_simp
    rfl
  refine hK.out _ _ ?_
  clear hK K
  refine done_ (done_of HT_.out (by kernel_rfl)) ?_
  try go_wp2
  have n0_ : Aside0 (((((((((w24.setCell ⟨gb318, 0, none⟩ (.int .i64 t323)).setCell ⟨gb318, 1, none⟩ (.bool t324)).setCell ⟨gb319, 0, none⟩ (.int .i64 t325)).setCell ⟨gb319, 1, none⟩ (.bool t326)).setCell ⟨gb320, 0, none⟩ (.int .i64 t327)).setCell ⟨gb320, 1, none⟩ (.bool t328)).setCell ⟨gb321, 0, none⟩ (.int .i64 t329)).setCell ⟨gb321, 1, none⟩ (.bool t330)).heap[gb318]? = some (.cells #[.int .i64 t323, .bool t324] 23 (0, 0))) := ⟨by (with_reducible repeat (first | refine blk_drewN ?_ _ | refine blk_drew ?_ | refine blk_alloc ?_ _)); refine blk_far ?_ NB318_321.out _; (with_reducible repeat (first | refine blk_drewN ?_ _ | refine blk_drew ?_ | refine blk_alloc ?_ _)); refine blk_far ?_ NB318_321.out _; (with_reducible repeat (first | refine blk_drewN ?_ _ | refine blk_drew ?_ | refine blk_alloc ?_ _)); refine blk_far ?_ NB318_320.out _; (with_reducible repeat (first | refine blk_drewN ?_ _ | refine blk_drew ?_ | refine blk_alloc ?_ _)); refine blk_far ?_ NB318_320.out _; (with_reducible repeat (first | refine blk_drewN ?_ _ | refine blk_drew ?_ | refine blk_alloc ?_ _)); refine blk_far ?_ NB318_319.out _; (with_reducible repeat (first | refine blk_drewN ?_ _ | refine blk_drew ?_ | refine blk_alloc ?_ _)); refine blk_far ?_ NB318_319.out _; (with_reducible repeat (first | refine blk_drewN ?_ _ | refine blk_drew ?_ | refine blk_alloc ?_ _)); refine blk_put (cs := #[.int .i64 t323, .bool a0_1]) ?_ 1 _ rfl; (with_reducible repeat (first | refine blk_drewN ?_ _ | refine blk_drew ?_ | refine blk_alloc ?_ _)); refine blk_put (cs := #[.int .i64 a0_0, .bool a0_1]) ?_ 0 _ rfl; (with_reducible repeat (first | refine blk_drewN ?_ _ | refine blk_drew ?_ | refine blk_alloc ?_ _)); exact BK318.out⟩
  have n1_ : Aside0 (((((((((w24.setCell ⟨gb318, 0, none⟩ (.int .i64 t323)).setCell ⟨gb318, 1, none⟩ (.bool t324)).setCell ⟨gb319, 0, none⟩ (.int .i64 t325)).setCell ⟨gb319, 1, none⟩ (.bool t326)).setCell ⟨gb320, 0, none⟩ (.int .i64 t327)).setCell ⟨gb320, 1, none⟩ (.bool t328)).setCell ⟨gb321, 0, none⟩ (.int .i64 t329)).setCell ⟨gb321, 1, none⟩ (.bool t330)).heap[gb319]? = some (.cells #[.int .i64 t325, .bool t326] 23 (0, 0))) := ⟨by (with_reducible repeat (first | refine blk_drewN ?_ _ | refine blk_drew ?_ | refine blk_alloc ?_ _)); refine blk_far ?_ NB319_321.out _; (with_reducible repeat (first | refine blk_drewN ?_ _ | refine blk_drew ?_ | refine blk_alloc ?_ _)); refine blk_far ?_ NB319_321.out _; (with_reducible repeat (first | refine blk_drewN ?_ _ | refine blk_drew ?_ | refine blk_alloc ?_ _)); refine blk_far ?_ NB319_320.out _; (with_reducible repeat (first | refine blk_drewN ?_ _ | refine blk_drew ?_ | refine blk_alloc ?_ _)); refine blk_far ?_ NB319_320.out _; (with_reducible repeat (first | refine blk_drewN ?_ _ | refine blk_drew ?_ | refine blk_alloc ?_ _)); refine blk_put (cs := #[.int .i64 t325, .bool a1_1]) ?_ 1 _ rfl; (with_reducible repeat (first | refine blk_drewN ?_ _ | refine blk_drew ?_ | refine blk_alloc ?_ _)); refine blk_put (cs := #[.int .i64 a1_0, .bool a1_1]) ?_ 0 _ rfl; (with_reducible repeat (first | refine blk_drewN ?_ _ | refine blk_drew ?_ | refine blk_alloc ?_ _)); refine blk_far ?_ NB319_318.out _; (with_reducible repeat (first | refine blk_drewN ?_ _ | refine blk_drew ?_ | refine blk_alloc ?_ _)); refine blk_far ?_ NB319_318.out _; (with_reducible repeat (first | refine blk_drewN ?_ _ | refine blk_drew ?_ | refine blk_alloc ?_ _)); exact BK319.out⟩
  have n2_ : Aside0 (((((((((w24.setCell ⟨gb318, 0, none⟩ (.int .i64 t323)).setCell ⟨gb318, 1, none⟩ (.bool t324)).setCell ⟨gb319, 0, none⟩ (.int .i64 t325)).setCell ⟨gb319, 1, none⟩ (.bool t326)).setCell ⟨gb320, 0, none⟩ (.int .i64 t327)).setCell ⟨gb320, 1, none⟩ (.bool t328)).setCell ⟨gb321, 0, none⟩ (.int .i64 t329)).setCell ⟨gb321, 1, none⟩ (.bool t330)).heap[gb320]? = some (.cells #[.int .i64 t327, .bool t328] 23 (0, 0))) := ⟨by (with_reducible repeat (first | refine blk_drewN ?_ _ | refine blk_drew ?_ | refine blk_alloc ?_ _)); refine blk_far ?_ NB320_321.out _; (with_reducible repeat (first | refine blk_drewN ?_ _ | refine blk_drew ?_ | refine blk_alloc ?_ _)); refine blk_far ?_ NB320_321.out _; (with_reducible repeat (first | refine blk_drewN ?_ _ | refine blk_drew ?_ | refine blk_alloc ?_ _)); refine blk_put (cs := #[.int .i64 t327, .bool a2_1]) ?_ 1 _ rfl; (with_reducible repeat (first | refine blk_drewN ?_ _ | refine blk_drew ?_ | refine blk_alloc ?_ _)); refine blk_put (cs := #[.int .i64 a2_0, .bool a2_1]) ?_ 0 _ rfl; (with_reducible repeat (first | refine blk_drewN ?_ _ | refine blk_drew ?_ | refine blk_alloc ?_ _)); refine blk_far ?_ NB320_319.out _; (with_reducible repeat (first | refine blk_drewN ?_ _ | refine blk_drew ?_ | refine blk_alloc ?_ _)); refine blk_far ?_ NB320_319.out _; (with_reducible repeat (first | refine blk_drewN ?_ _ | refine blk_drew ?_ | refine blk_alloc ?_ _)); refine blk_far ?_ NB320_318.out _; (with_reducible repeat (first | refine blk_drewN ?_ _ | refine blk_drew ?_ | refine blk_alloc ?_ _)); refine blk_far ?_ NB320_318.out _; (with_reducible repeat (first | refine blk_drewN ?_ _ | refine blk_drew ?_ | refine blk_alloc ?_ _)); exact BK320.out⟩
  have n3_ : Aside0 (((((((((w24.setCell ⟨gb318, 0, none⟩ (.int .i64 t323)).setCell ⟨gb318, 1, none⟩ (.bool t324)).setCell ⟨gb319, 0, none⟩ (.int .i64 t325)).setCell ⟨gb319, 1, none⟩ (.bool t326)).setCell ⟨gb320, 0, none⟩ (.int .i64 t327)).setCell ⟨gb320, 1, none⟩ (.bool t328)).setCell ⟨gb321, 0, none⟩ (.int .i64 t329)).setCell ⟨gb321, 1, none⟩ (.bool t330)).heap[gb321]? = some (.cells #[.int .i64 t329, .bool t330] 23 (0, 0))) := ⟨by (with_reducible repeat (first | refine blk_drewN ?_ _ | refine blk_drew ?_ | refine blk_alloc ?_ _)); refine blk_put (cs := #[.int .i64 t329, .bool a3_1]) ?_ 1 _ rfl; (with_reducible repeat (first | refine blk_drewN ?_ _ | refine blk_drew ?_ | refine blk_alloc ?_ _)); refine blk_put (cs := #[.int .i64 a3_0, .bool a3_1]) ?_ 0 _ rfl; (with_reducible repeat (first | refine blk_drewN ?_ _ | refine blk_drew ?_ | refine blk_alloc ?_ _)); refine blk_far ?_ NB321_320.out _; (with_reducible repeat (first | refine blk_drewN ?_ _ | refine blk_drew ?_ | refine blk_alloc ?_ _)); refine blk_far ?_ NB321_320.out _; (with_reducible repeat (first | refine blk_drewN ?_ _ | refine blk_drew ?_ | refine blk_alloc ?_ _)); refine blk_far ?_ NB321_319.out _; (with_reducible repeat (first | refine blk_drewN ?_ _ | refine blk_drew ?_ | refine blk_alloc ?_ _)); refine blk_far ?_ NB321_319.out _; (with_reducible repeat (first | refine blk_drewN ?_ _ | refine blk_drew ?_ | refine blk_alloc ?_ _)); refine blk_far ?_ NB321_318.out _; (with_reducible repeat (first | refine blk_drewN ?_ _ | refine blk_drew ?_ | refine blk_alloc ?_ _)); refine blk_far ?_ NB321_318.out _; (with_reducible repeat (first | refine blk_drewN ?_ _ | refine blk_drew ?_ | refine blk_alloc ?_ _)); exact BK321.out⟩
  have n4_ : Aside0 (((((((((w24.setCell ⟨gb318, 0, none⟩ (.int .i64 t323)).setCell ⟨gb318, 1, none⟩ (.bool t324)).setCell ⟨gb319, 0, none⟩ (.int .i64 t325)).setCell ⟨gb319, 1, none⟩ (.bool t326)).setCell ⟨gb320, 0, none⟩ (.int .i64 t327)).setCell ⟨gb320, 1, none⟩ (.bool t328)).setCell ⟨gb321, 0, none⟩ (.int .i64 t329)).setCell ⟨gb321, 1, none⟩ (.bool t330)).heap[gb322]? = some (.cells #[.int .i64 0, .bool false] 23 (0, 0))) := ⟨by (with_reducible repeat (first | refine blk_drewN ?_ _ | refine blk_drew ?_ | refine blk_alloc ?_ _)); refine blk_far ?_ NB322_321.out _; (with_reducible repeat (first | refine blk_drewN ?_ _ | refine blk_drew ?_ | refine blk_alloc ?_ _)); refine blk_far ?_ NB322_321.out _; (with_reducible repeat (first | refine blk_drewN ?_ _ | refine blk_drew ?_ | refine blk_alloc ?_ _)); refine blk_far ?_ NB322_320.out _; (with_reducible repeat (first | refine blk_drewN ?_ _ | refine blk_drew ?_ | refine blk_alloc ?_ _)); refine blk_far ?_ NB322_320.out _; (with_reducible repeat (first | refine blk_drewN ?_ _ | refine blk_drew ?_ | refine blk_alloc ?_ _)); refine blk_far ?_ NB322_319.out _; (with_reducible repeat (first | refine blk_drewN ?_ _ | refine blk_drew ?_ | refine blk_alloc ?_ _)); refine blk_far ?_ NB322_319.out _; (with_reducible repeat (first | refine blk_drewN ?_ _ | refine blk_drew ?_ | refine blk_alloc ?_ _)); refine blk_far ?_ NB322_318.out _; (with_reducible repeat (first | refine blk_drewN ?_ _ | refine blk_drew ?_ | refine blk_alloc ?_ _)); refine blk_far ?_ NB322_318.out _; (with_reducible repeat (first | refine blk_drewN ?_ _ | refine blk_drew ?_ | refine blk_alloc ?_ _)); exact BK322.out⟩
  have n5_ : Aside0 (Below w.heap.size w ((((((((w24.setCell ⟨gb318, 0, none⟩ (.int .i64 t323)).setCell ⟨gb318, 1, none⟩ (.bool t324)).setCell ⟨gb319, 0, none⟩ (.int .i64 t325)).setCell ⟨gb319, 1, none⟩ (.bool t326)).setCell ⟨gb320, 0, none⟩ (.int .i64 t327)).setCell ⟨gb320, 1, none⟩ (.bool t328)).setCell ⟨gb321, 0, none⟩ (.int .i64 t329)).setCell ⟨gb321, 1, none⟩ (.bool t330))) := ⟨by repeat (first | (with_reducible first | exact HB.out | apply below_alloc | apply pw_below_drewN | apply below_drew1 | refine below_set ?_ GE318.out | refine below_set ?_ GE319.out | refine below_set ?_ GE320.out | refine below_set ?_ GE321.out | refine below_set ?_ GE322.out) | exact HB.out)⟩
  (try clear BK318)
  (try clear BK319)
  (try clear BK320)
  (try clear BK321)
  (try clear BK322)
  (try clear HB)
  generalize ((((((((w24.setCell ⟨gb318, 0, none⟩ (.int .i64 t323)).setCell ⟨gb318, 1, none⟩ (.bool t324)).setCell ⟨gb319, 0, none⟩ (.int .i64 t325)).setCell ⟨gb319, 1, none⟩ (.bool t326)).setCell ⟨gb320, 0, none⟩ (.int .i64 t327)).setCell ⟨gb320, 1, none⟩ (.bool t328)).setCell ⟨gb321, 0, none⟩ (.int .i64 t329)).setCell ⟨gb321, 1, none⟩ (.bool t330)) = w33 at n0_ n1_ n2_ n3_ n4_ n5_ ⊢
  have BK318 := n0_
  have BK319 := n1_
  have BK320 := n2_
  have BK321 := n3_
  have BK322 := n4_
  have HB := n5_
  clear n0_ n1_ n2_ n3_ n4_ n5_
  have n0_ := Aside0.mk (blk_drew BK318.out)
  have n1_ := Aside0.mk (blk_drew BK319.out)
  have n2_ := Aside0.mk (blk_drew BK320.out)
  have n3_ := Aside0.mk (blk_drew BK321.out)
  have n4_ := Aside0.mk (blk_drew BK322.out)
  have n5_ := Aside0.mk (below_drew1 HB.out)
  clear BK318
  clear BK319
  clear BK320
  clear BK321
  clear BK322
  clear HB
  have BK318 := n0_
  have BK319 := n1_
  have BK320 := n2_
  have BK321 := n3_
  have BK322 := n4_
  have HB := n5_
  clear n0_ n1_ n2_ n3_ n4_ n5_
  refine start_ (n := 20) (S := fun w' => True) (ds := []) #[false, false, false, false, false, false, false, false, false, false, false, false, false, false, false, false, false, false, false, false] (by kernel_rfl) rfl rfl trivial (fun hHeld => ?_); refine with_tabW fixed_Dot.tab2 fixed_Dot.bits2 (fun HT_ HW_ => ?_)
  generalize w33.drew = w34 at BK318 BK319 BK320 BK321 BK322 HB hHeld ⊢
  refine pure_ (i := 0) (N := some 17) (v := ?_) (a' := ?_) #[true, false, false, false, false, false, false, false, false, false, false, false, false, false, false, false, false, false, false, false] rfl rfl (any_of HT_.out (by kernel_rfl)) (fun _ _ _ h => h) (Or.inl ⟨by rfl, ?_⟩) ?_ ?_
  rotate_left
  · intro w'
    go_simp
    with_reducible rfl
  rotate_left
  · simp only [Act.put, List.setIfInBounds_toArray, List.set_cons_zero, List.set_cons_succ, i64_w, i32_w]
    rfl
  refine pure_ (i := 2) (N := some 19) (v := ?_) (a' := ?_) #[true, false, true, false, false, false, false, false, false, false, false, false, false, false, false, false, false, false, false, false] rfl rfl (any_of HT_.out (by kernel_rfl)) (fun _ _ _ h => h) (Or.inl ⟨by rfl, ?_⟩) ?_ ?_
  rotate_left
  · intro w'
    go_simp
    with_reducible rfl
  rotate_left
  · simp only [Act.put, List.setIfInBounds_toArray, List.set_cons_zero, List.set_cons_succ, i64_w, i32_w]
    rfl
  refine pure_ (i := 5) (N := some 22) (v := ?_) (a' := ?_) #[true, false, true, false, false, true, false, false, false, false, false, false, false, false, false, false, false, false, false, false] rfl rfl (any_of HT_.out (by kernel_rfl)) (fun _ _ _ h => h) (Or.inl ⟨by rfl, ?_⟩) ?_ ?_
  rotate_left
  · intro w'
    go_simp
    with_reducible rfl
  rotate_left
  · simp only [Act.put, List.setIfInBounds_toArray, List.set_cons_zero, List.set_cons_succ, i64_w, i32_w]
    rfl
  refine pure_ (i := 7) (N := some 24) (v := ?_) (a' := ?_) #[true, false, true, false, false, true, false, true, false, false, false, false, false, false, false, false, false, false, false, false] rfl rfl (any_of HT_.out (by kernel_rfl)) (fun _ _ _ h => h) (Or.inl ⟨by rfl, ?_⟩) ?_ ?_
  rotate_left
  · intro w'
    go_simp
    with_reducible rfl
  rotate_left
  · simp only [Act.put, List.setIfInBounds_toArray, List.set_cons_zero, List.set_cons_succ, i64_w, i32_w]
    rfl
  refine inv_at [1, 3, 4, 6, 8, 9, 10, 11, 12, 13, 14, 15, 16, 17, 18, 19] (fun a0_ b a w' => ∃ (v344 : Value), a = putSel a0_ b [(1, 18, .int .i64 t323), (3, 20, .int .i64 t325), (4, 21, .agg #[.bool t331, .int .u64 t332, .int .u64 t333]), (6, 23, .int .i64 t327), (8, 25, .int .i64 t329), (9, 26, .agg #[.bool t334, .int .u64 t335, .int .u64 t336]), (10, 27, .agg #[.bool t337, .int .u64 t338, .int .u64 t339]), (11, 28, .agg #[.bool t340, .int .u64 t341, .int .u64 t342]), (12, 29, .agg #[.int .i64 t323, .bool t324]), (13, 30, .agg #[.int .i64 t325, .bool t326]), (14, 31, .agg #[.int .i64 t327, .bool t328]), (15, 32, .agg #[.int .i64 t329, .bool t330]), (16, 33, v344), (17, 34, .bool t346), (18, 35, .agg #[.int .i64 t347, .bool t348])] ∧ (w'.heap[gb318]? = some (.cells #[.int .i64 t323, .bool t324] 23 (0, 0))) ∧ (w'.heap[gb319]? = some (.cells #[.int .i64 t325, .bool t326] 23 (0, 0))) ∧ (w'.heap[gb320]? = some (.cells #[.int .i64 t327, .bool t328] 23 (0, 0))) ∧ (w'.heap[gb321]? = some (.cells #[.int .i64 t329, .bool t330] 23 (0, 0))) ∧ (b 19 = false → w'.heap[gb322]? = some (.cells #[.int .i64 0, .bool false] 23 (0, 0))) ∧ (Below w.heap.size w w') ∧ (b 16 = true → Kd.R k23 23 w' w.heap.size (fun k_ => k_ ≠ gb318 ∧ k_ ≠ gb319 ∧ k_ ≠ gb320 ∧ k_ ≠ gb321 ∧ k_ ≠ gb322) v344 y343) ∧ (b 19 = true → w'.heap[gb322]? = some (.cells #[.int .i64 t347, .bool t348] 23 (0, 0)))) HT_.out HW_.out (by kernel_rfl) (by kernel_rfl) ?_ ?_ ?_
  · exact ⟨.bool false, by simp only [putSel, Bool.false_eq_true, if_false], BK318.out, BK319.out, BK320.out, BK321.out, fun _ => BK322.out, HB.out, fun h_ => absurd h_ (by decide), fun h_ => absurd h_ (by decide)⟩
  · skip
    clear BK318 BK319 BK320 BK321 BK322 HB
    refine steps_cons ?_ ?_
    · rintro b a w' ⟨v344, ha, Q_BK318, Q_BK319, Q_BK320, Q_BK321, Q_BK322, Q_HB, Q_HO345, Q_BK322_e19⟩ hb_ hon hoff
      refine ⟨_, rfl, fun K hK => ?_⟩
      have e17 : a.tmps[17]? = some (.pointer (some ⟨gb318, 0, none⟩)) := by rw [ha]; exact (putSel_off rfl).trans rfl
      replace ha := Aside0.mk ha
      have BK318 := Aside0.mk Q_BK318
      have BK319 := Aside0.mk Q_BK319
      have BK320 := Aside0.mk Q_BK320
      have BK321 := Aside0.mk Q_BK321
      have BK322 := Aside0.mk (Q_BK322 (hoff 19 (by kernel_rfl)))
      have HB := Aside0.mk Q_HB
      have hc0_ : w'.cell? ⟨gb318, 0, none⟩ = some (.int .i64 t323) := (blk_cell BK318.out 0).trans rfl
      have hc1_ : w'.cell? ⟨gb318, 1, none⟩ = some (.bool t324) := (blk_cell BK318.out 1).trans rfl
      refine value_ (w1 := w') (v := .int .i64 t323) (by rfl) rfl ?_ ?_
      · go_simp
        (try simp only [i64_w])
        try rfl
      refine hK.out _ _ ⟨v344, (by rw [ha.out]; exact putSel_upk 0 hb_ rfl rfl rfl), Q_BK318, Q_BK319, Q_BK320, Q_BK321, Q_BK322, Q_HB, Q_HO345, fun h0_ => absurd ((hoff 19 (by kernel_rfl)).symm.trans h0_) (by decide)⟩
    refine steps_cons ?_ ?_
    · rintro b a w' ⟨v344, ha, Q_BK318, Q_BK319, Q_BK320, Q_BK321, Q_BK322, Q_HB, Q_HO345, Q_BK322_e19⟩ hb_ hon hoff
      refine ⟨_, rfl, fun K hK => ?_⟩
      have e19 : a.tmps[19]? = some (.pointer (some ⟨gb319, 0, none⟩)) := by rw [ha]; exact (putSel_off rfl).trans rfl
      replace ha := Aside0.mk ha
      have BK318 := Aside0.mk Q_BK318
      have BK319 := Aside0.mk Q_BK319
      have BK320 := Aside0.mk Q_BK320
      have BK321 := Aside0.mk Q_BK321
      have BK322 := Aside0.mk (Q_BK322 (hoff 19 (by kernel_rfl)))
      have HB := Aside0.mk Q_HB
      have hc0_ : w'.cell? ⟨gb319, 0, none⟩ = some (.int .i64 t325) := (blk_cell BK319.out 0).trans rfl
      have hc1_ : w'.cell? ⟨gb319, 1, none⟩ = some (.bool t326) := (blk_cell BK319.out 1).trans rfl
      refine value_ (w1 := w') (v := .int .i64 t325) (by rfl) rfl ?_ ?_
      · go_simp
        (try simp only [i64_w])
        try rfl
      refine hK.out _ _ ⟨v344, (by rw [ha.out]; exact putSel_upk 1 hb_ rfl rfl rfl), Q_BK318, Q_BK319, Q_BK320, Q_BK321, Q_BK322, Q_HB, Q_HO345, fun h0_ => absurd ((hoff 19 (by kernel_rfl)).symm.trans h0_) (by decide)⟩
    refine steps_cons ?_ ?_
    · rintro b a w' ⟨v344, ha, Q_BK318, Q_BK319, Q_BK320, Q_BK321, Q_BK322, Q_HB, Q_HO345, Q_BK322_e19⟩ hb_ hon hoff
      refine ⟨_, rfl, fun K hK => ?_⟩
      have e18 : a.tmps[18]? = some (.int .i64 t323) := by rw [ha]; exact putSel_on (e := (1, 18, .int .i64 t323)) 0 rfl rfl (hon 1 (by kernel_rfl)) rfl
      have e20 : a.tmps[20]? = some (.int .i64 t325) := by rw [ha]; exact putSel_on (e := (3, 20, .int .i64 t325)) 1 rfl rfl (hon 3 (by kernel_rfl)) rfl
      replace ha := Aside0.mk ha
      have BK318 := Aside0.mk Q_BK318
      have BK319 := Aside0.mk Q_BK319
      have BK320 := Aside0.mk Q_BK320
      have BK321 := Aside0.mk Q_BK321
      have BK322 := Aside0.mk (Q_BK322 (hoff 19 (by kernel_rfl)))
      have HB := Aside0.mk Q_HB
      refine goes_ Try.func74 (by kernel_rfl) rfl #[.int .i64 t323, .int .i64 t325] (by rfl) rfl rfl (by first | (simp only [List.map_toArray, List.map_cons, List.map_nil, Act.eval, Array.getD_eq_getD_getElem?, Option.getD_some, e18, e20]; done) | (simp only [List.map_toArray, List.map_cons, List.map_nil, Act.eval, Array.getD_eq_getD_getElem?, Option.getD_some, e18, e20]; rfl)) ?_
      with_reducible refine (fixed_product.calls t323 t325 t331 t332 t333 _ A9.out).mono ?_
      rintro e w35 ⟨rfl, hb⟩
      refine ⟨_, rfl, ?_⟩
      have n0_ := Aside0.mk (blk_below (g := gb318) (o := .cells #[.int .i64 t323, .bool t324] 23 (0, 0)) (by (with_reducible repeat (first | refine blk_drewN ?_ _ | refine blk_drew ?_ | refine blk_alloc ?_ _)); exact BK318.out) hb)
      have n1_ := Aside0.mk (blk_below (g := gb319) (o := .cells #[.int .i64 t325, .bool t326] 23 (0, 0)) (by (with_reducible repeat (first | refine blk_drewN ?_ _ | refine blk_drew ?_ | refine blk_alloc ?_ _)); exact BK319.out) hb)
      have n2_ := Aside0.mk (blk_below (g := gb320) (o := .cells #[.int .i64 t327, .bool t328] 23 (0, 0)) (by (with_reducible repeat (first | refine blk_drewN ?_ _ | refine blk_drew ?_ | refine blk_alloc ?_ _)); exact BK320.out) hb)
      have n3_ := Aside0.mk (blk_below (g := gb321) (o := .cells #[.int .i64 t329, .bool t330] 23 (0, 0)) (by (with_reducible repeat (first | refine blk_drewN ?_ _ | refine blk_drew ?_ | refine blk_alloc ?_ _)); exact BK321.out) hb)
      have n4_ := Aside0.mk (blk_below (g := gb322) (o := .cells #[.int .i64 0, .bool false] 23 (0, 0)) (by (with_reducible repeat (first | refine blk_drewN ?_ _ | refine blk_drew ?_ | refine blk_alloc ?_ _)); exact BK322.out) hb)
      have n5_ := Aside0.mk (below_step (by repeat (first | (with_reducible first | exact HB.out | apply below_alloc | apply pw_below_drewN | apply below_drew1 | refine below_set ?_ GE318.out | refine below_set ?_ GE319.out | refine below_set ?_ GE320.out | refine below_set ?_ GE321.out | refine below_set ?_ GE322.out) | exact HB.out)) hb)
      have z_HO345 := fun (h0_ : b 16 = true) => (show Kd.R k23 23 w35 w.heap.size (fun k_ => k_ ≠ gb318 ∧ k_ ≠ gb319 ∧ k_ ≠ gb320 ∧ k_ ≠ gb321 ∧ k_ ≠ gb322) v344 y343 from by first | exact (Kd.R_below (by (with_reducible repeat (first | apply Kd.R_alloc | apply Kd.R_drewN | apply Kd.R_drew)); exact (Q_HO345 h0_)) hb) | exact Kd.R_mono (Kd.R_below (by (with_reducible repeat (first | apply Kd.R_alloc | apply Kd.R_drewN | apply Kd.R_drew)); exact (Q_HO345 h0_)) hb) (fun _ h_ => by first | trivial | exact h_ | exact h_.1))
      clear BK318
      clear BK319
      clear BK320
      clear BK321
      clear BK322
      clear HB
      have BK318 := n0_
      have BK319 := n1_
      have BK320 := n2_
      have BK321 := n3_
      have BK322 := n4_
      have HB := n5_
      clear n0_ n1_ n2_ n3_ n4_ n5_
      (try clear hb)
      (try clear hb2)
      (try clear hk)
      (try clear hi)
      refine hK.out _ _ ⟨v344, (by rw [ha.out]; exact putSel_upk 2 hb_ rfl rfl rfl), (by (with_reducible repeat (first | refine blk_drewN ?_ _ | refine blk_drew ?_ | refine blk_alloc ?_ _)); exact BK318.out), (by (with_reducible repeat (first | refine blk_drewN ?_ _ | refine blk_drew ?_ | refine blk_alloc ?_ _)); exact BK319.out), (by (with_reducible repeat (first | refine blk_drewN ?_ _ | refine blk_drew ?_ | refine blk_alloc ?_ _)); exact BK320.out), (by (with_reducible repeat (first | refine blk_drewN ?_ _ | refine blk_drew ?_ | refine blk_alloc ?_ _)); exact BK321.out), fun _ => (by (with_reducible repeat (first | refine blk_drewN ?_ _ | refine blk_drew ?_ | refine blk_alloc ?_ _)); exact BK322.out), (by repeat (first | (with_reducible first | exact HB.out | apply below_alloc | apply pw_below_drewN | apply below_drew1 | refine below_set ?_ GE318.out | refine below_set ?_ GE319.out | refine below_set ?_ GE320.out | refine below_set ?_ GE321.out | refine below_set ?_ GE322.out) | exact HB.out)), z_HO345, fun h0_ => absurd ((hoff 19 (by kernel_rfl)).symm.trans h0_) (by decide)⟩
    refine steps_cons ?_ ?_
    · rintro b a w' ⟨v344, ha, Q_BK318, Q_BK319, Q_BK320, Q_BK321, Q_BK322, Q_HB, Q_HO345, Q_BK322_e19⟩ hb_ hon hoff
      refine ⟨_, rfl, fun K hK => ?_⟩
      have e22 : a.tmps[22]? = some (.pointer (some ⟨gb320, 0, none⟩)) := by rw [ha]; exact (putSel_off rfl).trans rfl
      replace ha := Aside0.mk ha
      have BK318 := Aside0.mk Q_BK318
      have BK319 := Aside0.mk Q_BK319
      have BK320 := Aside0.mk Q_BK320
      have BK321 := Aside0.mk Q_BK321
      have BK322 := Aside0.mk (Q_BK322 (hoff 19 (by kernel_rfl)))
      have HB := Aside0.mk Q_HB
      have hc0_ : w'.cell? ⟨gb320, 0, none⟩ = some (.int .i64 t327) := (blk_cell BK320.out 0).trans rfl
      have hc1_ : w'.cell? ⟨gb320, 1, none⟩ = some (.bool t328) := (blk_cell BK320.out 1).trans rfl
      refine value_ (w1 := w') (v := .int .i64 t327) (by rfl) rfl ?_ ?_
      · go_simp
        (try simp only [i64_w])
        try rfl
      refine hK.out _ _ ⟨v344, (by rw [ha.out]; exact putSel_upk 3 hb_ rfl rfl rfl), Q_BK318, Q_BK319, Q_BK320, Q_BK321, Q_BK322, Q_HB, Q_HO345, fun h0_ => absurd ((hoff 19 (by kernel_rfl)).symm.trans h0_) (by decide)⟩
    refine steps_cons ?_ ?_
    · rintro b a w' ⟨v344, ha, Q_BK318, Q_BK319, Q_BK320, Q_BK321, Q_BK322, Q_HB, Q_HO345, Q_BK322_e19⟩ hb_ hon hoff
      refine ⟨_, rfl, fun K hK => ?_⟩
      have e24 : a.tmps[24]? = some (.pointer (some ⟨gb321, 0, none⟩)) := by rw [ha]; exact (putSel_off rfl).trans rfl
      replace ha := Aside0.mk ha
      have BK318 := Aside0.mk Q_BK318
      have BK319 := Aside0.mk Q_BK319
      have BK320 := Aside0.mk Q_BK320
      have BK321 := Aside0.mk Q_BK321
      have BK322 := Aside0.mk (Q_BK322 (hoff 19 (by kernel_rfl)))
      have HB := Aside0.mk Q_HB
      have hc0_ : w'.cell? ⟨gb321, 0, none⟩ = some (.int .i64 t329) := (blk_cell BK321.out 0).trans rfl
      have hc1_ : w'.cell? ⟨gb321, 1, none⟩ = some (.bool t330) := (blk_cell BK321.out 1).trans rfl
      refine value_ (w1 := w') (v := .int .i64 t329) (by rfl) rfl ?_ ?_
      · go_simp
        (try simp only [i64_w])
        try rfl
      refine hK.out _ _ ⟨v344, (by rw [ha.out]; exact putSel_upk 4 hb_ rfl rfl rfl), Q_BK318, Q_BK319, Q_BK320, Q_BK321, Q_BK322, Q_HB, Q_HO345, fun h0_ => absurd ((hoff 19 (by kernel_rfl)).symm.trans h0_) (by decide)⟩
    refine steps_cons ?_ ?_
    · rintro b a w' ⟨v344, ha, Q_BK318, Q_BK319, Q_BK320, Q_BK321, Q_BK322, Q_HB, Q_HO345, Q_BK322_e19⟩ hb_ hon hoff
      refine ⟨_, rfl, fun K hK => ?_⟩
      have e23 : a.tmps[23]? = some (.int .i64 t327) := by rw [ha]; exact putSel_on (e := (6, 23, .int .i64 t327)) 3 rfl rfl (hon 6 (by kernel_rfl)) rfl
      have e25 : a.tmps[25]? = some (.int .i64 t329) := by rw [ha]; exact putSel_on (e := (8, 25, .int .i64 t329)) 4 rfl rfl (hon 8 (by kernel_rfl)) rfl
      replace ha := Aside0.mk ha
      have BK318 := Aside0.mk Q_BK318
      have BK319 := Aside0.mk Q_BK319
      have BK320 := Aside0.mk Q_BK320
      have BK321 := Aside0.mk Q_BK321
      have BK322 := Aside0.mk (Q_BK322 (hoff 19 (by kernel_rfl)))
      have HB := Aside0.mk Q_HB
      refine goes_ Try.func74 (by kernel_rfl) rfl #[.int .i64 t327, .int .i64 t329] (by rfl) rfl rfl (by first | (simp only [List.map_toArray, List.map_cons, List.map_nil, Act.eval, Array.getD_eq_getD_getElem?, Option.getD_some, e23, e25]; done) | (simp only [List.map_toArray, List.map_cons, List.map_nil, Act.eval, Array.getD_eq_getD_getElem?, Option.getD_some, e23, e25]; rfl)) ?_
      with_reducible refine (fixed_product.calls t327 t329 t334 t335 t336 _ A10.out).mono ?_
      rintro e w37 ⟨rfl, hb⟩
      refine ⟨_, rfl, ?_⟩
      have n0_ := Aside0.mk (blk_below (g := gb318) (o := .cells #[.int .i64 t323, .bool t324] 23 (0, 0)) (by (with_reducible repeat (first | refine blk_drewN ?_ _ | refine blk_drew ?_ | refine blk_alloc ?_ _)); exact BK318.out) hb)
      have n1_ := Aside0.mk (blk_below (g := gb319) (o := .cells #[.int .i64 t325, .bool t326] 23 (0, 0)) (by (with_reducible repeat (first | refine blk_drewN ?_ _ | refine blk_drew ?_ | refine blk_alloc ?_ _)); exact BK319.out) hb)
      have n2_ := Aside0.mk (blk_below (g := gb320) (o := .cells #[.int .i64 t327, .bool t328] 23 (0, 0)) (by (with_reducible repeat (first | refine blk_drewN ?_ _ | refine blk_drew ?_ | refine blk_alloc ?_ _)); exact BK320.out) hb)
      have n3_ := Aside0.mk (blk_below (g := gb321) (o := .cells #[.int .i64 t329, .bool t330] 23 (0, 0)) (by (with_reducible repeat (first | refine blk_drewN ?_ _ | refine blk_drew ?_ | refine blk_alloc ?_ _)); exact BK321.out) hb)
      have n4_ := Aside0.mk (blk_below (g := gb322) (o := .cells #[.int .i64 0, .bool false] 23 (0, 0)) (by (with_reducible repeat (first | refine blk_drewN ?_ _ | refine blk_drew ?_ | refine blk_alloc ?_ _)); exact BK322.out) hb)
      have n5_ := Aside0.mk (below_step (by repeat (first | (with_reducible first | exact HB.out | apply below_alloc | apply pw_below_drewN | apply below_drew1 | refine below_set ?_ GE318.out | refine below_set ?_ GE319.out | refine below_set ?_ GE320.out | refine below_set ?_ GE321.out | refine below_set ?_ GE322.out) | exact HB.out)) hb)
      have z_HO345 := fun (h0_ : b 16 = true) => (show Kd.R k23 23 w37 w.heap.size (fun k_ => k_ ≠ gb318 ∧ k_ ≠ gb319 ∧ k_ ≠ gb320 ∧ k_ ≠ gb321 ∧ k_ ≠ gb322) v344 y343 from by first | exact (Kd.R_below (by (with_reducible repeat (first | apply Kd.R_alloc | apply Kd.R_drewN | apply Kd.R_drew)); exact (Q_HO345 h0_)) hb) | exact Kd.R_mono (Kd.R_below (by (with_reducible repeat (first | apply Kd.R_alloc | apply Kd.R_drewN | apply Kd.R_drew)); exact (Q_HO345 h0_)) hb) (fun _ h_ => by first | trivial | exact h_ | exact h_.1))
      clear BK318
      clear BK319
      clear BK320
      clear BK321
      clear BK322
      clear HB
      have BK318 := n0_
      have BK319 := n1_
      have BK320 := n2_
      have BK321 := n3_
      have BK322 := n4_
      have HB := n5_
      clear n0_ n1_ n2_ n3_ n4_ n5_
      (try clear hb)
      (try clear hb2)
      (try clear hk)
      (try clear hi)
      refine hK.out _ _ ⟨v344, (by rw [ha.out]; exact putSel_upk 5 hb_ rfl rfl rfl), (by (with_reducible repeat (first | refine blk_drewN ?_ _ | refine blk_drew ?_ | refine blk_alloc ?_ _)); exact BK318.out), (by (with_reducible repeat (first | refine blk_drewN ?_ _ | refine blk_drew ?_ | refine blk_alloc ?_ _)); exact BK319.out), (by (with_reducible repeat (first | refine blk_drewN ?_ _ | refine blk_drew ?_ | refine blk_alloc ?_ _)); exact BK320.out), (by (with_reducible repeat (first | refine blk_drewN ?_ _ | refine blk_drew ?_ | refine blk_alloc ?_ _)); exact BK321.out), fun _ => (by (with_reducible repeat (first | refine blk_drewN ?_ _ | refine blk_drew ?_ | refine blk_alloc ?_ _)); exact BK322.out), (by repeat (first | (with_reducible first | exact HB.out | apply below_alloc | apply pw_below_drewN | apply below_drew1 | refine below_set ?_ GE318.out | refine below_set ?_ GE319.out | refine below_set ?_ GE320.out | refine below_set ?_ GE321.out | refine below_set ?_ GE322.out) | exact HB.out)), z_HO345, fun h0_ => absurd ((hoff 19 (by kernel_rfl)).symm.trans h0_) (by decide)⟩
    refine steps_cons ?_ ?_
    · rintro b a w' ⟨v344, ha, Q_BK318, Q_BK319, Q_BK320, Q_BK321, Q_BK322, Q_HB, Q_HO345, Q_BK322_e19⟩ hb_ hon hoff
      refine ⟨_, rfl, fun K hK => ?_⟩
      have e21 : a.tmps[21]? = some (.agg #[.bool t331, .int .u64 t332, .int .u64 t333]) := by rw [ha]; exact putSel_on (e := (4, 21, .agg #[.bool t331, .int .u64 t332, .int .u64 t333])) 2 rfl rfl (hon 4 (by kernel_rfl)) rfl
      have e26 : a.tmps[26]? = some (.agg #[.bool t334, .int .u64 t335, .int .u64 t336]) := by rw [ha]; exact putSel_on (e := (9, 26, .agg #[.bool t334, .int .u64 t335, .int .u64 t336])) 5 rfl rfl (hon 9 (by kernel_rfl)) rfl
      replace ha := Aside0.mk ha
      have BK318 := Aside0.mk Q_BK318
      have BK319 := Aside0.mk Q_BK319
      have BK320 := Aside0.mk Q_BK320
      have BK321 := Aside0.mk Q_BK321
      have BK322 := Aside0.mk (Q_BK322 (hoff 19 (by kernel_rfl)))
      have HB := Aside0.mk Q_HB
      refine goes_ Try.func75 (by kernel_rfl) rfl #[.agg #[.bool t331, .int .u64 t332, .int .u64 t333], .agg #[.bool t334, .int .u64 t335, .int .u64 t336]] (by rfl) rfl rfl (by first | (simp only [List.map_toArray, List.map_cons, List.map_nil, Act.eval, Array.getD_eq_getD_getElem?, Option.getD_some, e21, e26]; done) | (simp only [List.map_toArray, List.map_cons, List.map_nil, Act.eval, Array.getD_eq_getD_getElem?, Option.getD_some, e21, e26]; rfl)) ?_
      with_reducible refine (fixed_exact_plus.calls k t331 t332 t333 t334 t335 t336 t337 t338 t339 _ A11.out).mono ?_
      rintro e w38 ⟨rfl, hb⟩
      refine ⟨_, rfl, ?_⟩
      have n0_ := Aside0.mk (blk_below (g := gb318) (o := .cells #[.int .i64 t323, .bool t324] 23 (0, 0)) (by (with_reducible repeat (first | refine blk_drewN ?_ _ | refine blk_drew ?_ | refine blk_alloc ?_ _)); exact BK318.out) hb)
      have n1_ := Aside0.mk (blk_below (g := gb319) (o := .cells #[.int .i64 t325, .bool t326] 23 (0, 0)) (by (with_reducible repeat (first | refine blk_drewN ?_ _ | refine blk_drew ?_ | refine blk_alloc ?_ _)); exact BK319.out) hb)
      have n2_ := Aside0.mk (blk_below (g := gb320) (o := .cells #[.int .i64 t327, .bool t328] 23 (0, 0)) (by (with_reducible repeat (first | refine blk_drewN ?_ _ | refine blk_drew ?_ | refine blk_alloc ?_ _)); exact BK320.out) hb)
      have n3_ := Aside0.mk (blk_below (g := gb321) (o := .cells #[.int .i64 t329, .bool t330] 23 (0, 0)) (by (with_reducible repeat (first | refine blk_drewN ?_ _ | refine blk_drew ?_ | refine blk_alloc ?_ _)); exact BK321.out) hb)
      have n4_ := Aside0.mk (blk_below (g := gb322) (o := .cells #[.int .i64 0, .bool false] 23 (0, 0)) (by (with_reducible repeat (first | refine blk_drewN ?_ _ | refine blk_drew ?_ | refine blk_alloc ?_ _)); exact BK322.out) hb)
      have n5_ := Aside0.mk (below_step (by repeat (first | (with_reducible first | exact HB.out | apply below_alloc | apply pw_below_drewN | apply below_drew1 | refine below_set ?_ GE318.out | refine below_set ?_ GE319.out | refine below_set ?_ GE320.out | refine below_set ?_ GE321.out | refine below_set ?_ GE322.out) | exact HB.out)) hb)
      have z_HO345 := fun (h0_ : b 16 = true) => (show Kd.R k23 23 w38 w.heap.size (fun k_ => k_ ≠ gb318 ∧ k_ ≠ gb319 ∧ k_ ≠ gb320 ∧ k_ ≠ gb321 ∧ k_ ≠ gb322) v344 y343 from by first | exact (Kd.R_below (by (with_reducible repeat (first | apply Kd.R_alloc | apply Kd.R_drewN | apply Kd.R_drew)); exact (Q_HO345 h0_)) hb) | exact Kd.R_mono (Kd.R_below (by (with_reducible repeat (first | apply Kd.R_alloc | apply Kd.R_drewN | apply Kd.R_drew)); exact (Q_HO345 h0_)) hb) (fun _ h_ => by first | trivial | exact h_ | exact h_.1))
      clear BK318
      clear BK319
      clear BK320
      clear BK321
      clear BK322
      clear HB
      have BK318 := n0_
      have BK319 := n1_
      have BK320 := n2_
      have BK321 := n3_
      have BK322 := n4_
      have HB := n5_
      clear n0_ n1_ n2_ n3_ n4_ n5_
      (try clear hb)
      (try clear hb2)
      (try clear hk)
      (try clear hi)
      refine hK.out _ _ ⟨v344, (by rw [ha.out]; exact putSel_upk 6 hb_ rfl rfl rfl), (by (with_reducible repeat (first | refine blk_drewN ?_ _ | refine blk_drew ?_ | refine blk_alloc ?_ _)); exact BK318.out), (by (with_reducible repeat (first | refine blk_drewN ?_ _ | refine blk_drew ?_ | refine blk_alloc ?_ _)); exact BK319.out), (by (with_reducible repeat (first | refine blk_drewN ?_ _ | refine blk_drew ?_ | refine blk_alloc ?_ _)); exact BK320.out), (by (with_reducible repeat (first | refine blk_drewN ?_ _ | refine blk_drew ?_ | refine blk_alloc ?_ _)); exact BK321.out), fun _ => (by (with_reducible repeat (first | refine blk_drewN ?_ _ | refine blk_drew ?_ | refine blk_alloc ?_ _)); exact BK322.out), (by repeat (first | (with_reducible first | exact HB.out | apply below_alloc | apply pw_below_drewN | apply below_drew1 | refine below_set ?_ GE318.out | refine below_set ?_ GE319.out | refine below_set ?_ GE320.out | refine below_set ?_ GE321.out | refine below_set ?_ GE322.out) | exact HB.out)), z_HO345, fun h0_ => absurd ((hoff 19 (by kernel_rfl)).symm.trans h0_) (by decide)⟩
    refine steps_cons ?_ ?_
    · rintro b a w' ⟨v344, ha, Q_BK318, Q_BK319, Q_BK320, Q_BK321, Q_BK322, Q_HB, Q_HO345, Q_BK322_e19⟩ hb_ hon hoff
      refine ⟨_, rfl, fun K hK => ?_⟩
      have e27 : a.tmps[27]? = some (.agg #[.bool t337, .int .u64 t338, .int .u64 t339]) := by rw [ha]; exact putSel_on (e := (10, 27, .agg #[.bool t337, .int .u64 t338, .int .u64 t339])) 6 rfl rfl (hon 10 (by kernel_rfl)) rfl
      replace ha := Aside0.mk ha
      have BK318 := Aside0.mk Q_BK318
      have BK319 := Aside0.mk Q_BK319
      have BK320 := Aside0.mk Q_BK320
      have BK321 := Aside0.mk Q_BK321
      have BK322 := Aside0.mk (Q_BK322 (hoff 19 (by kernel_rfl)))
      have HB := Aside0.mk Q_HB
      refine goes_ Try.func87 (by kernel_rfl) rfl #[.agg #[.bool t337, .int .u64 t338, .int .u64 t339]] (by rfl) rfl rfl (by first | (simp only [List.map_toArray, List.map_cons, List.map_nil, Act.eval, Array.getD_eq_getD_getElem?, Option.getD_some, e27]; done) | (simp only [List.map_toArray, List.map_cons, List.map_nil, Act.eval, Array.getD_eq_getD_getElem?, Option.getD_some, e27]; rfl)) ?_
      with_reducible refine (fixed_exact_down.calls t337 t338 t339 t340 t341 t342 _ A12.out).mono ?_
      rintro e w39 ⟨rfl, hb⟩
      refine ⟨_, rfl, ?_⟩
      have n0_ := Aside0.mk (blk_below (g := gb318) (o := .cells #[.int .i64 t323, .bool t324] 23 (0, 0)) (by (with_reducible repeat (first | refine blk_drewN ?_ _ | refine blk_drew ?_ | refine blk_alloc ?_ _)); exact BK318.out) hb)
      have n1_ := Aside0.mk (blk_below (g := gb319) (o := .cells #[.int .i64 t325, .bool t326] 23 (0, 0)) (by (with_reducible repeat (first | refine blk_drewN ?_ _ | refine blk_drew ?_ | refine blk_alloc ?_ _)); exact BK319.out) hb)
      have n2_ := Aside0.mk (blk_below (g := gb320) (o := .cells #[.int .i64 t327, .bool t328] 23 (0, 0)) (by (with_reducible repeat (first | refine blk_drewN ?_ _ | refine blk_drew ?_ | refine blk_alloc ?_ _)); exact BK320.out) hb)
      have n3_ := Aside0.mk (blk_below (g := gb321) (o := .cells #[.int .i64 t329, .bool t330] 23 (0, 0)) (by (with_reducible repeat (first | refine blk_drewN ?_ _ | refine blk_drew ?_ | refine blk_alloc ?_ _)); exact BK321.out) hb)
      have n4_ := Aside0.mk (blk_below (g := gb322) (o := .cells #[.int .i64 0, .bool false] 23 (0, 0)) (by (with_reducible repeat (first | refine blk_drewN ?_ _ | refine blk_drew ?_ | refine blk_alloc ?_ _)); exact BK322.out) hb)
      have n5_ := Aside0.mk (below_step (by repeat (first | (with_reducible first | exact HB.out | apply below_alloc | apply pw_below_drewN | apply below_drew1 | refine below_set ?_ GE318.out | refine below_set ?_ GE319.out | refine below_set ?_ GE320.out | refine below_set ?_ GE321.out | refine below_set ?_ GE322.out) | exact HB.out)) hb)
      have z_HO345 := fun (h0_ : b 16 = true) => (show Kd.R k23 23 w39 w.heap.size (fun k_ => k_ ≠ gb318 ∧ k_ ≠ gb319 ∧ k_ ≠ gb320 ∧ k_ ≠ gb321 ∧ k_ ≠ gb322) v344 y343 from by first | exact (Kd.R_below (by (with_reducible repeat (first | apply Kd.R_alloc | apply Kd.R_drewN | apply Kd.R_drew)); exact (Q_HO345 h0_)) hb) | exact Kd.R_mono (Kd.R_below (by (with_reducible repeat (first | apply Kd.R_alloc | apply Kd.R_drewN | apply Kd.R_drew)); exact (Q_HO345 h0_)) hb) (fun _ h_ => by first | trivial | exact h_ | exact h_.1))
      clear BK318
      clear BK319
      clear BK320
      clear BK321
      clear BK322
      clear HB
      have BK318 := n0_
      have BK319 := n1_
      have BK320 := n2_
      have BK321 := n3_
      have BK322 := n4_
      have HB := n5_
      clear n0_ n1_ n2_ n3_ n4_ n5_
      (try clear hb)
      (try clear hb2)
      (try clear hk)
      (try clear hi)
      refine hK.out _ _ ⟨v344, (by rw [ha.out]; exact putSel_upk 7 hb_ rfl rfl rfl), (by (with_reducible repeat (first | refine blk_drewN ?_ _ | refine blk_drew ?_ | refine blk_alloc ?_ _)); exact BK318.out), (by (with_reducible repeat (first | refine blk_drewN ?_ _ | refine blk_drew ?_ | refine blk_alloc ?_ _)); exact BK319.out), (by (with_reducible repeat (first | refine blk_drewN ?_ _ | refine blk_drew ?_ | refine blk_alloc ?_ _)); exact BK320.out), (by (with_reducible repeat (first | refine blk_drewN ?_ _ | refine blk_drew ?_ | refine blk_alloc ?_ _)); exact BK321.out), fun _ => (by (with_reducible repeat (first | refine blk_drewN ?_ _ | refine blk_drew ?_ | refine blk_alloc ?_ _)); exact BK322.out), (by repeat (first | (with_reducible first | exact HB.out | apply below_alloc | apply pw_below_drewN | apply below_drew1 | refine below_set ?_ GE318.out | refine below_set ?_ GE319.out | refine below_set ?_ GE320.out | refine below_set ?_ GE321.out | refine below_set ?_ GE322.out) | exact HB.out)), z_HO345, fun h0_ => absurd ((hoff 19 (by kernel_rfl)).symm.trans h0_) (by decide)⟩
    refine steps_cons ?_ ?_
    · rintro b a w' ⟨v344, ha, Q_BK318, Q_BK319, Q_BK320, Q_BK321, Q_BK322, Q_HB, Q_HO345, Q_BK322_e19⟩ hb_ hon hoff
      refine ⟨_, rfl, fun K hK => ?_⟩
      have e4 : a.tmps[4]? = some (.pointer (some ⟨gb318, 0, none⟩)) := by rw [ha]; exact (putSel_off rfl).trans rfl
      replace ha := Aside0.mk ha
      have BK318 := Aside0.mk Q_BK318
      have BK319 := Aside0.mk Q_BK319
      have BK320 := Aside0.mk Q_BK320
      have BK321 := Aside0.mk Q_BK321
      have BK322 := Aside0.mk (Q_BK322 (hoff 19 (by kernel_rfl)))
      have HB := Aside0.mk Q_HB
      have hc0_ : w'.cell? ⟨gb318, 0, none⟩ = some (.int .i64 t323) := (blk_cell BK318.out 0).trans rfl
      have hc1_ : w'.cell? ⟨gb318, 1, none⟩ = some (.bool t324) := (blk_cell BK318.out 1).trans rfl
      refine value_ (w1 := w') (v := .agg #[.int .i64 t323, .bool t324]) (by rfl) rfl ?_ ?_
      · go_simp
        (try simp only [i64_w])
        try rfl
      refine hK.out _ _ ⟨v344, (by rw [ha.out]; exact putSel_upk 8 hb_ rfl rfl rfl), Q_BK318, Q_BK319, Q_BK320, Q_BK321, Q_BK322, Q_HB, fun h0_ => absurd ((hoff 16 (by kernel_rfl)).symm.trans h0_) (by decide), fun h0_ => absurd ((hoff 19 (by kernel_rfl)).symm.trans h0_) (by decide)⟩
    refine steps_cons ?_ ?_
    · rintro b a w' ⟨v344, ha, Q_BK318, Q_BK319, Q_BK320, Q_BK321, Q_BK322, Q_HB, Q_HO345, Q_BK322_e19⟩ hb_ hon hoff
      refine ⟨_, rfl, fun K hK => ?_⟩
      have e5 : a.tmps[5]? = some (.pointer (some ⟨gb319, 0, none⟩)) := by rw [ha]; exact (putSel_off rfl).trans rfl
      replace ha := Aside0.mk ha
      have BK318 := Aside0.mk Q_BK318
      have BK319 := Aside0.mk Q_BK319
      have BK320 := Aside0.mk Q_BK320
      have BK321 := Aside0.mk Q_BK321
      have BK322 := Aside0.mk (Q_BK322 (hoff 19 (by kernel_rfl)))
      have HB := Aside0.mk Q_HB
      have hc0_ : w'.cell? ⟨gb319, 0, none⟩ = some (.int .i64 t325) := (blk_cell BK319.out 0).trans rfl
      have hc1_ : w'.cell? ⟨gb319, 1, none⟩ = some (.bool t326) := (blk_cell BK319.out 1).trans rfl
      refine value_ (w1 := w') (v := .agg #[.int .i64 t325, .bool t326]) (by rfl) rfl ?_ ?_
      · go_simp
        (try simp only [i64_w])
        try rfl
      refine hK.out _ _ ⟨v344, (by rw [ha.out]; exact putSel_upk 9 hb_ rfl rfl rfl), Q_BK318, Q_BK319, Q_BK320, Q_BK321, Q_BK322, Q_HB, fun h0_ => absurd ((hoff 16 (by kernel_rfl)).symm.trans h0_) (by decide), fun h0_ => absurd ((hoff 19 (by kernel_rfl)).symm.trans h0_) (by decide)⟩
    refine steps_cons ?_ ?_
    · rintro b a w' ⟨v344, ha, Q_BK318, Q_BK319, Q_BK320, Q_BK321, Q_BK322, Q_HB, Q_HO345, Q_BK322_e19⟩ hb_ hon hoff
      refine ⟨_, rfl, fun K hK => ?_⟩
      have e6 : a.tmps[6]? = some (.pointer (some ⟨gb320, 0, none⟩)) := by rw [ha]; exact (putSel_off rfl).trans rfl
      replace ha := Aside0.mk ha
      have BK318 := Aside0.mk Q_BK318
      have BK319 := Aside0.mk Q_BK319
      have BK320 := Aside0.mk Q_BK320
      have BK321 := Aside0.mk Q_BK321
      have BK322 := Aside0.mk (Q_BK322 (hoff 19 (by kernel_rfl)))
      have HB := Aside0.mk Q_HB
      have hc0_ : w'.cell? ⟨gb320, 0, none⟩ = some (.int .i64 t327) := (blk_cell BK320.out 0).trans rfl
      have hc1_ : w'.cell? ⟨gb320, 1, none⟩ = some (.bool t328) := (blk_cell BK320.out 1).trans rfl
      refine value_ (w1 := w') (v := .agg #[.int .i64 t327, .bool t328]) (by rfl) rfl ?_ ?_
      · go_simp
        (try simp only [i64_w])
        try rfl
      refine hK.out _ _ ⟨v344, (by rw [ha.out]; exact putSel_upk 10 hb_ rfl rfl rfl), Q_BK318, Q_BK319, Q_BK320, Q_BK321, Q_BK322, Q_HB, fun h0_ => absurd ((hoff 16 (by kernel_rfl)).symm.trans h0_) (by decide), fun h0_ => absurd ((hoff 19 (by kernel_rfl)).symm.trans h0_) (by decide)⟩
    refine steps_cons ?_ ?_
    · rintro b a w' ⟨v344, ha, Q_BK318, Q_BK319, Q_BK320, Q_BK321, Q_BK322, Q_HB, Q_HO345, Q_BK322_e19⟩ hb_ hon hoff
      refine ⟨_, rfl, fun K hK => ?_⟩
      have e7 : a.tmps[7]? = some (.pointer (some ⟨gb321, 0, none⟩)) := by rw [ha]; exact (putSel_off rfl).trans rfl
      replace ha := Aside0.mk ha
      have BK318 := Aside0.mk Q_BK318
      have BK319 := Aside0.mk Q_BK319
      have BK320 := Aside0.mk Q_BK320
      have BK321 := Aside0.mk Q_BK321
      have BK322 := Aside0.mk (Q_BK322 (hoff 19 (by kernel_rfl)))
      have HB := Aside0.mk Q_HB
      have hc0_ : w'.cell? ⟨gb321, 0, none⟩ = some (.int .i64 t329) := (blk_cell BK321.out 0).trans rfl
      have hc1_ : w'.cell? ⟨gb321, 1, none⟩ = some (.bool t330) := (blk_cell BK321.out 1).trans rfl
      refine value_ (w1 := w') (v := .agg #[.int .i64 t329, .bool t330]) (by rfl) rfl ?_ ?_
      · go_simp
        (try simp only [i64_w])
        try rfl
      refine hK.out _ _ ⟨v344, (by rw [ha.out]; exact putSel_upk 11 hb_ rfl rfl rfl), Q_BK318, Q_BK319, Q_BK320, Q_BK321, Q_BK322, Q_HB, fun h0_ => absurd ((hoff 16 (by kernel_rfl)).symm.trans h0_) (by decide), fun h0_ => absurd ((hoff 19 (by kernel_rfl)).symm.trans h0_) (by decide)⟩
    refine steps_cons ?_ ?_
    · rintro b a w' ⟨v344, ha, Q_BK318, Q_BK319, Q_BK320, Q_BK321, Q_BK322, Q_HB, Q_HO345, Q_BK322_e19⟩ hb_ hon hoff
      refine ⟨_, rfl, fun K hK => ?_⟩
      have e29 : a.tmps[29]? = some (.agg #[.int .i64 t323, .bool t324]) := by rw [ha]; exact putSel_on (e := (12, 29, .agg #[.int .i64 t323, .bool t324])) 8 rfl rfl (hon 12 (by kernel_rfl)) rfl
      have e30 : a.tmps[30]? = some (.agg #[.int .i64 t325, .bool t326]) := by rw [ha]; exact putSel_on (e := (13, 30, .agg #[.int .i64 t325, .bool t326])) 9 rfl rfl (hon 13 (by kernel_rfl)) rfl
      have e31 : a.tmps[31]? = some (.agg #[.int .i64 t327, .bool t328]) := by rw [ha]; exact putSel_on (e := (14, 31, .agg #[.int .i64 t327, .bool t328])) 10 rfl rfl (hon 14 (by kernel_rfl)) rfl
      have e32 : a.tmps[32]? = some (.agg #[.int .i64 t329, .bool t330]) := by rw [ha]; exact putSel_on (e := (15, 32, .agg #[.int .i64 t329, .bool t330])) 11 rfl rfl (hon 15 (by kernel_rfl)) rfl
      replace ha := Aside0.mk ha
      have BK318 := Aside0.mk Q_BK318
      have BK319 := Aside0.mk Q_BK319
      have BK320 := Aside0.mk Q_BK320
      have BK321 := Aside0.mk Q_BK321
      have BK322 := Aside0.mk (Q_BK322 (hoff 19 (by kernel_rfl)))
      have HB := Aside0.mk Q_HB
      refine Kd.R_lit_step k23 _ 23 ?hg (N := 33) ?hd (xs := ([(⟨t323, t324⟩ : S23), (⟨t325, t326⟩ : S23), (⟨t327, t328⟩ : S23), (⟨t329, t330⟩ : S23)] : List (S23))) (inner := [.int .i64 t323, .bool t324, .int .i64 t325, .bool t326, .int .i64 t327, .bool t328, .int .i64 t329, .bool t330]) (ok := fun _ => True) (okp := fun _ => True) ?hr ?hp (fun _ hk => hk) trivial (Below.refl _ _) (Nat.le_refl _) (by simp) ?_; (case hd => rfl); (case hg => rfl); (case hr => first | (go_simp; done) | (go_simp; rfl)); (case hp => exact (Reps.c2 (show Kd.M k23 _ _ _ (⟨t323, t324⟩ : S23) [.int .i64 t323, .bool t324] from (k23_mkM _ _ _ (⟨t323, t324⟩ : S23) )) (Reps.c2 (show Kd.M k23 _ _ _ (⟨t325, t326⟩ : S23) [.int .i64 t325, .bool t326] from (k23_mkM _ _ _ (⟨t325, t326⟩ : S23) )) (Reps.c2 (show Kd.M k23 _ _ _ (⟨t327, t328⟩ : S23) [.int .i64 t327, .bool t328] from (k23_mkM _ _ _ (⟨t327, t328⟩ : S23) )) (Reps.c2 (show Kd.M k23 _ _ _ (⟨t329, t330⟩ : S23) [.int .i64 t329, .bool t330] from (k23_mkM _ _ _ (⟨t329, t330⟩ : S23) )) (Reps.none _ _))))))
      intro v344 w35 ho36 hb hg_ hnew_
      clear hg_ hnew_
      (first | rw [← Ny343.out] at ho36 | (simp only [Int.reduceToNat] at ho36; rw [← Ny343.out] at ho36))
      have n0_ := Aside0.mk (Kd.R_lower (Kd.R_newB (Kd.R_newB (Kd.R_newB (Kd.R_newB (Kd.R_newB ho36 (g := gb318) (o := .cells #[.int .i64 t323, .bool t324] 23 (0, 0)) (by (with_reducible repeat (first | refine blk_drewN ?_ _ | refine blk_drew ?_ | refine blk_alloc ?_ _)); exact BK318.out)) (g := gb319) (o := .cells #[.int .i64 t325, .bool t326] 23 (0, 0)) (by (with_reducible repeat (first | refine blk_drewN ?_ _ | refine blk_drew ?_ | refine blk_alloc ?_ _)); exact BK319.out)) (g := gb320) (o := .cells #[.int .i64 t327, .bool t328] 23 (0, 0)) (by (with_reducible repeat (first | refine blk_drewN ?_ _ | refine blk_drew ?_ | refine blk_alloc ?_ _)); exact BK320.out)) (g := gb321) (o := .cells #[.int .i64 t329, .bool t330] 23 (0, 0)) (by (with_reducible repeat (first | refine blk_drewN ?_ _ | refine blk_drew ?_ | refine blk_alloc ?_ _)); exact BK321.out)) (g := gb322) (o := .cells #[.int .i64 0, .bool false] 23 (0, 0)) (by (with_reducible repeat (first | refine blk_drewN ?_ _ | refine blk_drew ?_ | refine blk_alloc ?_ _)); exact BK322.out)) (below_size (by repeat (first | (with_reducible first | exact HB.out | apply below_alloc | apply pw_below_drewN | apply below_drew1 | refine below_set ?_ GE318.out | refine below_set ?_ GE319.out | refine below_set ?_ GE320.out | refine below_set ?_ GE321.out | refine below_set ?_ GE322.out) | exact HB.out))))
      have n1_ := Aside0.mk (blk_below (g := gb318) (o := .cells #[.int .i64 t323, .bool t324] 23 (0, 0)) (by (with_reducible repeat (first | refine blk_drewN ?_ _ | refine blk_drew ?_ | refine blk_alloc ?_ _)); exact BK318.out) hb)
      have n2_ := Aside0.mk (blk_below (g := gb319) (o := .cells #[.int .i64 t325, .bool t326] 23 (0, 0)) (by (with_reducible repeat (first | refine blk_drewN ?_ _ | refine blk_drew ?_ | refine blk_alloc ?_ _)); exact BK319.out) hb)
      have n3_ := Aside0.mk (blk_below (g := gb320) (o := .cells #[.int .i64 t327, .bool t328] 23 (0, 0)) (by (with_reducible repeat (first | refine blk_drewN ?_ _ | refine blk_drew ?_ | refine blk_alloc ?_ _)); exact BK320.out) hb)
      have n4_ := Aside0.mk (blk_below (g := gb321) (o := .cells #[.int .i64 t329, .bool t330] 23 (0, 0)) (by (with_reducible repeat (first | refine blk_drewN ?_ _ | refine blk_drew ?_ | refine blk_alloc ?_ _)); exact BK321.out) hb)
      have n5_ := Aside0.mk (blk_below (g := gb322) (o := .cells #[.int .i64 0, .bool false] 23 (0, 0)) (by (with_reducible repeat (first | refine blk_drewN ?_ _ | refine blk_drew ?_ | refine blk_alloc ?_ _)); exact BK322.out) hb)
      have n6_ := Aside0.mk (below_step (by repeat (first | (with_reducible first | exact HB.out | apply below_alloc | apply pw_below_drewN | apply below_drew1 | refine below_set ?_ GE318.out | refine below_set ?_ GE319.out | refine below_set ?_ GE320.out | refine below_set ?_ GE321.out | refine below_set ?_ GE322.out) | exact HB.out)) hb)
      clear BK318
      clear BK319
      clear BK320
      clear BK321
      clear BK322
      clear HB
      have HO345 := n0_
      have BK318 := n1_
      have BK319 := n2_
      have BK320 := n3_
      have BK321 := n4_
      have BK322 := n5_
      have HB := n6_
      clear n0_ n1_ n2_ n3_ n4_ n5_ n6_
      clear hb ho36
      refine hK.out _ _ ⟨v344, (by rw [ha.out]; exact putSel_upk 12 hb_ rfl rfl rfl), (by (with_reducible repeat (first | refine blk_drewN ?_ _ | refine blk_drew ?_ | refine blk_alloc ?_ _)); exact BK318.out), (by (with_reducible repeat (first | refine blk_drewN ?_ _ | refine blk_drew ?_ | refine blk_alloc ?_ _)); exact BK319.out), (by (with_reducible repeat (first | refine blk_drewN ?_ _ | refine blk_drew ?_ | refine blk_alloc ?_ _)); exact BK320.out), (by (with_reducible repeat (first | refine blk_drewN ?_ _ | refine blk_drew ?_ | refine blk_alloc ?_ _)); exact BK321.out), fun _ => (by (with_reducible repeat (first | refine blk_drewN ?_ _ | refine blk_drew ?_ | refine blk_alloc ?_ _)); exact BK322.out), (by repeat (first | (with_reducible first | exact HB.out | apply below_alloc | apply pw_below_drewN | apply below_drew1 | refine below_set ?_ GE318.out | refine below_set ?_ GE319.out | refine below_set ?_ GE320.out | refine below_set ?_ GE321.out | refine below_set ?_ GE322.out) | exact HB.out)), fun _ => (by (with_reducible repeat (first | apply Kd.R_alloc | apply Kd.R_drewN | apply Kd.R_drew)); exact Kd.R_mono HO345.out (fun _ hk => ⟨hk.1.1.1.1.2, ⟨hk.1.1.1.2, ⟨hk.1.1.2, ⟨hk.1.2, hk.2⟩⟩⟩⟩)), fun h0_ => absurd ((hoff 19 (by kernel_rfl)).symm.trans h0_) (by decide)⟩
    refine steps_cons ?_ ?_
    · rintro b a w' ⟨v344, ha, Q_BK318, Q_BK319, Q_BK320, Q_BK321, Q_BK322, Q_HB, Q_HO345, Q_BK322_e19⟩ hb_ hon hoff
      refine ⟨_, rfl, fun K hK => ?_⟩
      have e33 : a.tmps[33]? = some (v344) := by rw [ha]; exact putSel_on (e := (16, 33, v344)) 12 rfl rfl (hon 16 (by kernel_rfl)) rfl
      replace ha := Aside0.mk ha
      have BK318 := Aside0.mk Q_BK318
      have BK319 := Aside0.mk Q_BK319
      have BK320 := Aside0.mk Q_BK320
      have BK321 := Aside0.mk Q_BK321
      have BK322 := Aside0.mk (Q_BK322 (hoff 19 (by kernel_rfl)))
      have HB := Aside0.mk Q_HB
      have HO345 := Aside0.mk (Q_HO345 (hon 16 (by kernel_rfl)))
      obtain ⟨Ao42, co42, eo42⟩ := Kd.R_slice HO345.out
      (first | subst eo42 | (injection eo42 with f1_ f2_ f3_; have f4_ := f1_.symm; have f5_ := f3_.symm; clear f1_ f2_ f3_; subst f4_; subst f5_))
      refine goes_ Try.func88 (by kernel_rfl) rfl #[.slice Ao42 y343.length co42] (by rfl) rfl rfl (by first | (simp only [List.map_toArray, List.map_cons, List.map_nil, Act.eval, Array.getD_eq_getD_getElem?, Option.getD_some, e33]; done) | (simp only [List.map_toArray, List.map_cons, List.map_nil, Act.eval, Array.getD_eq_getD_getElem?, Option.getD_some, e33]; rfl)) ?_
      with_reducible refine (fixed_flags.calls k _ _ y343 t346 _ ?side1 ?side2 A13.out).mono ?_
      (case side1 => repeat (first | exact (Kd.R_reads' HO345.out).2.2 | (with_reducible refine Kd.C_alloc ?_ _) | (with_reducible refine Kd.C_drewN ?_ _) | (with_reducible refine Kd.C_drew ?_)))
      (case side2 => exact (Kd.R_reads' HO345.out).2.1)
      rintro e w43 ⟨rfl, hb⟩
      refine ⟨_, rfl, ?_⟩
      have n0_ := Aside0.mk (Kd.R_below (by (with_reducible repeat (first | apply Kd.R_alloc | apply Kd.R_drewN | apply Kd.R_drew)); exact HO345.out) hb)
      have n1_ := Aside0.mk (blk_below (g := gb318) (o := .cells #[.int .i64 t323, .bool t324] 23 (0, 0)) (by (with_reducible repeat (first | refine blk_drewN ?_ _ | refine blk_drew ?_ | refine blk_alloc ?_ _)); exact BK318.out) hb)
      have n2_ := Aside0.mk (blk_below (g := gb319) (o := .cells #[.int .i64 t325, .bool t326] 23 (0, 0)) (by (with_reducible repeat (first | refine blk_drewN ?_ _ | refine blk_drew ?_ | refine blk_alloc ?_ _)); exact BK319.out) hb)
      have n3_ := Aside0.mk (blk_below (g := gb320) (o := .cells #[.int .i64 t327, .bool t328] 23 (0, 0)) (by (with_reducible repeat (first | refine blk_drewN ?_ _ | refine blk_drew ?_ | refine blk_alloc ?_ _)); exact BK320.out) hb)
      have n4_ := Aside0.mk (blk_below (g := gb321) (o := .cells #[.int .i64 t329, .bool t330] 23 (0, 0)) (by (with_reducible repeat (first | refine blk_drewN ?_ _ | refine blk_drew ?_ | refine blk_alloc ?_ _)); exact BK321.out) hb)
      have n5_ := Aside0.mk (blk_below (g := gb322) (o := .cells #[.int .i64 0, .bool false] 23 (0, 0)) (by (with_reducible repeat (first | refine blk_drewN ?_ _ | refine blk_drew ?_ | refine blk_alloc ?_ _)); exact BK322.out) hb)
      have n6_ := Aside0.mk (below_step (by repeat (first | (with_reducible first | exact HB.out | apply below_alloc | apply pw_below_drewN | apply below_drew1 | refine below_set ?_ GE318.out | refine below_set ?_ GE319.out | refine below_set ?_ GE320.out | refine below_set ?_ GE321.out | refine below_set ?_ GE322.out) | exact HB.out)) hb)
      clear HO345
      clear BK318
      clear BK319
      clear BK320
      clear BK321
      clear BK322
      clear HB
      have HO345 := n0_
      have BK318 := n1_
      have BK319 := n2_
      have BK320 := n3_
      have BK321 := n4_
      have BK322 := n5_
      have HB := n6_
      clear n0_ n1_ n2_ n3_ n4_ n5_ n6_
      (try clear hb)
      (try clear hb2)
      (try clear hk)
      (try clear hi)
      refine hK.out _ _ ⟨.slice Ao42 y343.length co42, (by rw [ha.out]; exact putSel_upk 13 hb_ rfl rfl rfl), (by (with_reducible repeat (first | refine blk_drewN ?_ _ | refine blk_drew ?_ | refine blk_alloc ?_ _)); exact BK318.out), (by (with_reducible repeat (first | refine blk_drewN ?_ _ | refine blk_drew ?_ | refine blk_alloc ?_ _)); exact BK319.out), (by (with_reducible repeat (first | refine blk_drewN ?_ _ | refine blk_drew ?_ | refine blk_alloc ?_ _)); exact BK320.out), (by (with_reducible repeat (first | refine blk_drewN ?_ _ | refine blk_drew ?_ | refine blk_alloc ?_ _)); exact BK321.out), fun _ => (by (with_reducible repeat (first | refine blk_drewN ?_ _ | refine blk_drew ?_ | refine blk_alloc ?_ _)); exact BK322.out), (by repeat (first | (with_reducible first | exact HB.out | apply below_alloc | apply pw_below_drewN | apply below_drew1 | refine below_set ?_ GE318.out | refine below_set ?_ GE319.out | refine below_set ?_ GE320.out | refine below_set ?_ GE321.out | refine below_set ?_ GE322.out) | exact HB.out)), fun _ => (by (with_reducible repeat (first | apply Kd.R_alloc | apply Kd.R_drewN | apply Kd.R_drew)); exact HO345.out), fun h0_ => absurd ((hoff 19 (by kernel_rfl)).symm.trans h0_) (by decide)⟩
    refine steps_cons ?_ ?_
    · rintro b a w' ⟨v344, ha, Q_BK318, Q_BK319, Q_BK320, Q_BK321, Q_BK322, Q_HB, Q_HO345, Q_BK322_e19⟩ hb_ hon hoff
      refine ⟨_, rfl, fun K hK => ?_⟩
      have e28 : a.tmps[28]? = some (.agg #[.bool t340, .int .u64 t341, .int .u64 t342]) := by rw [ha]; exact putSel_on (e := (11, 28, .agg #[.bool t340, .int .u64 t341, .int .u64 t342])) 7 rfl rfl (hon 11 (by kernel_rfl)) rfl
      have e34 : a.tmps[34]? = some (.bool t346) := by rw [ha]; exact putSel_on (e := (17, 34, .bool t346)) 13 rfl rfl (hon 17 (by kernel_rfl)) rfl
      replace ha := Aside0.mk ha
      have BK318 := Aside0.mk Q_BK318
      have BK319 := Aside0.mk Q_BK319
      have BK320 := Aside0.mk Q_BK320
      have BK321 := Aside0.mk Q_BK321
      have BK322 := Aside0.mk (Q_BK322 (hoff 19 (by kernel_rfl)))
      have HB := Aside0.mk Q_HB
      have HO345 := Aside0.mk (Q_HO345 (hon 16 (by kernel_rfl)))
      refine goes_ Try.func83 (by kernel_rfl) rfl #[.agg #[.bool t340, .int .u64 t341, .int .u64 t342], .bool t346] (by rfl) rfl rfl (by first | (simp only [List.map_toArray, List.map_cons, List.map_nil, Act.eval, Array.getD_eq_getD_getElem?, Option.getD_some, e28, e34]; done) | (simp only [List.map_toArray, List.map_cons, List.map_nil, Act.eval, Array.getD_eq_getD_getElem?, Option.getD_some, e28, e34]; rfl)) ?_
      with_reducible refine (fixed_exact_fit.calls k t340 t341 t342 t346 t347 t348 _ A14.out).mono ?_
      rintro e w44 ⟨rfl, hb⟩
      refine ⟨_, rfl, ?_⟩
      have n0_ := Aside0.mk (Kd.R_below (by (with_reducible repeat (first | apply Kd.R_alloc | apply Kd.R_drewN | apply Kd.R_drew)); exact HO345.out) hb)
      have n1_ := Aside0.mk (blk_below (g := gb318) (o := .cells #[.int .i64 t323, .bool t324] 23 (0, 0)) (by (with_reducible repeat (first | refine blk_drewN ?_ _ | refine blk_drew ?_ | refine blk_alloc ?_ _)); exact BK318.out) hb)
      have n2_ := Aside0.mk (blk_below (g := gb319) (o := .cells #[.int .i64 t325, .bool t326] 23 (0, 0)) (by (with_reducible repeat (first | refine blk_drewN ?_ _ | refine blk_drew ?_ | refine blk_alloc ?_ _)); exact BK319.out) hb)
      have n3_ := Aside0.mk (blk_below (g := gb320) (o := .cells #[.int .i64 t327, .bool t328] 23 (0, 0)) (by (with_reducible repeat (first | refine blk_drewN ?_ _ | refine blk_drew ?_ | refine blk_alloc ?_ _)); exact BK320.out) hb)
      have n4_ := Aside0.mk (blk_below (g := gb321) (o := .cells #[.int .i64 t329, .bool t330] 23 (0, 0)) (by (with_reducible repeat (first | refine blk_drewN ?_ _ | refine blk_drew ?_ | refine blk_alloc ?_ _)); exact BK321.out) hb)
      have n5_ := Aside0.mk (blk_below (g := gb322) (o := .cells #[.int .i64 0, .bool false] 23 (0, 0)) (by (with_reducible repeat (first | refine blk_drewN ?_ _ | refine blk_drew ?_ | refine blk_alloc ?_ _)); exact BK322.out) hb)
      have n6_ := Aside0.mk (below_step (by repeat (first | (with_reducible first | exact HB.out | apply below_alloc | apply pw_below_drewN | apply below_drew1 | refine below_set ?_ GE318.out | refine below_set ?_ GE319.out | refine below_set ?_ GE320.out | refine below_set ?_ GE321.out | refine below_set ?_ GE322.out) | exact HB.out)) hb)
      clear HO345
      clear BK318
      clear BK319
      clear BK320
      clear BK321
      clear BK322
      clear HB
      have HO345 := n0_
      have BK318 := n1_
      have BK319 := n2_
      have BK320 := n3_
      have BK321 := n4_
      have BK322 := n5_
      have HB := n6_
      clear n0_ n1_ n2_ n3_ n4_ n5_ n6_
      (try clear hb)
      (try clear hb2)
      (try clear hk)
      (try clear hi)
      refine hK.out _ _ ⟨v344, (by rw [ha.out]; exact putSel_upk 14 hb_ rfl rfl rfl), (by (with_reducible repeat (first | refine blk_drewN ?_ _ | refine blk_drew ?_ | refine blk_alloc ?_ _)); exact BK318.out), (by (with_reducible repeat (first | refine blk_drewN ?_ _ | refine blk_drew ?_ | refine blk_alloc ?_ _)); exact BK319.out), (by (with_reducible repeat (first | refine blk_drewN ?_ _ | refine blk_drew ?_ | refine blk_alloc ?_ _)); exact BK320.out), (by (with_reducible repeat (first | refine blk_drewN ?_ _ | refine blk_drew ?_ | refine blk_alloc ?_ _)); exact BK321.out), fun _ => (by (with_reducible repeat (first | refine blk_drewN ?_ _ | refine blk_drew ?_ | refine blk_alloc ?_ _)); exact BK322.out), (by repeat (first | (with_reducible first | exact HB.out | apply below_alloc | apply pw_below_drewN | apply below_drew1 | refine below_set ?_ GE318.out | refine below_set ?_ GE319.out | refine below_set ?_ GE320.out | refine below_set ?_ GE321.out | refine below_set ?_ GE322.out) | exact HB.out)), fun _ => (by (with_reducible repeat (first | apply Kd.R_alloc | apply Kd.R_drewN | apply Kd.R_drew)); exact HO345.out), fun h0_ => absurd ((hoff 19 (by kernel_rfl)).symm.trans h0_) (by decide)⟩
    refine steps_cons ?_ ?_
    · rintro b a w' ⟨v344, ha, Q_BK318, Q_BK319, Q_BK320, Q_BK321, Q_BK322, Q_HB, Q_HO345, Q_BK322_e19⟩ hb_ hon hoff
      refine ⟨_, rfl, fun K hK => ?_⟩
      have e8 : a.tmps[8]? = some (.pointer (some ⟨gb322, 0, none⟩)) := by rw [ha]; exact (putSel_off rfl).trans rfl
      have e35 : a.tmps[35]? = some (.agg #[.int .i64 t347, .bool t348]) := by rw [ha]; exact putSel_on (e := (18, 35, .agg #[.int .i64 t347, .bool t348])) 14 rfl rfl (hon 18 (by kernel_rfl)) rfl
      replace ha := Aside0.mk ha
      have BK318 := Aside0.mk Q_BK318
      have BK319 := Aside0.mk Q_BK319
      have BK320 := Aside0.mk Q_BK320
      have BK321 := Aside0.mk Q_BK321
      have BK322 := Aside0.mk (Q_BK322 hb_)
      have HB := Aside0.mk Q_HB
      have HO345 := Aside0.mk (Q_HO345 (hon 16 (by kernel_rfl)))
      have hs45 : w'.cell? ⟨gb322, 0, none⟩ = some (.int .i64 0) := (blk_cell BK322.out 0).trans rfl
      have hfs45 := blk_frozen BK322.out 0
      have hns45_0 := NB318_322.out
      have hns45_1 := NB319_322.out
      have hns45_2 := NB320_322.out
      have hns45_3 := NB321_322.out
      have hms45_0 := NB322_318.out
      have hms45_1 := NB322_319.out
      have hms45_2 := NB322_320.out
      have hms45_3 := NB322_321.out
      have hs46 : w'.cell? ⟨gb322, 1, none⟩ = some (.bool false) := (blk_cell BK322.out 1).trans rfl
      have hfs46 := blk_frozen BK322.out 1
      have hns46_0 := NB318_322.out
      have hns46_1 := NB319_322.out
      have hns46_2 := NB320_322.out
      have hns46_3 := NB321_322.out
      have hms46_0 := NB322_318.out
      have hms46_1 := NB322_319.out
      have hms46_2 := NB322_320.out
      have hms46_3 := NB322_321.out
      refine skip_ (w1 := ?_) (by rfl) rfl ?_ ?_
      rotate_left
      · go_simp
        rfl
      refine hK.out _ _ ⟨v344, (by rw [ha.out]; exact putSel_none (v := undef) rfl), (by (with_reducible repeat (first | refine blk_drewN ?_ _ | refine blk_drew ?_ | refine blk_alloc ?_ _)); refine blk_far ?_ NB318_322.out _; (with_reducible repeat (first | refine blk_drewN ?_ _ | refine blk_drew ?_ | refine blk_alloc ?_ _)); refine blk_far ?_ NB318_322.out _; (with_reducible repeat (first | refine blk_drewN ?_ _ | refine blk_drew ?_ | refine blk_alloc ?_ _)); exact BK318.out), (by (with_reducible repeat (first | refine blk_drewN ?_ _ | refine blk_drew ?_ | refine blk_alloc ?_ _)); refine blk_far ?_ NB319_322.out _; (with_reducible repeat (first | refine blk_drewN ?_ _ | refine blk_drew ?_ | refine blk_alloc ?_ _)); refine blk_far ?_ NB319_322.out _; (with_reducible repeat (first | refine blk_drewN ?_ _ | refine blk_drew ?_ | refine blk_alloc ?_ _)); exact BK319.out), (by (with_reducible repeat (first | refine blk_drewN ?_ _ | refine blk_drew ?_ | refine blk_alloc ?_ _)); refine blk_far ?_ NB320_322.out _; (with_reducible repeat (first | refine blk_drewN ?_ _ | refine blk_drew ?_ | refine blk_alloc ?_ _)); refine blk_far ?_ NB320_322.out _; (with_reducible repeat (first | refine blk_drewN ?_ _ | refine blk_drew ?_ | refine blk_alloc ?_ _)); exact BK320.out), (by (with_reducible repeat (first | refine blk_drewN ?_ _ | refine blk_drew ?_ | refine blk_alloc ?_ _)); refine blk_far ?_ NB321_322.out _; (with_reducible repeat (first | refine blk_drewN ?_ _ | refine blk_drew ?_ | refine blk_alloc ?_ _)); refine blk_far ?_ NB321_322.out _; (with_reducible repeat (first | refine blk_drewN ?_ _ | refine blk_drew ?_ | refine blk_alloc ?_ _)); exact BK321.out), fun h0_ => absurd ((up_self b 19).symm.trans h0_) (by decide), (by repeat (first | (with_reducible first | exact HB.out | apply below_alloc | apply pw_below_drewN | apply below_drew1 | refine below_set ?_ GE318.out | refine below_set ?_ GE319.out | refine below_set ?_ GE320.out | refine below_set ?_ GE321.out | refine below_set ?_ GE322.out) | exact HB.out)), fun _ => (by (with_reducible repeat (first | apply Kd.R_alloc | apply Kd.R_drewN | apply Kd.R_drew)); exact Kd.R_mono (Kd.R_far (p := ⟨gb322, 1, none⟩) (Kd.R_far (p := ⟨gb322, 0, none⟩) (Kd.R_mono HO345.out (fun k_ hk => (⟨hk, hk.2.2.2.2⟩ : _ ∧ k_ ≠ gb322))) (fun _ hk => hk.2) (.int .i64 t347)) (fun _ hk => hk.2) (.bool t348)) (fun _ hk => ⟨hk.1.1, ⟨hk.1.2.1, ⟨hk.1.2.2.1, ⟨hk.1.2.2.2.1, hk.1.2.2.2.2⟩⟩⟩⟩)), fun _ => (by (with_reducible repeat (first | refine blk_drewN ?_ _ | refine blk_drew ?_ | refine blk_alloc ?_ _)); refine blk_put (cs := #[.int .i64 t347, .bool false]) ?_ 1 _ rfl; (with_reducible repeat (first | refine blk_drewN ?_ _ | refine blk_drew ?_ | refine blk_alloc ?_ _)); refine blk_put (cs := #[.int .i64 0, .bool false]) ?_ 0 _ rfl; (with_reducible repeat (first | refine blk_drewN ?_ _ | refine blk_drew ?_ | refine blk_alloc ?_ _)); exact BK322.out)⟩
    exact steps_nil
  rintro b a w46 hall ⟨v344, ha, Q_BK318, Q_BK319, Q_BK320, Q_BK321, Q_BK322, Q_HB, Q_HO345, Q_BK322_e19⟩
  clear BK318 BK319 BK320 BK321 BK322 HB
  have hb1_ := hall 1 (by kernel_rfl)
  have hb3_ := hall 3 (by kernel_rfl)
  have hb4_ := hall 4 (by kernel_rfl)
  have hb6_ := hall 6 (by kernel_rfl)
  have hb8_ := hall 8 (by kernel_rfl)
  have hb9_ := hall 9 (by kernel_rfl)
  have hb10_ := hall 10 (by kernel_rfl)
  have hb11_ := hall 11 (by kernel_rfl)
  have hb12_ := hall 12 (by kernel_rfl)
  have hb13_ := hall 13 (by kernel_rfl)
  have hb14_ := hall 14 (by kernel_rfl)
  have hb15_ := hall 15 (by kernel_rfl)
  have hb16_ := hall 16 (by kernel_rfl)
  have hb17_ := hall 17 (by kernel_rfl)
  have hb18_ := hall 18 (by kernel_rfl)
  have hb19_ := hall 19 (by kernel_rfl)
  subst ha
  simp only [putSel, hb1_, hb3_, hb4_, hb6_, hb8_, hb9_, hb10_, hb11_, hb12_, hb13_, hb14_, hb15_, hb16_, hb17_, hb18_, hb19_, if_true, Act.put, List.setIfInBounds_toArray, List.set_cons_zero, List.set_cons_succ]
  have BK318 := Aside0.mk Q_BK318
  clear Q_BK318
  have BK319 := Aside0.mk Q_BK319
  clear Q_BK319
  have BK320 := Aside0.mk Q_BK320
  clear Q_BK320
  have BK321 := Aside0.mk Q_BK321
  clear Q_BK321
  clear Q_BK322
  have HB := Aside0.mk Q_HB
  clear Q_HB
  have HO345 := Aside0.mk (Q_HO345 hb16_)
  clear Q_HO345
  have BK322 := Aside0.mk (Q_BK322_e19 hb19_)
  clear Q_BK322_e19
  clear hall hb1_ hb3_ hb4_ hb6_ hb8_ hb9_ hb10_ hb11_ hb12_ hb13_ hb14_ hb15_ hb16_ hb17_ hb18_ hb19_
  try go_wp2
  refine bodyPost_ret (results_cell_row rfl _ _ gb322 23 #[.int .i64 t347, .bool t348] (0, 0) _ rfl (by (with_reducible repeat (first | refine blk_drewN ?_ _ | refine blk_drew ?_ | refine blk_alloc ?_ _)); exact BK322.out) Try.underlying23 rfl (by kernel_rfl)) rfl ?_
  exact ⟨by first | rfl | (simp [errW_none, errW_some] <;> rfl) | (simp [*, errW_none, errW_some] <;> rfl), by repeat (first | (with_reducible first | exact HB.out | apply below_alloc | apply pw_below_drewN | apply below_drew1 | refine below_set ?_ GE318.out | refine below_set ?_ GE319.out | refine below_set ?_ GE320.out | refine below_set ?_ GE321.out | refine below_set ?_ GE322.out) | exact HB.out)⟩
end Go.Proofs.Ytenpiaafkmfjfaa.B

end
section
namespace Go.Proofs.Ytenpiaafkmfjfaa.B
open Go.RowKit Go.Proofs.YtenpiaafkmfjfaaW.PrintWords Go.Proofs.YtenpiaafkmfjfaaW.PrintLast Go.Proofs.YtenpiaafkmfjfaaW.PrintMore
theorem or63 (a c : Nat) (ha : a < 9223372036854775808) (hc : c ≤ 1) : bits .or .u64 (a : Int) (IntKind.u64.wrap ((c : Int) * 9223372036854775808)) = ((a + c * 9223372036854775808 : Nat) : Int) := by
  rw [u64_id (x := (c : Int) * 9223372036854775808) (by omega) (by omega), show (c : Int) * 9223372036854775808 = ((c * 9223372036854775808 : Nat) : Int) by omega, bits_or_u64_nat _ _ (by omega) (by omega), Nat.or_comm]
  have := Nat.two_pow_add_eq_or_of_lt (i := 63) (b := a) (by simpa using ha) c
  rw [show c * 9223372036854775808 = 2 ^ 63 * c by rw [Nat.mul_comm], ← this]
  congr 1; omega
theorem newton (n x r : Nat) (hx : 0 < x) (hr : r * r ≤ n) : r ≤ (x + n / x) / 2 := by
  rcases Nat.lt_or_ge ((x + n / x) / 2) r with h | h
  · exfalso
    have h1 : x + n / x + 1 ≤ 2 * r := by omega
    have h2 : n < x * (n / x + 1) := by
      have := Nat.div_add_mod n x
      have := Nat.mod_lt n hx
      rw [Nat.mul_add]; omega
    have h3 : x * (n / x + 1) ≤ x * (2 * r - x) := Nat.mul_le_mul_left x (by omega)
    have hxr : x ≤ 2 * r := by generalize n / x = t at *; omega
    clear h h1
    have h4 : x * (2 * r - x) ≤ r * r := by
      rcases Nat.le_total x r with hl | hl
      · obtain ⟨d, rfl⟩ := Nat.exists_eq_add_of_le hl
        rw [show 2 * (x + d) - x = x + 2 * d by omega, Nat.mul_add, Nat.add_mul, Nat.mul_add, Nat.mul_add, Nat.mul_comm d x, Nat.mul_left_comm x 2 d]
        omega
      · obtain ⟨d, rfl⟩ := Nat.exists_eq_add_of_le hl
        have hd : d ≤ r := by omega
        rw [show 2 * r - (r + d) = r - d by omega, Nat.add_mul, Nat.mul_sub, Nat.mul_sub, Nat.mul_comm d r]
        have : r * d ≤ r * r := Nat.mul_le_mul_left r hd
        omega
    omega
  · exact h
theorem root_loop (lo hi : Nat) (hl : lo < 18446744073709551616) (hh : hi < 18446744073709551616) (hn : 0 < hi * 18446744073709551616 + lo) : ∀ (x k : Nat), 0 < x → x < 18446744073709551616 → x + 15 ≤ k → isq (hi * 18446744073709551616 + lo) ≤ x →
    fixed_words_root.l0 k (x : Int) (lo : Int) (hi : Int) = some ((isq (hi * 18446744073709551616 + lo) : Nat) : Int) := by
  have hN : hi * 18446744073709551616 + lo < 340282366920938463463374607431768211456 := by omega
  obtain ⟨i1, i2⟩ := isq_spec _ hN
  intro x
  induction x using Nat.strongRecOn with
  | _ x ih =>
    intro k hx hx2 hk hr
    obtain ⟨k, rfl⟩ : ∃ z, k = z + 1 := ⟨k - 1, by omega⟩
    have done : x * x ≤ hi * 18446744073709551616 + lo → x = isq (hi * 18446744073709551616 + lo) := by
      intro h
      rcases Nat.lt_or_ge (isq (hi * 18446744073709551616 + lo)) x with hlt | hge
      · have := sq_lt hlt; omega
      · omega
    rw [fixed_words_root.l0]
    by_cases h1 : x ≤ hi
    · rw [if_pos (by omega)]
      have h3 : x * x ≤ hi * 18446744073709551616 := Nat.mul_le_mul h1 (Nat.le_of_lt hx2)
      have hd := done (Nat.le_trans h3 (Nat.le_add_right _ _))
      rw [← hd]
    · rw [if_neg (by omega)]
      obtain ⟨r, e⟩ := div64_f k (by omega) hi lo x (by omega) hl hx2
      rw [e, Option.bind_some]
      dsimp only
      have hq : (hi * 18446744073709551616 + lo) / x < 18446744073709551616 := two_lt hi x lo (by omega) hl
      have hnw := newton (hi * 18446744073709551616 + lo) x (isq (hi * 18446744073709551616 + lo)) hx i1
      by_cases h2 : x ≤ (hi * 18446744073709551616 + lo) / x
      · rw [if_pos (by omega)]
        have : x * x ≤ hi * 18446744073709551616 + lo := by
          rw [Nat.le_div_iff_mul_le hx] at h2; exact h2
        rw [← done this]
      · rw [if_neg (by omega)]
        have hpos : 0 < isq (hi * 18446744073709551616 + lo) := by
          rcases Nat.eq_zero_or_pos (isq (hi * 18446744073709551616 + lo)) with h0 | hp
          · rw [h0] at i2; omega
          · exact hp
        generalize (hi * 18446744073709551616 + lo) / x = q at *
        have e1 : add64s (x : Int) (q : Int) 0 / 2 = (((x + q) % 18446744073709551616 / 2 : Nat) : Int) := by rw [add64s_i (by omega) (by omega) (by omega)]; omega
        have e2 : add64c (x : Int) (q : Int) 0 = (((x + q) / 18446744073709551616 : Nat) : Int) := by rw [add64c_i (by omega) (by omega) (by omega)]; omega
        rw [e1, e2, or63 _ _ (by omega) (by omega), show (x + q) % 18446744073709551616 / 2 + (x + q) / 18446744073709551616 * 9223372036854775808 = (x + q) / 2 by omega]
        exact ih ((x + q) / 2) (by omega) k (by omega) (by omega) (by omega) hnw
theorem isq_lt (n : Nat) (h : n < 340282366920938463463374607431768211456) : isq n < 18446744073709551616 := by
  obtain ⟨h1, _⟩ := isq_spec n h
  rcases Nat.lt_or_ge (isq n) 18446744073709551616 with hl | hg
  · exact hl
  · have := Nat.mul_le_mul hg hg; omega
theorem isq_le_pow (n s : Nat) (h : n < 340282366920938463463374607431768211456) (hn : n < 2 ^ s * 2 ^ s) : isq n ≤ 2 ^ s := by
  obtain ⟨h1, _⟩ := isq_spec n h
  rcases Nat.lt_or_ge (2 ^ s) (isq n) with hl | hg
  · have := Nat.mul_le_mul (Nat.le_of_lt hl) (Nat.le_of_lt hl); omega
  · exact hg
theorem len_f (x : Nat) (h : x < 18446744073709551616) : bits_Len64.f (x : Int) = some ((Lib.bitLen x : Nat) : Int) := by
  unfold bits_Len64.f
  rw [if_pos (by omega), if_pos (by omega), Int.toNat_natCast]
theorem blen_le (x : Nat) (h : x < 18446744073709551616) : Lib.bitLen x ≤ 64 := Lib.bitLen_le x 64 (by decide) h
theorem root_j1 (k : Nat) (hk : 18446744073709551650 ≤ k) (L lo hi : Nat) (hl : lo < 18446744073709551616) (hh : hi < 18446744073709551616) (hn : 0 < hi * 18446744073709551616 + lo) (hL : L ≤ 128) (hlt : hi * 18446744073709551616 + lo < 2 ^ L) :
    fixed_words_root.j1 k (L : Int) (lo : Int) (hi : Int) = some ((isq (hi * 18446744073709551616 + lo) : Nat) : Int) := by
  obtain ⟨k, rfl⟩ : ∃ z, k = z + 2 := ⟨k - 2, by omega⟩
  have e : wrap64 (Int.tdiv (wrap64 ((L : Int) + 1)) 2) = (((L + 1) / 2 : Nat) : Int) := by
    rw [wrap64_id (x := (L : Int) + 1) (by omega) (by omega), Int.tdiv_eq_ediv_of_nonneg (by omega), wrap64_id (by omega) (by omega)]; omega
  have hN : hi * 18446744073709551616 + lo < 340282366920938463463374607431768211456 := by omega
  rw [fixed_words_root.j1, e]
  by_cases h : (L + 1) / 2 < 64
  · have hp : 1 * 2 ^ ((L + 1) / 2) < 18446744073709551616 := by
      rw [Nat.one_mul]
      exact Nat.pow_lt_pow_right (a := 2) (by decide) (show (L + 1) / 2 < 64 from h)
    have h1 := shl_nat 1 ((L + 1) / 2) (by omega) hp
    rw [show ((1 : Nat) : Int) = 1 from rfl, Nat.one_mul] at h1
    rw [if_pos (by omega), if_pos (by omega), h1, fixed_words_root.j2]
    rw [Nat.one_mul] at hp
    refine root_loop lo hi hl hh hn _ k (Nat.two_pow_pos _) hp (by omega) (isq_le_pow _ _ hN ?_)
    rw [← Nat.pow_add]
    exact Nat.lt_of_lt_of_le hlt (Nat.pow_le_pow_right (by decide) (by omega))
  · rw [if_neg (by omega), fixed_words_root.j2]
    have := isq_lt _ hN
    exact root_loop lo hi hl hh hn 18446744073709551615 k (by omega) (by omega) (by omega) (by omega)
theorem root_f (k : Nat) (hk : 18446744073709551660 ≤ k) (lo hi : Nat) (hl : lo < 18446744073709551616) (hh : hi < 18446744073709551616) :
    fixed_words_root.f k (lo : Int) (hi : Int) = some ((isq (hi * 18446744073709551616 + lo) : Nat) : Int) := by
  obtain ⟨k, rfl⟩ : ∃ z, k = z + 1 := ⟨k - 1, by omega⟩
  unfold fixed_words_root.f
  by_cases h0 : hi = 0
  · subst h0
    rw [if_pos (show ((0 : Nat) : Int) = 0 from rfl), fixed_words_root.j0]
    by_cases h1 : lo = 0
    · subst h1
      rw [if_pos (show (((0 : Nat) : Int) == 0) = true from rfl)]
      have : isq (0 * 18446744073709551616 + 0) = 0 := isq_unique _ 0 (by omega) (by omega) (by omega)
      rw [this]; rfl
    · rw [if_neg (by simp; omega), len_f lo hl, Option.bind_some, if_pos (show ((0 : Nat) : Int) = 0 from rfl)]
      obtain ⟨b1, _⟩ := blen lo hl
      have := blen_le lo hl
      exact root_j1 k (by omega) _ lo 0 hl hh (by omega) (by omega) (by omega)
  · rw [if_neg (by omega), fixed_words_root.j0, if_neg (by decide), len_f lo hl, Option.bind_some, if_neg (by omega), len_f hi hh, Option.bind_some]
    obtain ⟨b1, _⟩ := blen hi hh
    have hb := blen_le hi hh
    rw [wrap64_id (by omega) (by omega), show (64 : Int) + ((Lib.bitLen hi : Nat) : Int) = ((64 + Lib.bitLen hi : Nat) : Int) by omega]
    refine root_j1 k (by omega) _ lo hi hl hh (by omega) (by omega) ?_
    rw [Nat.pow_add]
    omega
end Go.Proofs.Ytenpiaafkmfjfaa.B

end
section
namespace Go.Proofs.Ytenpiaafkmfjfaa.B
open Go.RowKit Go.Proofs.YtenpiaafkmfjfaaW.PrintWords Go.Proofs.YtenpiaafkmfjfaaW.PrintLast Go.Proofs.YtenpiaafkmfjfaaW.PrintMore
theorem root_ex {n : Bool} {lo hi x : Int} (k : Nat) (hk : 18446744073709551660 ≤ k) (h : Ex n lo hi x) : fixed_words_root.f k lo hi = some ((isq x.natAbs : Nat) : Int) := by
  have ha := h.abs
  obtain ⟨h1, h2, h3, h4, _, _⟩ := h
  have := root_f k hk lo.toNat hi.toNat (by omega) (by omega)
  rw [show hi.toNat * 18446744073709551616 + lo.toNat = x.natAbs by omega, Int.toNat_of_nonneg h1, Int.toNat_of_nonneg h3] at this
  exact this
theorem fit_root (k : Nat) (hk : 1 ≤ k) (r : Nat) (hr : r < 18446744073709551616) (f : Bool) : fixed_exact_fit.f k false (r : Int) 0 f = some (fitV (r : Int), fitF (r : Int) f) :=
  fit_ex ⟨by omega, by omega, by omega, by omega, fun _ => by omega, fun h => absurd h (by decide)⟩ f k hk
theorem sqrt_neg (k : Nat) {v : Int} (f : Bool) (h : sv v < 0) : fixed_Sqrt.f k v f = some (0, true) := by
  unfold fixed_Sqrt.f
  rw [sound_f, Option.bind_some]
  dsimp only
  rw [if_pos h]
theorem sqrt_f (k : Nat) (hk : 18446744073709551660 ≤ k) {v : Int} (f : Bool) (hv : I64 v) (h : ¬ sv v < 0) : fixed_Sqrt.f k v f = some (fitV ((isq (sv v * 4294967296).natAbs : Nat) : Int), fitF ((isq (sv v * 4294967296).natAbs : Nat) : Int) (sf v f)) := by
  have hs := sv_i64 hv
  unfold fixed_Sqrt.f
  rw [sound_f, Option.bind_some]
  dsimp only
  rw [if_neg h, of_f hs.i64, Option.bind_some]
  dsimp only
  unfold Snd at hs
  rw [up_f (by omega) (by omega), Option.bind_some]
  dsimp only
  have x : Ex (decide (sv v < 0)) (((sv v).natAbs : Int) % 4294967296 * 4294967296) (((sv v).natAbs : Int) / 4294967296) (sv v * 4294967296) := by
    refine ⟨by omega, by omega, by omega, by omega, fun e => ?_, fun e => ?_⟩
    · have := of_decide_eq_false e; omega
    · have := of_decide_eq_true e; omega
  rw [root_ex k hk x, Option.bind_some, fit_root k (by omega) _ (isq_lt _ (by omega)), Option.bind_some]
theorem snd_mul {a b : Int} (ha : Snd a) (hb : Snd b) : -85070591730234615847396907784232501249 ≤ a * b ∧ a * b ≤ 85070591730234615847396907784232501249 := by
  have h : a.natAbs * b.natAbs ≤ 9223372036854775807 * 9223372036854775807 := by unfold Snd at *; exact Nat.mul_le_mul (by omega) (by omega)
  rw [← Int.natAbs_mul] at h
  omega
theorem hypot_f (k : Nat) (hk : 18446744073709551660 ≤ k) {a b : Int} (fa fb : Bool) (ha : I64 a) (hb : I64 b) :
    fixed_Hypot.f k a fa b fb = some (fitV ((isq (sv a * sv a + sv b * sv b).natAbs : Nat) : Int), fitF ((isq (sv a * sv a + sv b * sv b).natAbs : Nat) : Int) (sf a fa || sf b fb)) := by
  have sa := sv_i64 ha
  have sb := sv_i64 hb
  have ma := snd_mul sa sa
  have mb := snd_mul sb sb
  obtain ⟨n1, lo1, hi1, e1, x1⟩ := product_ex sa.i64 sa.i64
  obtain ⟨n2, lo2, hi2, e2, x2⟩ := product_ex sb.i64 sb.i64
  have hb : (sv a * sv a + sv b * sv b).natAbs < 170141183460469231731687303715884105728 := by omega
  obtain ⟨n, lo, hi, e, x⟩ := plus_ex k (by omega) x1 x2 hb
  have hfl : fixed_flags.f k [(⟨sv a, sf a fa⟩ : S23), ⟨sv b, sf b fb⟩] = some (sf a fa || sf b fb) := by
    rw [flags_f _ (by simp) k (by simp; omega)]
    simp
  unfold fixed_Hypot.f
  rw [sound_f, Option.bind_some, sound_f, Option.bind_some]
  dsimp only
  rw [e1, Option.bind_some, e2, Option.bind_some]
  dsimp only
  rw [e, Option.bind_some]
  dsimp only
  rw [root_ex k hk x, Option.bind_some, hfl, Option.bind_some, fit_root k (by omega) _ (isq_lt _ (by omega)), Option.bind_some]
theorem dot_f (k : Nat) (hk : 5 ≤ k) {a b c d : Int} (fa fb fc fd : Bool) (ha : I64 a) (hb : I64 b) (hc : I64 c) (hd : I64 d) :
    fixed_Dot.f k a fa b fb c fc d fd = some (fitV ((sv a * sv b + sv c * sv d).tdiv 4294967296), fitF ((sv a * sv b + sv c * sv d).tdiv 4294967296) (sf a fa || (sf b fb || (sf c fc || sf d fd)))) := by
  have ma := snd_mul (sv_i64 ha) (sv_i64 hb)
  have mb := snd_mul (sv_i64 hc) (sv_i64 hd)
  obtain ⟨n1, lo1, hi1, e1, x1⟩ := product_ex (sv_i64 ha).i64 (sv_i64 hb).i64
  obtain ⟨n2, lo2, hi2, e2, x2⟩ := product_ex (sv_i64 hc).i64 (sv_i64 hd).i64
  obtain ⟨n, lo, hi, e, x⟩ := plus_ex k (by omega) x1 x2 (by omega)
  obtain ⟨lo', hi', e', x'⟩ := down_ex x
  have hfl : fixed_flags.f k [(⟨sv a, sf a fa⟩ : S23), ⟨sv b, sf b fb⟩, ⟨sv c, sf c fc⟩, ⟨sv d, sf d fd⟩] = some (sf a fa || (sf b fb || (sf c fc || sf d fd))) := by
    rw [flags_f _ (by simp) k (by simp; omega)]
    simp
  unfold fixed_Dot.f
  rw [sound_f, Option.bind_some, sound_f, Option.bind_some, sound_f, Option.bind_some, sound_f, Option.bind_some]
  dsimp only
  rw [e1, Option.bind_some, e2, Option.bind_some]
  dsimp only
  rw [e, Option.bind_some]
  dsimp only
  rw [e', Option.bind_some]
  dsimp only
  rw [hfl, Option.bind_some, fit_ex x' _ k (by omega), Option.bind_some]
end Go.Proofs.Ytenpiaafkmfjfaa.B

end
section
namespace Go.Proofs.Ytenpiaafkmfjfaa.B
open Go.RowKit Go.Proofs.YtenpiaafkmfjfaaW.PrintWords Go.Proofs.YtenpiaafkmfjfaaW.PrintLast Go.Proofs.YtenpiaafkmfjfaaW.PrintMore
def InvB (w0 : World) (bs : List (Nat × Int × Bool)) (w : World) : Prop :=
  Below w0.heap.size w0 w ∧ (∀ e ∈ bs, w.heap[e.1]? = some (.cells #[.int .i64 e.2.1, .bool e.2.2] 23 (0, 0)) ∧ w0.heap.size ≤ e.1) ∧ bs.Pairwise (fun x y => y.1 < x.1)
theorem InvB.new (w : World) : InvB w [] w := ⟨Below.refl _ _, (fun _ h => by cases h), .nil⟩
theorem InvB.below {w0 W W' : World} {bs : List (Nat × Int × Bool)} (h : InvB w0 bs W) (hb : Below W.heap.size W W') : InvB w0 bs W' :=
  ⟨below_step h.1 hb, fun e he => ⟨blk_below (h.2.1 e he).1 hb, (h.2.1 e he).2⟩, h.2.2⟩
theorem InvB.drew {w0 W : World} {bs : List (Nat × Int × Bool)} (h : InvB w0 bs W) : InvB w0 bs W.drew :=
  ⟨below_drew1 h.1, fun e he => ⟨blk_drew (h.2.1 e he).1, (h.2.1 e he).2⟩, h.2.2⟩
theorem InvB.box {w0 W W1 : World} {bs : List (Nat × Int × Bool)} {g : Nat} {v : Int} {f : Bool} (h : InvB w0 bs W) (hbox : W1.heap[g]? = some (.cells #[.int .i64 v, .bool f] 23 (0, 0))) (hb : Below W.heap.size W W1) (hg : g = W.heap.size) : InvB w0 ((g, v, f) :: bs) W1 := by
  have h' := h.below hb
  refine ⟨h'.1, fun e he => ?_, List.pairwise_cons.2 ⟨fun e he => ?_, h.2.2⟩⟩
  · rcases List.mem_cons.1 he with rfl | he
    · exact ⟨hbox, by rw [hg]; exact below_size h.1⟩
    · exact h'.2.1 e he
  · rw [hg]; exact blk_lt (h.2.1 e he).1
theorem InvB.blk {w0 W : World} {bs : List (Nat × Int × Bool)} {g : Nat} {v : Int} {f : Bool} (h : InvB w0 bs W) (k : Nat) (hk : bs[k]? = some (g, v, f)) : W.heap[g]? = some (.cells #[.int .i64 v, .bool f] 23 (0, 0)) :=
  (h.2.1 _ (List.mem_of_getElem? hk)).1
theorem InvB.q0 {w0 W : World} {bs : List (Nat × Int × Bool)} {g : Nat} {v : Int} {f : Bool} (h : InvB w0 bs W) (k : Nat) (hk : bs[k]? = some (g, v, f)) : W.cell? ⟨g, 0, none⟩ = some (.int .i64 v) :=
  (blk_cell (h.blk k hk) 0).trans rfl
theorem InvB.q1 {w0 W : World} {bs : List (Nat × Int × Bool)} {g : Nat} {v : Int} {f : Bool} (h : InvB w0 bs W) (k : Nat) (hk : bs[k]? = some (g, v, f)) : W.cell? ⟨g, 1, none⟩ = some (.bool f) :=
  (blk_cell (h.blk k hk) 1).trans rfl
theorem InvB.z0 {w0 W : World} {bs : List (Nat × Int × Bool)} {g : Nat} {v : Int} {f : Bool} (h : InvB w0 bs W) (k : Nat) (hk : bs[k]? = some (g, v, f)) : W.frozen? ⟨g, 0, none⟩ = false := blk_frozen (h.blk k hk) 0
theorem InvB.z1 {w0 W : World} {bs : List (Nat × Int × Bool)} {g : Nat} {v : Int} {f : Bool} (h : InvB w0 bs W) (k : Nat) (hk : bs[k]? = some (g, v, f)) : W.frozen? ⟨g, 1, none⟩ = false := blk_frozen (h.blk k hk) 1
theorem InvB.ne {w0 W : World} {bs : List (Nat × Int × Bool)} {g g' : Nat} {v v' : Int} {f f' : Bool} (h : InvB w0 bs W) (i j : Nat) (hi : bs[i]? = some (g, v, f)) (hj : bs[j]? = some (g', v', f')) (hij : i < j) : g ≠ g' ∧ g' ≠ g := by
  obtain ⟨li, ei⟩ := List.getElem?_eq_some_iff.1 hi
  obtain ⟨lj, ej⟩ := List.getElem?_eq_some_iff.1 hj
  have hp := (List.pairwise_iff_getElem.1 h.2.2) i j li lj hij
  rw [ei, ej] at hp
  have hlt : g' < g := hp
  omega
theorem InvB.put {w0 W : World} {bs : List (Nat × Int × Bool)} {g : Nat} {v v' : Int} {f f' : Bool} (h : InvB w0 ((g, v, f) :: bs) W) : InvB w0 ((g, v', f') :: bs) ((W.setCell ⟨g, 0, none⟩ (.int .i64 v')).setCell ⟨g, 1, none⟩ (.bool f')) := by
  have hg := (h.2.1 _ List.mem_cons_self)
  have hn := List.pairwise_cons.1 h.2.2
  refine ⟨below_set (below_set h.1 hg.2) hg.2, fun e he => ?_, List.pairwise_cons.2 hn⟩
  rcases List.mem_cons.1 he with rfl | he
  · exact ⟨blk_put (cs := #[.int .i64 v', .bool f]) (blk_put (cs := #[.int .i64 v, .bool f]) hg.1 0 _ rfl) 1 _ rfl, hg.2⟩
  · have hlt : e.1 < g := hn.1 e he
    have hne : e.1 ≠ g := by omega
    exact ⟨blk_far (blk_far (h.2.1 e (List.mem_cons_of_mem _ he)).1 hne _) hne _, (h.2.1 e (List.mem_cons_of_mem _ he)).2⟩
def Sl (w : World) (v : Value) (l : List S23) : Prop := ∃ A c, v = .slice A l.length c ∧ l.length ≤ c ∧ Kd.C k23 w A l.length l
theorem Sl.below {W W' : World} {v : Value} {l : List S23} (h : Sl W v l) (hb : Below W.heap.size W W') : Sl W' v l := by
  obtain ⟨A, c, e, hc, hr⟩ := h
  exact ⟨A, c, e, hc, Kd.C_below hr hb⟩
theorem Sl.of {w : World} {base : Nat} {ok : Nat → Prop} {v : Value} {l : List S23} (h : Kd.R k23 23 w base ok v l) : Sl w v l := Kd.R_reads h
theorem reps2 (w : World) (base : Nat) (ok : Nat → Prop) (x y : S23) : Reps (Kd.M k23 w base ok) (Kd.sz k23) [x, y] [.int .i64 x.f0, .bool x.f1, .int .i64 y.f0, .bool y.f1] :=
  Reps.c2 (k23_mkM _ _ _ x) (Reps.c2 (k23_mkM _ _ _ y) (Reps.none _ _))
theorem reps3 (w : World) (base : Nat) (ok : Nat → Prop) (x y z : S23) : Reps (Kd.M k23 w base ok) (Kd.sz k23) [x, y, z] [.int .i64 x.f0, .bool x.f1, .int .i64 y.f0, .bool y.f1, .int .i64 z.f0, .bool z.f1] :=
  Reps.c2 (k23_mkM _ _ _ x) (Reps.c2 (k23_mkM _ _ _ y) (Reps.c2 (k23_mkM _ _ _ z) (Reps.none _ _)))
end Go.Proofs.Ytenpiaafkmfjfaa.B

end
section
namespace Go.Proofs.Ytenpiaafkmfjfaa.B
open Go.RowKit Go.Proofs.YtenpiaafkmfjfaaW.PrintWords Go.Proofs.YtenpiaafkmfjfaaW.PrintLast Go.Proofs.YtenpiaafkmfjfaaW.PrintMore
theorem sum_sl (k : Nat) (v : Value) (l : List S23) (r1 : Int) (r2 : Bool) (w : World) (hs : Sl w v l) (h : fixed_Sum.f k l = some (r1, r2)) :
    Calls Try.prog 32 #[v] w fun e w' => e = .returned (.agg #[.int .i64 r1, .bool r2]) ∧ Below w.heap.size w w' := by
  obtain ⟨A, c, rfl, hc, hr⟩ := hs
  exact fixed_Sum.calls k A c l r1 r2 w hr hc h
theorem min_sl (k : Nat) (v : Value) (l : List S23) (r1 : Int) (r2 : Bool) (w : World) (hs : Sl w v l) (h : fixed_Min.f k l = some (r1, r2)) :
    Calls Try.prog 28 #[v] w fun e w' => e = .returned (.agg #[.int .i64 r1, .bool r2]) ∧ Below w.heap.size w w' := by
  obtain ⟨A, c, rfl, hc, hr⟩ := hs
  exact fixed_Min.calls k A c l r1 r2 w hr hc h
theorem max_sl (k : Nat) (v : Value) (l : List S23) (r1 : Int) (r2 : Bool) (w : World) (hs : Sl w v l) (h : fixed_Max.f k l = some (r1, r2)) :
    Calls Try.prog 30 #[v] w fun e w' => e = .returned (.agg #[.int .i64 r1, .bool r2]) ∧ Below w.heap.size w w' := by
  obtain ⟨A, c, rfl, hc, hr⟩ := hs
  exact fixed_Max.calls k A c l r1 r2 w hr hc h
end Go.Proofs.Ytenpiaafkmfjfaa.B

end
