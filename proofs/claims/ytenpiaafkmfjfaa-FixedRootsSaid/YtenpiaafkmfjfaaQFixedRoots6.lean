/- FixedRoots: part 6 of the proof. -/
import Derived.Test.YtenpiaafkmfjfaaQFixedRoots5
section
namespace Go.Proofs.Ytenpiaafkmfjfaa.B
open Go.RowKit Go.Proofs.YtenpiaafkmfjfaaW.PrintWords Go.Proofs.YtenpiaafkmfjfaaW.PrintLast Go.Proofs.YtenpiaafkmfjfaaW.PrintMore
attribute [local go_sem] max2_int min2_int max_two min_two max_three min_three max_four min_four
set_option linter.unusedVariables false
set_option linter.unusedSimpArgs false
def fixed_Hypot.f (k : Nat) (a0_0 : Int) (a0_1 : Bool) (a1_0 : Int) (a1_1 : Bool) : Option (Int × Bool) := (fixed_sound.f a0_0 a0_1).bind fun bt298 => ((fixed_sound.f a1_0 a1_1).bind fun bt300 => ((fixed_product.f bt298.1 bt298.1).bind fun bt302 => ((fixed_product.f bt300.1 bt300.1).bind fun bt305 => ((fixed_exact_plus.f k bt302.1 bt302.2.1 bt302.2.2 bt305.1 bt305.2.1 bt305.2.2).bind fun bt308 => ((fixed_words_root.f k bt308.2.1 bt308.2.2).bind fun t311 => ((fixed_flags.f k (([(⟨bt298.1, bt298.2⟩ : S23), (⟨bt300.1, bt300.2⟩ : S23)] : List (S23)))).bind fun t315 => ((fixed_exact_fit.f k false t311 0 t315).bind fun bt316 => (some (bt316.1, bt316.2)))))))))
def fixed_Hypot.T2 : Bool × List (List Nat × List Nat) := (true, [([], []), ([0], [0]), ([], []), ([2], [2]), ([1, 3], [1, 3]), ([], []), ([5], [5]), ([], []), ([7], [7]), ([6, 8, 4], [6, 8]), ([4, 9, 9], [4, 9]), ([10], [10]), ([11, 10], [11]), ([12], [12]), ([13], [13]), ([], []), ([], []), ([15, 16], [15, 16]), ([17, 12], [17]), ([14, 18, 18], [14, 18]), ([19, 19, 0, 1, 2, 3, 4, 5, 6, 7, 8, 9, 10, 11, 12, 13, 14, 15, 16, 17, 18, 19], [19])])
def fixed_Hypot.B2 : List Nat := [0, 1, 0, 4, 15, 0, 32, 0, 128, 511, 1023, 2047, 4095, 8191, 16383, 0, 0, 98304, 237567, 524287, 1048575]
theorem fixed_Hypot.tab2 : rtab .any (opsOf Try.f44 2) = fixed_Hypot.T2 := by kernel_rfl
theorem fixed_Hypot.bits2 : waitsOk fixed_Hypot.T2.2 fixed_Hypot.B2 = true := by kernel_rfl
set_option maxHeartbeats 8000000 in
set_option maxRecDepth 100000 in
theorem fixed_Hypot.calls (k : Nat) (a0_0 : Int) (a0_1 : Bool) (a1_0 : Int) (a1_1 : Bool) (r1 : Int) (r2 : Bool) (w : World) (h : fixed_Hypot.f k a0_0 a0_1 a1_0 a1_1 = some (r1, r2)) :
    Calls Try.prog 44 #[.agg #[.int .i64 a0_0, .bool a0_1], .agg #[.int .i64 a1_0, .bool a1_1]] w fun e w' => e = .returned (.agg #[.int .i64 r1, .bool r2]) ∧ Below w.heap.size w w' := by
  have hu23 := Try.underlying23
  have hu58 := Try.underlying58
  have hu60 := Try.underlying60
  have hfld60_1 := @fld60_1
  have HB := Aside0.mk (Below.refl w.heap.size w)
  have H : ((fixed_sound.f a0_0 a0_1).bind fun bt298 => ((fixed_sound.f a1_0 a1_1).bind fun bt300 => ((fixed_product.f bt298.1 bt298.1).bind fun bt302 => ((fixed_product.f bt300.1 bt300.1).bind fun bt305 => ((fixed_exact_plus.f k bt302.1 bt302.2.1 bt302.2.2 bt305.1 bt305.2.1 bt305.2.2).bind fun bt308 => ((fixed_words_root.f k bt308.2.1 bt308.2.2).bind fun t311 => ((fixed_flags.f k (([(⟨bt298.1, bt298.2⟩ : S23), (⟨bt300.1, bt300.2⟩ : S23)] : List (S23)))).bind fun t315 => ((fixed_exact_fit.f k false t311 0 t315).bind fun bt316 => (some (bt316.1, bt316.2)))))))))) = some (r1, r2) := h
  clear h
  replace H := Option.bind_eq_some_iff.mp H
  obtain ⟨⟨t298, t299⟩, A30, H⟩ := H
  replace H : ((fixed_sound.f a1_0 a1_1).bind fun bt300 => ((fixed_product.f t298 t298).bind fun bt302 => ((fixed_product.f bt300.1 bt300.1).bind fun bt305 => ((fixed_exact_plus.f k bt302.1 bt302.2.1 bt302.2.2 bt305.1 bt305.2.1 bt305.2.2).bind fun bt308 => ((fixed_words_root.f k bt308.2.1 bt308.2.2).bind fun t311 => ((fixed_flags.f k (([(⟨t298, t299⟩ : S23), (⟨bt300.1, bt300.2⟩ : S23)] : List (S23)))).bind fun t315 => ((fixed_exact_fit.f k false t311 0 t315).bind fun bt316 => (some (bt316.1, bt316.2))))))))) = some (r1, r2) := H
  have A3 := Aside0.mk A30
  clear A30
  replace H := Option.bind_eq_some_iff.mp H
  obtain ⟨⟨t300, t301⟩, A40, H⟩ := H
  replace H : ((fixed_product.f t298 t298).bind fun bt302 => ((fixed_product.f t300 t300).bind fun bt305 => ((fixed_exact_plus.f k bt302.1 bt302.2.1 bt302.2.2 bt305.1 bt305.2.1 bt305.2.2).bind fun bt308 => ((fixed_words_root.f k bt308.2.1 bt308.2.2).bind fun t311 => ((fixed_flags.f k (([(⟨t298, t299⟩ : S23), (⟨t300, t301⟩ : S23)] : List (S23)))).bind fun t315 => ((fixed_exact_fit.f k false t311 0 t315).bind fun bt316 => (some (bt316.1, bt316.2)))))))) = some (r1, r2) := H
  have A4 := Aside0.mk A40
  clear A40
  replace H := Option.bind_eq_some_iff.mp H
  obtain ⟨⟨t302, t303, t304⟩, A50, H⟩ := H
  replace H : ((fixed_product.f t300 t300).bind fun bt305 => ((fixed_exact_plus.f k t302 t303 t304 bt305.1 bt305.2.1 bt305.2.2).bind fun bt308 => ((fixed_words_root.f k bt308.2.1 bt308.2.2).bind fun t311 => ((fixed_flags.f k (([(⟨t298, t299⟩ : S23), (⟨t300, t301⟩ : S23)] : List (S23)))).bind fun t315 => ((fixed_exact_fit.f k false t311 0 t315).bind fun bt316 => (some (bt316.1, bt316.2))))))) = some (r1, r2) := H
  have A5 := Aside0.mk A50
  clear A50
  replace H := Option.bind_eq_some_iff.mp H
  obtain ⟨⟨t305, t306, t307⟩, A60, H⟩ := H
  replace H : ((fixed_exact_plus.f k t302 t303 t304 t305 t306 t307).bind fun bt308 => ((fixed_words_root.f k bt308.2.1 bt308.2.2).bind fun t311 => ((fixed_flags.f k (([(⟨t298, t299⟩ : S23), (⟨t300, t301⟩ : S23)] : List (S23)))).bind fun t315 => ((fixed_exact_fit.f k false t311 0 t315).bind fun bt316 => (some (bt316.1, bt316.2)))))) = some (r1, r2) := H
  have A6 := Aside0.mk A60
  clear A60
  replace H := Option.bind_eq_some_iff.mp H
  obtain ⟨⟨t308, t309, t310⟩, A70, H⟩ := H
  replace H : ((fixed_words_root.f k t309 t310).bind fun t311 => ((fixed_flags.f k (([(⟨t298, t299⟩ : S23), (⟨t300, t301⟩ : S23)] : List (S23)))).bind fun t315 => ((fixed_exact_fit.f k false t311 0 t315).bind fun bt316 => (some (bt316.1, bt316.2))))) = some (r1, r2) := H
  have A7 := Aside0.mk A70
  clear A70
  replace H := Option.bind_eq_some_iff.mp H
  obtain ⟨t311, A80, H⟩ := H
  replace H : ((fixed_flags.f k (([(⟨t298, t299⟩ : S23), (⟨t300, t301⟩ : S23)] : List (S23)))).bind fun t315 => ((fixed_exact_fit.f k false t311 0 t315).bind fun bt316 => (some (bt316.1, bt316.2)))) = some (r1, r2) := H
  have A8 := Aside0.mk A80
  clear A80
  obtain ⟨y312, hy312⟩ : ∃ y_ : List (S23), y_ = (([(⟨t298, t299⟩ : S23), (⟨t300, t301⟩ : S23)] : List (S23))) := ⟨_, rfl⟩
  replace H : ((fixed_flags.f k y312).bind fun t315 => ((fixed_exact_fit.f k false t311 0 t315).bind fun bt316 => (some (bt316.1, bt316.2)))) = some (r1, r2) := by first | (rw [hy312]; with_reducible exact H) | (have H2_ := (Option.bind_some _ _).symm.trans H; rw [hy312]; with_reducible exact H2_) | (have H2_ := (Option.bind_some _ _).symm.trans H; with_reducible exact H2_) | with_reducible exact H | (rw [hy312]; exact H) | exact H
  have Ny312 := Aside0.mk hy312
  clear hy312
  replace H := Option.bind_eq_some_iff.mp H
  obtain ⟨t315, A90, H⟩ := H
  replace H : ((fixed_exact_fit.f k false t311 0 t315).bind fun bt316 => (some (bt316.1, bt316.2))) = some (r1, r2) := H
  have A9 := Aside0.mk A90
  clear A90
  replace H := Option.bind_eq_some_iff.mp H
  obtain ⟨⟨t316, t317⟩, A100, H⟩ := H
  replace H : (some (t316, t317)) = some (r1, r2) := H
  have A10 := Aside0.mk A100
  clear A100
  simp only [Option.some.injEq, Prod.mk.injEq] at H
  obtain ⟨rfl, rfl⟩ := H
  go_enter Try.func44, Try.ntmps44
  try go_wp2_with (first | ((with_reducible refine gate_dst (N := 2) rfl ?_); refine box_event ?hg (N := 2) ?hd (cs := #[.int .i64 a0_0, .bool a0_1]) (t := 23) ?hr ?_; (case hd => rfl); (case hg => rfl); (case hr => first | (go_simp; done) | (go_simp; rfl)); intro gb295 hg w11 hbox hb; have n0_ := Aside0.mk (below_step (by repeat (first | (with_reducible first | exact HB.out | apply below_alloc | apply pw_below_drewN | apply below_drew1) | exact HB.out)) hb); have n1_ := Aside0.mk (hbox); have n2_ := Aside0.mk ((by rw [hg]; exact (below_size (by repeat (first | (with_reducible first | exact HB.out | apply below_alloc | apply pw_below_drewN | apply below_drew1) | exact HB.out))) : w.heap.size ≤ gb295)); have n3_ := Aside0.mk ((by rw [hg]; exact (below_size (by repeat (first | (with_reducible first | exact HB.out | apply below_alloc | apply pw_below_drewN | apply below_drew1) | exact HB.out))) : w.heap.size ≤ gb295)); clear HB; have HB := n0_; have BK295 := n1_; have GW295 := n2_; have GE295 := n3_; clear n0_ n1_ n2_ n3_; clear hb hbox hg) | ((with_reducible refine gate_dst (N := 3) rfl ?_); refine box_event ?hg (N := 3) ?hd (cs := #[.int .i64 a1_0, .bool a1_1]) (t := 23) ?hr ?_; (case hd => rfl); (case hg => rfl); (case hr => first | (go_simp; done) | (go_simp; rfl)); intro gb296 hg w12 hbox hb; have n0_ := Aside0.mk (blk_below (g := gb295) (o := .cells #[.int .i64 a0_0, .bool a0_1] 23 (0, 0)) (by (with_reducible repeat (first | refine blk_drewN ?_ _ | refine blk_drew ?_ | refine blk_alloc ?_ _)); exact BK295.out) hb); have n1_ := Aside0.mk (below_step (by repeat (first | (with_reducible first | exact HB.out | apply below_alloc | apply pw_below_drewN | apply below_drew1 | refine below_set ?_ GE295.out) | exact HB.out)) hb); have n2_ := Aside0.mk (hbox); have n3_ := Aside0.mk ((by rw [hg]; exact (below_size (by repeat (first | (with_reducible first | exact HB.out | apply below_alloc | apply pw_below_drewN | apply below_drew1 | refine below_set ?_ GE295.out) | exact HB.out))) : w.heap.size ≤ gb296)); have n4_ := Aside0.mk ((by rw [hg]; exact (below_size (by repeat (first | (with_reducible first | exact HB.out | apply below_alloc | apply pw_below_drewN | apply below_drew1 | refine below_set ?_ GE295.out) | exact HB.out))) : w.heap.size ≤ gb296)); have n5_ := Aside0.mk ((by rw [hg]; exact Nat.ne_of_lt (blk_lt (g := gb295) (o := .cells #[.int .i64 a0_0, .bool a0_1] 23 (0, 0)) (by (with_reducible repeat (first | refine blk_drewN ?_ _ | refine blk_drew ?_ | refine blk_alloc ?_ _)); exact BK295.out)) : gb295 ≠ gb296)); have n6_ := Aside0.mk ((by rw [hg]; exact Nat.ne_of_gt (blk_lt (g := gb295) (o := .cells #[.int .i64 a0_0, .bool a0_1] 23 (0, 0)) (by (with_reducible repeat (first | refine blk_drewN ?_ _ | refine blk_drew ?_ | refine blk_alloc ?_ _)); exact BK295.out)) : gb296 ≠ gb295)); clear BK295; clear HB; have BK295 := n0_; have HB := n1_; have BK296 := n2_; have GW296 := n3_; have GE296 := n4_; have NB295_296 := n5_; have NB296_295 := n6_; clear n0_ n1_ n2_ n3_ n4_ n5_ n6_; clear hb hbox hg) | ((with_reducible refine gate_dst (N := 4) rfl ?_); refine box_event ?hg (N := 4) ?hd (cs := #[.int .i64 0, .bool false]) (t := 23) ?hr ?_; (case hd => rfl); (case hg => rfl); (case hr => first | (go_simp; done) | (go_simp; rfl)); intro gb297 hg w13 hbox hb; have n0_ := Aside0.mk (blk_below (g := gb295) (o := .cells #[.int .i64 a0_0, .bool a0_1] 23 (0, 0)) (by (with_reducible repeat (first | refine blk_drewN ?_ _ | refine blk_drew ?_ | refine blk_alloc ?_ _)); exact BK295.out) hb); have n1_ := Aside0.mk (blk_below (g := gb296) (o := .cells #[.int .i64 a1_0, .bool a1_1] 23 (0, 0)) (by (with_reducible repeat (first | refine blk_drewN ?_ _ | refine blk_drew ?_ | refine blk_alloc ?_ _)); exact BK296.out) hb); have n2_ := Aside0.mk (below_step (by repeat (first | (with_reducible first | exact HB.out | apply below_alloc | apply pw_below_drewN | apply below_drew1 | refine below_set ?_ GE295.out | refine below_set ?_ GE296.out) | exact HB.out)) hb); have n3_ := Aside0.mk (hbox); have n4_ := Aside0.mk ((by rw [hg]; exact (below_size (by repeat (first | (with_reducible first | exact HB.out | apply below_alloc | apply pw_below_drewN | apply below_drew1 | refine below_set ?_ GE295.out | refine below_set ?_ GE296.out) | exact HB.out))) : w.heap.size ≤ gb297)); have n5_ := Aside0.mk ((by rw [hg]; exact (below_size (by repeat (first | (with_reducible first | exact HB.out | apply below_alloc | apply pw_below_drewN | apply below_drew1 | refine below_set ?_ GE295.out | refine below_set ?_ GE296.out) | exact HB.out))) : w.heap.size ≤ gb297)); have n6_ := Aside0.mk ((by rw [hg]; exact Nat.ne_of_lt (blk_lt (g := gb295) (o := .cells #[.int .i64 a0_0, .bool a0_1] 23 (0, 0)) (by (with_reducible repeat (first | refine blk_drewN ?_ _ | refine blk_drew ?_ | refine blk_alloc ?_ _)); exact BK295.out)) : gb295 ≠ gb297)); have n7_ := Aside0.mk ((by rw [hg]; exact Nat.ne_of_gt (blk_lt (g := gb295) (o := .cells #[.int .i64 a0_0, .bool a0_1] 23 (0, 0)) (by (with_reducible repeat (first | refine blk_drewN ?_ _ | refine blk_drew ?_ | refine blk_alloc ?_ _)); exact BK295.out)) : gb297 ≠ gb295)); have n8_ := Aside0.mk ((by rw [hg]; exact Nat.ne_of_lt (blk_lt (g := gb296) (o := .cells #[.int .i64 a1_0, .bool a1_1] 23 (0, 0)) (by (with_reducible repeat (first | refine blk_drewN ?_ _ | refine blk_drew ?_ | refine blk_alloc ?_ _)); exact BK296.out)) : gb296 ≠ gb297)); have n9_ := Aside0.mk ((by rw [hg]; exact Nat.ne_of_gt (blk_lt (g := gb296) (o := .cells #[.int .i64 a1_0, .bool a1_1] 23 (0, 0)) (by (with_reducible repeat (first | refine blk_drewN ?_ _ | refine blk_drew ?_ | refine blk_alloc ?_ _)); exact BK296.out)) : gb297 ≠ gb296)); clear BK295; clear BK296; clear HB; have BK295 := n0_; have BK296 := n1_; have HB := n2_; have BK297 := n3_; have GW297 := n4_; have GE297 := n5_; have NB295_297 := n6_; have NB297_295 := n7_; have NB296_297 := n8_; have NB297_296 := n9_; clear n0_ n1_ n2_ n3_ n4_ n5_ n6_ n7_ n8_ n9_; clear hb hbox hg))
  have n0_ := Aside0.mk (blk_drew BK295.out)
  have n1_ := Aside0.mk (blk_drew BK296.out)
  have n2_ := Aside0.mk (blk_drew BK297.out)
  have n3_ := Aside0.mk (below_drew1 HB.out)
  clear BK295
  clear BK296
  clear BK297
  clear HB
  have BK295 := n0_
  have BK296 := n1_
  have BK297 := n2_
  have HB := n3_
  clear n0_ n1_ n2_ n3_
  refine start_ (n := 6) (S := fun w' => w'.cell? ⟨gb295, 0, none⟩ = some (.int .i64 a0_0) ∧ w'.cell? ⟨gb295, 1, none⟩ = some (.bool a0_1) ∧ w'.cell? ⟨gb296, 0, none⟩ = some (.int .i64 a1_0) ∧ w'.cell? ⟨gb296, 1, none⟩ = some (.bool a1_1)) (ds := [4, 5]) #[false, false, false, false, false, false] (by kernel_rfl) rfl rfl ⟨(blk_cell BK295.out 0).trans rfl, (blk_cell BK295.out 1).trans rfl, (blk_cell BK296.out 0).trans rfl, (blk_cell BK296.out 1).trans rfl⟩ (fun hHeld => ?_)
  generalize w13.drew = w14 at BK295 BK296 BK297 HB hHeld ⊢
  refine take_ (i := 0) (N := some 5) (v := ?_) (a' := ?_) #[true, false, false, false, false, false] rfl rfl (by kernel_rfl) (fun _ _ _ h => h) (Or.inl ⟨by rfl, ?_⟩) hHeld ?_ ?_
  rotate_left
  · rintro w' ⟨s0, s1, s2, s3⟩
    go_simp
    with_reducible rfl
  rotate_left
  · simp only [Act.put, List.setIfInBounds_toArray, List.set_cons_zero, List.set_cons_succ, i64_w, i32_w]
    rfl
  refine take_ (i := 2) (N := some 7) (v := ?_) (a' := ?_) #[true, false, true, false, false, false] rfl rfl (by kernel_rfl) (fun _ _ _ h => h) (Or.inl ⟨by rfl, ?_⟩) hHeld ?_ ?_
  rotate_left
  · rintro w' ⟨s0, s1, s2, s3⟩
    go_simp
    with_reducible rfl
  rotate_left
  · simp only [Act.put, List.setIfInBounds_toArray, List.set_cons_zero, List.set_cons_succ, i64_w, i32_w]
    rfl
  refine one_ (i := 1) (N := some 6) #[true, true, true, false, false, false] rfl rfl (by kernel_rfl) (by decide) (fun K hK => ?_)
  refine goes_ Try.func72 (by kernel_rfl) rfl #[.agg #[.int .i64 a0_0, .bool a0_1]] (by rfl) rfl rfl (by (try simp only [List.map_toArray, List.map_cons, List.map_nil]); first | done | rfl | (simp only [List.length_drop, List.length_take]; rfl)) ?_
  with_reducible refine (fixed_sound.calls a0_0 a0_1 t298 t299 _ A3.out).mono ?_
  rintro e w15 ⟨rfl, hb⟩
  refine ⟨_, rfl, ?_⟩
  have n0_ := Aside0.mk (blk_below (g := gb295) (o := .cells #[.int .i64 a0_0, .bool a0_1] 23 (0, 0)) (by (with_reducible repeat (first | refine blk_drewN ?_ _ | refine blk_drew ?_ | refine blk_alloc ?_ _)); exact BK295.out) hb)
  have n1_ := Aside0.mk (blk_below (g := gb296) (o := .cells #[.int .i64 a1_0, .bool a1_1] 23 (0, 0)) (by (with_reducible repeat (first | refine blk_drewN ?_ _ | refine blk_drew ?_ | refine blk_alloc ?_ _)); exact BK296.out) hb)
  have n2_ := Aside0.mk (blk_below (g := gb297) (o := .cells #[.int .i64 0, .bool false] 23 (0, 0)) (by (with_reducible repeat (first | refine blk_drewN ?_ _ | refine blk_drew ?_ | refine blk_alloc ?_ _)); exact BK297.out) hb)
  have n3_ := Aside0.mk (below_step (by repeat (first | (with_reducible first | exact HB.out | apply below_alloc | apply pw_below_drewN | apply below_drew1 | refine below_set ?_ GE295.out | refine below_set ?_ GE296.out | refine below_set ?_ GE297.out) | exact HB.out)) hb)
  clear BK295
  clear BK296
  clear BK297
  clear HB
  have BK295 := n0_
  have BK296 := n1_
  have BK297 := n2_
  have HB := n3_
  clear n0_ n1_ n2_ n3_
  (try clear hb)
  (try clear hb2)
  (try clear hk)
  (try clear hi)
  refine hK.out _ _ ⟨(blk_cell BK295.out 0).trans rfl, (blk_cell BK295.out 1).trans rfl, (blk_cell BK296.out 0).trans rfl, (blk_cell BK296.out 1).trans rfl⟩ (fun hHeld => ?_)
  clear hK K
  refine norm_ (a' := ?_) ?_ ?_
  rotate_left
  · show Act.put _ (some 6) _ = _
    simp only [Act.put, List.setIfInBounds_toArray, List.set_cons_zero, List.set_cons_succ, i64_w, i32_w]
    rfl
  refine one_ (i := 3) (N := some 8) #[true, true, true, true, false, false] rfl rfl (by kernel_rfl) (by decide) (fun K hK => ?_)
  refine goes_ Try.func72 (by kernel_rfl) rfl #[.agg #[.int .i64 a1_0, .bool a1_1]] (by rfl) rfl rfl (by (try simp only [List.map_toArray, List.map_cons, List.map_nil]); first | done | rfl | (simp only [List.length_drop, List.length_take]; rfl)) ?_
  with_reducible refine (fixed_sound.calls a1_0 a1_1 t300 t301 _ A4.out).mono ?_
  rintro e w16 ⟨rfl, hb⟩
  refine ⟨_, rfl, ?_⟩
  have n0_ := Aside0.mk (blk_below (g := gb295) (o := .cells #[.int .i64 a0_0, .bool a0_1] 23 (0, 0)) (by (with_reducible repeat (first | refine blk_drewN ?_ _ | refine blk_drew ?_ | refine blk_alloc ?_ _)); exact BK295.out) hb)
  have n1_ := Aside0.mk (blk_below (g := gb296) (o := .cells #[.int .i64 a1_0, .bool a1_1] 23 (0, 0)) (by (with_reducible repeat (first | refine blk_drewN ?_ _ | refine blk_drew ?_ | refine blk_alloc ?_ _)); exact BK296.out) hb)
  have n2_ := Aside0.mk (blk_below (g := gb297) (o := .cells #[.int .i64 0, .bool false] 23 (0, 0)) (by (with_reducible repeat (first | refine blk_drewN ?_ _ | refine blk_drew ?_ | refine blk_alloc ?_ _)); exact BK297.out) hb)
  have n3_ := Aside0.mk (below_step (by repeat (first | (with_reducible first | exact HB.out | apply below_alloc | apply pw_below_drewN | apply below_drew1 | refine below_set ?_ GE295.out | refine below_set ?_ GE296.out | refine below_set ?_ GE297.out) | exact HB.out)) hb)
  clear BK295
  clear BK296
  clear BK297
  clear HB
  have BK295 := n0_
  have BK296 := n1_
  have BK297 := n2_
  have HB := n3_
  clear n0_ n1_ n2_ n3_
  (try clear hb)
  (try clear hb2)
  (try clear hk)
  (try clear hi)
  refine hK.out _ _ ⟨(blk_cell BK295.out 0).trans rfl, (blk_cell BK295.out 1).trans rfl, (blk_cell BK296.out 0).trans rfl, (blk_cell BK296.out 1).trans rfl⟩ (fun hHeld => ?_)
  clear hK K
  refine norm_ (a' := ?_) ?_ ?_
  rotate_left
  · show Act.put _ (some 8) _ = _
    simp only [Act.put, List.setIfInBounds_toArray, List.set_cons_zero, List.set_cons_succ, i64_w, i32_w]
    rfl
  refine last_ (i := 4) (N := none) #[true, true, true, true, true, false] rfl rfl (by kernel_rfl) (by decide) (fun K hK => ?_)
  have hs17 : w16.cell? ⟨gb295, 0, none⟩ = some (.int .i64 a0_0) := (blk_cell BK295.out 0).trans rfl
  have hfs17 := blk_frozen BK295.out 0
  have hns17_1 := NB296_295.out
  have hns17_2 := NB297_295.out
  have hms17_1 := NB295_296.out
  have hms17_2 := NB295_297.out
  have hs18 : w16.cell? ⟨gb295, 1, none⟩ = some (.bool a0_1) := (blk_cell BK295.out 1).trans rfl
  have hfs18 := blk_frozen BK295.out 1
  have hns18_1 := NB296_295.out
  have hns18_2 := NB297_295.out
  have hms18_1 := NB295_296.out
  have hms18_2 := NB295_297.out
  refine skip_ (w1 := ?_) (by rfl) rfl ?_ ?_
  rotate_left
  · go_simp
    rfl
  refine hK.out _ _ ?_
  clear hK K
  refine last_ (i := 5) (N := none) #[true, true, true, true, true, true] rfl rfl (by kernel_rfl) (by decide) (fun K hK => ?_)
  have hs19 : w16.cell? ⟨gb296, 0, none⟩ = some (.int .i64 a1_0) := (blk_cell BK296.out 0).trans rfl
  have hfs19 := blk_frozen BK296.out 0
  have hns19_0 := NB295_296.out
  have hns19_2 := NB297_296.out
  have hms19_0 := NB296_295.out
  have hms19_2 := NB296_297.out
  have hs20 : w16.cell? ⟨gb296, 1, none⟩ = some (.bool a1_1) := (blk_cell BK296.out 1).trans rfl
  have hfs20 := blk_frozen BK296.out 1
  have hns20_0 := NB295_296.out
  have hns20_2 := NB297_296.out
  have hms20_0 := NB296_295.out
  have hms20_2 := NB296_297.out
  refine skip_ (w1 := ?_) (by rfl) rfl ?_ ?_
  rotate_left
  · go_simp
    rfl
  refine hK.out _ _ ?_
  clear hK K
  refine done_ (by kernel_rfl) ?_
  try go_wp2
  have n0_ : Aside0 (((((w16.setCell ⟨gb295, 0, none⟩ (.int .i64 t298)).setCell ⟨gb295, 1, none⟩ (.bool t299)).setCell ⟨gb296, 0, none⟩ (.int .i64 t300)).setCell ⟨gb296, 1, none⟩ (.bool t301)).heap[gb295]? = some (.cells #[.int .i64 t298, .bool t299] 23 (0, 0))) := ⟨by (with_reducible repeat (first | refine blk_drewN ?_ _ | refine blk_drew ?_ | refine blk_alloc ?_ _)); refine blk_far ?_ NB295_296.out _; (with_reducible repeat (first | refine blk_drewN ?_ _ | refine blk_drew ?_ | refine blk_alloc ?_ _)); refine blk_far ?_ NB295_296.out _; (with_reducible repeat (first | refine blk_drewN ?_ _ | refine blk_drew ?_ | refine blk_alloc ?_ _)); refine blk_put (cs := #[.int .i64 t298, .bool a0_1]) ?_ 1 _ rfl; (with_reducible repeat (first | refine blk_drewN ?_ _ | refine blk_drew ?_ | refine blk_alloc ?_ _)); refine blk_put (cs := #[.int .i64 a0_0, .bool a0_1]) ?_ 0 _ rfl; (with_reducible repeat (first | refine blk_drewN ?_ _ | refine blk_drew ?_ | refine blk_alloc ?_ _)); exact BK295.out⟩
  have n1_ : Aside0 (((((w16.setCell ⟨gb295, 0, none⟩ (.int .i64 t298)).setCell ⟨gb295, 1, none⟩ (.bool t299)).setCell ⟨gb296, 0, none⟩ (.int .i64 t300)).setCell ⟨gb296, 1, none⟩ (.bool t301)).heap[gb296]? = some (.cells #[.int .i64 t300, .bool t301] 23 (0, 0))) := ⟨by (with_reducible repeat (first | refine blk_drewN ?_ _ | refine blk_drew ?_ | refine blk_alloc ?_ _)); refine blk_put (cs := #[.int .i64 t300, .bool a1_1]) ?_ 1 _ rfl; (with_reducible repeat (first | refine blk_drewN ?_ _ | refine blk_drew ?_ | refine blk_alloc ?_ _)); refine blk_put (cs := #[.int .i64 a1_0, .bool a1_1]) ?_ 0 _ rfl; (with_reducible repeat (first | refine blk_drewN ?_ _ | refine blk_drew ?_ | refine blk_alloc ?_ _)); refine blk_far ?_ NB296_295.out _; (with_reducible repeat (first | refine blk_drewN ?_ _ | refine blk_drew ?_ | refine blk_alloc ?_ _)); refine blk_far ?_ NB296_295.out _; (with_reducible repeat (first | refine blk_drewN ?_ _ | refine blk_drew ?_ | refine blk_alloc ?_ _)); exact BK296.out⟩
  have n2_ : Aside0 (((((w16.setCell ⟨gb295, 0, none⟩ (.int .i64 t298)).setCell ⟨gb295, 1, none⟩ (.bool t299)).setCell ⟨gb296, 0, none⟩ (.int .i64 t300)).setCell ⟨gb296, 1, none⟩ (.bool t301)).heap[gb297]? = some (.cells #[.int .i64 0, .bool false] 23 (0, 0))) := ⟨by (with_reducible repeat (first | refine blk_drewN ?_ _ | refine blk_drew ?_ | refine blk_alloc ?_ _)); refine blk_far ?_ NB297_296.out _; (with_reducible repeat (first | refine blk_drewN ?_ _ | refine blk_drew ?_ | refine blk_alloc ?_ _)); refine blk_far ?_ NB297_296.out _; (with_reducible repeat (first | refine blk_drewN ?_ _ | refine blk_drew ?_ | refine blk_alloc ?_ _)); refine blk_far ?_ NB297_295.out _; (with_reducible repeat (first | refine blk_drewN ?_ _ | refine blk_drew ?_ | refine blk_alloc ?_ _)); refine blk_far ?_ NB297_295.out _; (with_reducible repeat (first | refine blk_drewN ?_ _ | refine blk_drew ?_ | refine blk_alloc ?_ _)); exact BK297.out⟩
  have n3_ : Aside0 (Below w.heap.size w ((((w16.setCell ⟨gb295, 0, none⟩ (.int .i64 t298)).setCell ⟨gb295, 1, none⟩ (.bool t299)).setCell ⟨gb296, 0, none⟩ (.int .i64 t300)).setCell ⟨gb296, 1, none⟩ (.bool t301))) := ⟨by repeat (first | (with_reducible first | exact HB.out | apply below_alloc | apply pw_below_drewN | apply below_drew1 | refine below_set ?_ GE295.out | refine below_set ?_ GE296.out | refine below_set ?_ GE297.out) | exact HB.out)⟩
  (try clear BK295)
  (try clear BK296)
  (try clear BK297)
  (try clear HB)
  generalize ((((w16.setCell ⟨gb295, 0, none⟩ (.int .i64 t298)).setCell ⟨gb295, 1, none⟩ (.bool t299)).setCell ⟨gb296, 0, none⟩ (.int .i64 t300)).setCell ⟨gb296, 1, none⟩ (.bool t301)) = w21 at n0_ n1_ n2_ n3_ ⊢
  have BK295 := n0_
  have BK296 := n1_
  have BK297 := n2_
  have HB := n3_
  clear n0_ n1_ n2_ n3_
  have n0_ := Aside0.mk (blk_drew BK295.out)
  have n1_ := Aside0.mk (blk_drew BK296.out)
  have n2_ := Aside0.mk (blk_drew BK297.out)
  have n3_ := Aside0.mk (below_drew1 HB.out)
  clear BK295
  clear BK296
  clear BK297
  clear HB
  have BK295 := n0_
  have BK296 := n1_
  have BK297 := n2_
  have HB := n3_
  clear n0_ n1_ n2_ n3_
  refine start_ (n := 21) (S := fun w' => True) (ds := []) #[false, false, false, false, false, false, false, false, false, false, false, false, false, false, false, false, false, false, false, false, false] (by kernel_rfl) rfl rfl trivial (fun hHeld => ?_); refine with_tabW fixed_Hypot.tab2 fixed_Hypot.bits2 (fun HT_ HW_ => ?_)
  generalize w21.drew = w22 at BK295 BK296 BK297 HB hHeld ⊢
  refine pure_ (i := 0) (N := some 9) (v := ?_) (a' := ?_) #[true, false, false, false, false, false, false, false, false, false, false, false, false, false, false, false, false, false, false, false, false] rfl rfl (any_of HT_.out (by kernel_rfl)) (fun _ _ _ h => h) (Or.inl ⟨by rfl, ?_⟩) ?_ ?_
  rotate_left
  · intro w'
    go_simp
    with_reducible rfl
  rotate_left
  · simp only [Act.put, List.setIfInBounds_toArray, List.set_cons_zero, List.set_cons_succ, i64_w, i32_w]
    rfl
  refine pure_ (i := 2) (N := some 11) (v := ?_) (a' := ?_) #[true, false, true, false, false, false, false, false, false, false, false, false, false, false, false, false, false, false, false, false, false] rfl rfl (any_of HT_.out (by kernel_rfl)) (fun _ _ _ h => h) (Or.inl ⟨by rfl, ?_⟩) ?_ ?_
  rotate_left
  · intro w'
    go_simp
    with_reducible rfl
  rotate_left
  · simp only [Act.put, List.setIfInBounds_toArray, List.set_cons_zero, List.set_cons_succ, i64_w, i32_w]
    rfl
  refine pure_ (i := 5) (N := some 14) (v := ?_) (a' := ?_) #[true, false, true, false, false, true, false, false, false, false, false, false, false, false, false, false, false, false, false, false, false] rfl rfl (any_of HT_.out (by kernel_rfl)) (fun _ _ _ h => h) (Or.inl ⟨by rfl, ?_⟩) ?_ ?_
  rotate_left
  · intro w'
    go_simp
    with_reducible rfl
  rotate_left
  · simp only [Act.put, List.setIfInBounds_toArray, List.set_cons_zero, List.set_cons_succ, i64_w, i32_w]
    rfl
  refine pure_ (i := 7) (N := some 16) (v := ?_) (a' := ?_) #[true, false, true, false, false, true, false, true, false, false, false, false, false, false, false, false, false, false, false, false, false] rfl rfl (any_of HT_.out (by kernel_rfl)) (fun _ _ _ h => h) (Or.inl ⟨by rfl, ?_⟩) ?_ ?_
  rotate_left
  · intro w'
    go_simp
    with_reducible rfl
  rotate_left
  · simp only [Act.put, List.setIfInBounds_toArray, List.set_cons_zero, List.set_cons_succ, i64_w, i32_w]
    rfl
  refine inv_at [1, 3, 4, 6, 8, 9, 10, 11, 12, 13, 14, 15, 16, 17, 18, 19, 20] (fun a0_ b a w' => ∃ (v313 : Value), a = putSel a0_ b [(1, 10, .int .i64 t298), (3, 12, .int .i64 t298), (4, 13, .agg #[.bool t302, .int .u64 t303, .int .u64 t304]), (6, 15, .int .i64 t300), (8, 17, .int .i64 t300), (9, 18, .agg #[.bool t305, .int .u64 t306, .int .u64 t307]), (10, 19, .agg #[.bool t308, .int .u64 t309, .int .u64 t310]), (11, 20, .agg #[.int .u64 t309, .int .u64 t310]), (12, 21, .int .u64 t311), (13, 22, .agg #[.int .u64 t311, .int .u64 0]), (14, 23, .agg #[.bool false, .int .u64 t311, .int .u64 0]), (15, 24, .agg #[.int .i64 t298, .bool t299]), (16, 25, .agg #[.int .i64 t300, .bool t301]), (17, 26, v313), (18, 27, .bool t315), (19, 28, .agg #[.int .i64 t316, .bool t317])] ∧ (w'.heap[gb295]? = some (.cells #[.int .i64 t298, .bool t299] 23 (0, 0))) ∧ (w'.heap[gb296]? = some (.cells #[.int .i64 t300, .bool t301] 23 (0, 0))) ∧ (b 20 = false → w'.heap[gb297]? = some (.cells #[.int .i64 0, .bool false] 23 (0, 0))) ∧ (Below w.heap.size w w') ∧ (b 17 = true → Kd.R k23 23 w' w.heap.size (fun k_ => k_ ≠ gb295 ∧ k_ ≠ gb296 ∧ k_ ≠ gb297) v313 y312) ∧ (b 20 = true → w'.heap[gb297]? = some (.cells #[.int .i64 t316, .bool t317] 23 (0, 0)))) HT_.out HW_.out (by kernel_rfl) (by kernel_rfl) ?_ ?_ ?_
  · exact ⟨.bool false, by simp only [putSel, Bool.false_eq_true, if_false], BK295.out, BK296.out, fun _ => BK297.out, HB.out, fun h_ => absurd h_ (by decide), fun h_ => absurd h_ (by decide)⟩
  · skip
    clear BK295 BK296 BK297 HB
    refine steps_cons ?_ ?_
    · rintro b a w' ⟨v313, ha, Q_BK295, Q_BK296, Q_BK297, Q_HB, Q_HO314, Q_BK297_e20⟩ hb_ hon hoff
      refine ⟨_, rfl, fun K hK => ?_⟩
      have e9 : a.tmps[9]? = some (.pointer (some ⟨gb295, 0, none⟩)) := by rw [ha]; exact (putSel_off rfl).trans rfl
      replace ha := Aside0.mk ha
      have BK295 := Aside0.mk Q_BK295
      have BK296 := Aside0.mk Q_BK296
      have BK297 := Aside0.mk (Q_BK297 (hoff 20 (by kernel_rfl)))
      have HB := Aside0.mk Q_HB
      have hc0_ : w'.cell? ⟨gb295, 0, none⟩ = some (.int .i64 t298) := (blk_cell BK295.out 0).trans rfl
      have hc1_ : w'.cell? ⟨gb295, 1, none⟩ = some (.bool t299) := (blk_cell BK295.out 1).trans rfl
      refine value_ (w1 := w') (v := .int .i64 t298) (by rfl) rfl ?_ ?_
      · go_simp
        (try simp only [i64_w])
        try rfl
      refine hK.out _ _ ⟨v313, (by rw [ha.out]; exact putSel_upk 0 hb_ rfl rfl rfl), Q_BK295, Q_BK296, Q_BK297, Q_HB, Q_HO314, fun h0_ => absurd ((hoff 20 (by kernel_rfl)).symm.trans h0_) (by decide)⟩
    refine steps_cons ?_ ?_
    · rintro b a w' ⟨v313, ha, Q_BK295, Q_BK296, Q_BK297, Q_HB, Q_HO314, Q_BK297_e20⟩ hb_ hon hoff
      refine ⟨_, rfl, fun K hK => ?_⟩
      have e11 : a.tmps[11]? = some (.pointer (some ⟨gb295, 0, none⟩)) := by rw [ha]; exact (putSel_off rfl).trans rfl
      replace ha := Aside0.mk ha
      have BK295 := Aside0.mk Q_BK295
      have BK296 := Aside0.mk Q_BK296
      have BK297 := Aside0.mk (Q_BK297 (hoff 20 (by kernel_rfl)))
      have HB := Aside0.mk Q_HB
      have hc0_ : w'.cell? ⟨gb295, 0, none⟩ = some (.int .i64 t298) := (blk_cell BK295.out 0).trans rfl
      have hc1_ : w'.cell? ⟨gb295, 1, none⟩ = some (.bool t299) := (blk_cell BK295.out 1).trans rfl
      refine value_ (w1 := w') (v := .int .i64 t298) (by rfl) rfl ?_ ?_
      · go_simp
        (try simp only [i64_w])
        try rfl
      refine hK.out _ _ ⟨v313, (by rw [ha.out]; exact putSel_upk 1 hb_ rfl rfl rfl), Q_BK295, Q_BK296, Q_BK297, Q_HB, Q_HO314, fun h0_ => absurd ((hoff 20 (by kernel_rfl)).symm.trans h0_) (by decide)⟩
    refine steps_cons ?_ ?_
    · rintro b a w' ⟨v313, ha, Q_BK295, Q_BK296, Q_BK297, Q_HB, Q_HO314, Q_BK297_e20⟩ hb_ hon hoff
      refine ⟨_, rfl, fun K hK => ?_⟩
      have e10 : a.tmps[10]? = some (.int .i64 t298) := by rw [ha]; exact putSel_on (e := (1, 10, .int .i64 t298)) 0 rfl rfl (hon 1 (by kernel_rfl)) rfl
      have e12 : a.tmps[12]? = some (.int .i64 t298) := by rw [ha]; exact putSel_on (e := (3, 12, .int .i64 t298)) 1 rfl rfl (hon 3 (by kernel_rfl)) rfl
      replace ha := Aside0.mk ha
      have BK295 := Aside0.mk Q_BK295
      have BK296 := Aside0.mk Q_BK296
      have BK297 := Aside0.mk (Q_BK297 (hoff 20 (by kernel_rfl)))
      have HB := Aside0.mk Q_HB
      refine goes_ Try.func74 (by kernel_rfl) rfl #[.int .i64 t298, .int .i64 t298] (by rfl) rfl rfl (by first | (simp only [List.map_toArray, List.map_cons, List.map_nil, Act.eval, Array.getD_eq_getD_getElem?, Option.getD_some, e10, e12]; done) | (simp only [List.map_toArray, List.map_cons, List.map_nil, Act.eval, Array.getD_eq_getD_getElem?, Option.getD_some, e10, e12]; rfl)) ?_
      with_reducible refine (fixed_product.calls t298 t298 t302 t303 t304 _ A5.out).mono ?_
      rintro e w23 ⟨rfl, hb⟩
      refine ⟨_, rfl, ?_⟩
      have n0_ := Aside0.mk (blk_below (g := gb295) (o := .cells #[.int .i64 t298, .bool t299] 23 (0, 0)) (by (with_reducible repeat (first | refine blk_drewN ?_ _ | refine blk_drew ?_ | refine blk_alloc ?_ _)); exact BK295.out) hb)
      have n1_ := Aside0.mk (blk_below (g := gb296) (o := .cells #[.int .i64 t300, .bool t301] 23 (0, 0)) (by (with_reducible repeat (first | refine blk_drewN ?_ _ | refine blk_drew ?_ | refine blk_alloc ?_ _)); exact BK296.out) hb)
      have n2_ := Aside0.mk (blk_below (g := gb297) (o := .cells #[.int .i64 0, .bool false] 23 (0, 0)) (by (with_reducible repeat (first | refine blk_drewN ?_ _ | refine blk_drew ?_ | refine blk_alloc ?_ _)); exact BK297.out) hb)
      have n3_ := Aside0.mk (below_step (by repeat (first | (with_reducible first | exact HB.out | apply below_alloc | apply pw_below_drewN | apply below_drew1 | refine below_set ?_ GE295.out | refine below_set ?_ GE296.out | refine below_set ?_ GE297.out) | exact HB.out)) hb)
      have z_HO314 := fun (h0_ : b 17 = true) => (show Kd.R k23 23 w23 w.heap.size (fun k_ => k_ ≠ gb295 ∧ k_ ≠ gb296 ∧ k_ ≠ gb297) v313 y312 from by first | exact (Kd.R_below (by (with_reducible repeat (first | apply Kd.R_alloc | apply Kd.R_drewN | apply Kd.R_drew)); exact (Q_HO314 h0_)) hb) | exact Kd.R_mono (Kd.R_below (by (with_reducible repeat (first | apply Kd.R_alloc | apply Kd.R_drewN | apply Kd.R_drew)); exact (Q_HO314 h0_)) hb) (fun _ h_ => by first | trivial | exact h_ | exact h_.1))
      clear BK295
      clear BK296
      clear BK297
      clear HB
      have BK295 := n0_
      have BK296 := n1_
      have BK297 := n2_
      have HB := n3_
      clear n0_ n1_ n2_ n3_
      (try clear hb)
      (try clear hb2)
      (try clear hk)
      (try clear hi)
      refine hK.out _ _ ⟨v313, (by rw [ha.out]; exact putSel_upk 2 hb_ rfl rfl rfl), (by (with_reducible repeat (first | refine blk_drewN ?_ _ | refine blk_drew ?_ | refine blk_alloc ?_ _)); exact BK295.out), (by (with_reducible repeat (first | refine blk_drewN ?_ _ | refine blk_drew ?_ | refine blk_alloc ?_ _)); exact BK296.out), fun _ => (by (with_reducible repeat (first | refine blk_drewN ?_ _ | refine blk_drew ?_ | refine blk_alloc ?_ _)); exact BK297.out), (by repeat (first | (with_reducible first | exact HB.out | apply below_alloc | apply pw_below_drewN | apply below_drew1 | refine below_set ?_ GE295.out | refine below_set ?_ GE296.out | refine below_set ?_ GE297.out) | exact HB.out)), z_HO314, fun h0_ => absurd ((hoff 20 (by kernel_rfl)).symm.trans h0_) (by decide)⟩
    refine steps_cons ?_ ?_
    · rintro b a w' ⟨v313, ha, Q_BK295, Q_BK296, Q_BK297, Q_HB, Q_HO314, Q_BK297_e20⟩ hb_ hon hoff
      refine ⟨_, rfl, fun K hK => ?_⟩
      have e14 : a.tmps[14]? = some (.pointer (some ⟨gb296, 0, none⟩)) := by rw [ha]; exact (putSel_off rfl).trans rfl
      replace ha := Aside0.mk ha
      have BK295 := Aside0.mk Q_BK295
      have BK296 := Aside0.mk Q_BK296
      have BK297 := Aside0.mk (Q_BK297 (hoff 20 (by kernel_rfl)))
      have HB := Aside0.mk Q_HB
      have hc0_ : w'.cell? ⟨gb296, 0, none⟩ = some (.int .i64 t300) := (blk_cell BK296.out 0).trans rfl
      have hc1_ : w'.cell? ⟨gb296, 1, none⟩ = some (.bool t301) := (blk_cell BK296.out 1).trans rfl
      refine value_ (w1 := w') (v := .int .i64 t300) (by rfl) rfl ?_ ?_
      · go_simp
        (try simp only [i64_w])
        try rfl
      refine hK.out _ _ ⟨v313, (by rw [ha.out]; exact putSel_upk 3 hb_ rfl rfl rfl), Q_BK295, Q_BK296, Q_BK297, Q_HB, Q_HO314, fun h0_ => absurd ((hoff 20 (by kernel_rfl)).symm.trans h0_) (by decide)⟩
    refine steps_cons ?_ ?_
    · rintro b a w' ⟨v313, ha, Q_BK295, Q_BK296, Q_BK297, Q_HB, Q_HO314, Q_BK297_e20⟩ hb_ hon hoff
      refine ⟨_, rfl, fun K hK => ?_⟩
      have e16 : a.tmps[16]? = some (.pointer (some ⟨gb296, 0, none⟩)) := by rw [ha]; exact (putSel_off rfl).trans rfl
      replace ha := Aside0.mk ha
      have BK295 := Aside0.mk Q_BK295
      have BK296 := Aside0.mk Q_BK296
      have BK297 := Aside0.mk (Q_BK297 (hoff 20 (by kernel_rfl)))
      have HB := Aside0.mk Q_HB
      have hc0_ : w'.cell? ⟨gb296, 0, none⟩ = some (.int .i64 t300) := (blk_cell BK296.out 0).trans rfl
      have hc1_ : w'.cell? ⟨gb296, 1, none⟩ = some (.bool t301) := (blk_cell BK296.out 1).trans rfl
      refine value_ (w1 := w') (v := .int .i64 t300) (by rfl) rfl ?_ ?_
      · go_simp
        (try simp only [i64_w])
        try rfl
      refine hK.out _ _ ⟨v313, (by rw [ha.out]; exact putSel_upk 4 hb_ rfl rfl rfl), Q_BK295, Q_BK296, Q_BK297, Q_HB, Q_HO314, fun h0_ => absurd ((hoff 20 (by kernel_rfl)).symm.trans h0_) (by decide)⟩
    refine steps_cons ?_ ?_
    · rintro b a w' ⟨v313, ha, Q_BK295, Q_BK296, Q_BK297, Q_HB, Q_HO314, Q_BK297_e20⟩ hb_ hon hoff
      refine ⟨_, rfl, fun K hK => ?_⟩
      have e15 : a.tmps[15]? = some (.int .i64 t300) := by rw [ha]; exact putSel_on (e := (6, 15, .int .i64 t300)) 3 rfl rfl (hon 6 (by kernel_rfl)) rfl
      have e17 : a.tmps[17]? = some (.int .i64 t300) := by rw [ha]; exact putSel_on (e := (8, 17, .int .i64 t300)) 4 rfl rfl (hon 8 (by kernel_rfl)) rfl
      replace ha := Aside0.mk ha
      have BK295 := Aside0.mk Q_BK295
      have BK296 := Aside0.mk Q_BK296
      have BK297 := Aside0.mk (Q_BK297 (hoff 20 (by kernel_rfl)))
      have HB := Aside0.mk Q_HB
      refine goes_ Try.func74 (by kernel_rfl) rfl #[.int .i64 t300, .int .i64 t300] (by rfl) rfl rfl (by first | (simp only [List.map_toArray, List.map_cons, List.map_nil, Act.eval, Array.getD_eq_getD_getElem?, Option.getD_some, e15, e17]; done) | (simp only [List.map_toArray, List.map_cons, List.map_nil, Act.eval, Array.getD_eq_getD_getElem?, Option.getD_some, e15, e17]; rfl)) ?_
      with_reducible refine (fixed_product.calls t300 t300 t305 t306 t307 _ A6.out).mono ?_
      rintro e w25 ⟨rfl, hb⟩
      refine ⟨_, rfl, ?_⟩
      have n0_ := Aside0.mk (blk_below (g := gb295) (o := .cells #[.int .i64 t298, .bool t299] 23 (0, 0)) (by (with_reducible repeat (first | refine blk_drewN ?_ _ | refine blk_drew ?_ | refine blk_alloc ?_ _)); exact BK295.out) hb)
      have n1_ := Aside0.mk (blk_below (g := gb296) (o := .cells #[.int .i64 t300, .bool t301] 23 (0, 0)) (by (with_reducible repeat (first | refine blk_drewN ?_ _ | refine blk_drew ?_ | refine blk_alloc ?_ _)); exact BK296.out) hb)
      have n2_ := Aside0.mk (blk_below (g := gb297) (o := .cells #[.int .i64 0, .bool false] 23 (0, 0)) (by (with_reducible repeat (first | refine blk_drewN ?_ _ | refine blk_drew ?_ | refine blk_alloc ?_ _)); exact BK297.out) hb)
      have n3_ := Aside0.mk (below_step (by repeat (first | (with_reducible first | exact HB.out | apply below_alloc | apply pw_below_drewN | apply below_drew1 | refine below_set ?_ GE295.out | refine below_set ?_ GE296.out | refine below_set ?_ GE297.out) | exact HB.out)) hb)
      have z_HO314 := fun (h0_ : b 17 = true) => (show Kd.R k23 23 w25 w.heap.size (fun k_ => k_ ≠ gb295 ∧ k_ ≠ gb296 ∧ k_ ≠ gb297) v313 y312 from by first | exact (Kd.R_below (by (with_reducible repeat (first | apply Kd.R_alloc | apply Kd.R_drewN | apply Kd.R_drew)); exact (Q_HO314 h0_)) hb) | exact Kd.R_mono (Kd.R_below (by (with_reducible repeat (first | apply Kd.R_alloc | apply Kd.R_drewN | apply Kd.R_drew)); exact (Q_HO314 h0_)) hb) (fun _ h_ => by first | trivial | exact h_ | exact h_.1))
      clear BK295
      clear BK296
      clear BK297
      clear HB
      have BK295 := n0_
      have BK296 := n1_
      have BK297 := n2_
      have HB := n3_
      clear n0_ n1_ n2_ n3_
      (try clear hb)
      (try clear hb2)
      (try clear hk)
      (try clear hi)
      refine hK.out _ _ ⟨v313, (by rw [ha.out]; exact putSel_upk 5 hb_ rfl rfl rfl), (by (with_reducible repeat (first | refine blk_drewN ?_ _ | refine blk_drew ?_ | refine blk_alloc ?_ _)); exact BK295.out), (by (with_reducible repeat (first | refine blk_drewN ?_ _ | refine blk_drew ?_ | refine blk_alloc ?_ _)); exact BK296.out), fun _ => (by (with_reducible repeat (first | refine blk_drewN ?_ _ | refine blk_drew ?_ | refine blk_alloc ?_ _)); exact BK297.out), (by repeat (first | (with_reducible first | exact HB.out | apply below_alloc | apply pw_below_drewN | apply below_drew1 | refine below_set ?_ GE295.out | refine below_set ?_ GE296.out | refine below_set ?_ GE297.out) | exact HB.out)), z_HO314, fun h0_ => absurd ((hoff 20 (by kernel_rfl)).symm.trans h0_) (by decide)⟩
    refine steps_cons ?_ ?_
    · rintro b a w' ⟨v313, ha, Q_BK295, Q_BK296, Q_BK297, Q_HB, Q_HO314, Q_BK297_e20⟩ hb_ hon hoff
      refine ⟨_, rfl, fun K hK => ?_⟩
      have e13 : a.tmps[13]? = some (.agg #[.bool t302, .int .u64 t303, .int .u64 t304]) := by rw [ha]; exact putSel_on (e := (4, 13, .agg #[.bool t302, .int .u64 t303, .int .u64 t304])) 2 rfl rfl (hon 4 (by kernel_rfl)) rfl
      have e18 : a.tmps[18]? = some (.agg #[.bool t305, .int .u64 t306, .int .u64 t307]) := by rw [ha]; exact putSel_on (e := (9, 18, .agg #[.bool t305, .int .u64 t306, .int .u64 t307])) 5 rfl rfl (hon 9 (by kernel_rfl)) rfl
      replace ha := Aside0.mk ha
      have BK295 := Aside0.mk Q_BK295
      have BK296 := Aside0.mk Q_BK296
      have BK297 := Aside0.mk (Q_BK297 (hoff 20 (by kernel_rfl)))
      have HB := Aside0.mk Q_HB
      refine goes_ Try.func75 (by kernel_rfl) rfl #[.agg #[.bool t302, .int .u64 t303, .int .u64 t304], .agg #[.bool t305, .int .u64 t306, .int .u64 t307]] (by rfl) rfl rfl (by first | (simp only [List.map_toArray, List.map_cons, List.map_nil, Act.eval, Array.getD_eq_getD_getElem?, Option.getD_some, e13, e18]; done) | (simp only [List.map_toArray, List.map_cons, List.map_nil, Act.eval, Array.getD_eq_getD_getElem?, Option.getD_some, e13, e18]; rfl)) ?_
      with_reducible refine (fixed_exact_plus.calls k t302 t303 t304 t305 t306 t307 t308 t309 t310 _ A7.out).mono ?_
      rintro e w26 ⟨rfl, hb⟩
      refine ⟨_, rfl, ?_⟩
      have n0_ := Aside0.mk (blk_below (g := gb295) (o := .cells #[.int .i64 t298, .bool t299] 23 (0, 0)) (by (with_reducible repeat (first | refine blk_drewN ?_ _ | refine blk_drew ?_ | refine blk_alloc ?_ _)); exact BK295.out) hb)
      have n1_ := Aside0.mk (blk_below (g := gb296) (o := .cells #[.int .i64 t300, .bool t301] 23 (0, 0)) (by (with_reducible repeat (first | refine blk_drewN ?_ _ | refine blk_drew ?_ | refine blk_alloc ?_ _)); exact BK296.out) hb)
      have n2_ := Aside0.mk (blk_below (g := gb297) (o := .cells #[.int .i64 0, .bool false] 23 (0, 0)) (by (with_reducible repeat (first | refine blk_drewN ?_ _ | refine blk_drew ?_ | refine blk_alloc ?_ _)); exact BK297.out) hb)
      have n3_ := Aside0.mk (below_step (by repeat (first | (with_reducible first | exact HB.out | apply below_alloc | apply pw_below_drewN | apply below_drew1 | refine below_set ?_ GE295.out | refine below_set ?_ GE296.out | refine below_set ?_ GE297.out) | exact HB.out)) hb)
      have z_HO314 := fun (h0_ : b 17 = true) => (show Kd.R k23 23 w26 w.heap.size (fun k_ => k_ ≠ gb295 ∧ k_ ≠ gb296 ∧ k_ ≠ gb297) v313 y312 from by first | exact (Kd.R_below (by (with_reducible repeat (first | apply Kd.R_alloc | apply Kd.R_drewN | apply Kd.R_drew)); exact (Q_HO314 h0_)) hb) | exact Kd.R_mono (Kd.R_below (by (with_reducible repeat (first | apply Kd.R_alloc | apply Kd.R_drewN | apply Kd.R_drew)); exact (Q_HO314 h0_)) hb) (fun _ h_ => by first | trivial | exact h_ | exact h_.1))
      clear BK295
      clear BK296
      clear BK297
      clear HB
      have BK295 := n0_
      have BK296 := n1_
      have BK297 := n2_
      have HB := n3_
      clear n0_ n1_ n2_ n3_
      (try clear hb)
      (try clear hb2)
      (try clear hk)
      (try clear hi)
      refine hK.out _ _ ⟨v313, (by rw [ha.out]; exact putSel_upk 6 hb_ rfl rfl rfl), (by (with_reducible repeat (first | refine blk_drewN ?_ _ | refine blk_drew ?_ | refine blk_alloc ?_ _)); exact BK295.out), (by (with_reducible repeat (first | refine blk_drewN ?_ _ | refine blk_drew ?_ | refine blk_alloc ?_ _)); exact BK296.out), fun _ => (by (with_reducible repeat (first | refine blk_drewN ?_ _ | refine blk_drew ?_ | refine blk_alloc ?_ _)); exact BK297.out), (by repeat (first | (with_reducible first | exact HB.out | apply below_alloc | apply pw_below_drewN | apply below_drew1 | refine below_set ?_ GE295.out | refine below_set ?_ GE296.out | refine below_set ?_ GE297.out) | exact HB.out)), z_HO314, fun h0_ => absurd ((hoff 20 (by kernel_rfl)).symm.trans h0_) (by decide)⟩
    refine steps_cons ?_ ?_
    · rintro b a w' ⟨v313, ha, Q_BK295, Q_BK296, Q_BK297, Q_HB, Q_HO314, Q_BK297_e20⟩ hb_ hon hoff
      refine ⟨_, rfl, fun K hK => ?_⟩
      have e19 : a.tmps[19]? = some (.agg #[.bool t308, .int .u64 t309, .int .u64 t310]) := by rw [ha]; exact putSel_on (e := (10, 19, .agg #[.bool t308, .int .u64 t309, .int .u64 t310])) 6 rfl rfl (hon 10 (by kernel_rfl)) rfl
      replace ha := Aside0.mk ha
      have BK295 := Aside0.mk Q_BK295
      have BK296 := Aside0.mk Q_BK296
      have BK297 := Aside0.mk (Q_BK297 (hoff 20 (by kernel_rfl)))
      have HB := Aside0.mk Q_HB
      refine value_ (w1 := w') (v := .agg #[.int .u64 t309, .int .u64 t310]) (by rfl) rfl ?_ ?_
      · go_simp
        (try simp only [i64_w])
        try rfl
      refine hK.out _ _ ⟨v313, (by rw [ha.out]; exact putSel_upk 7 hb_ rfl rfl rfl), Q_BK295, Q_BK296, Q_BK297, Q_HB, Q_HO314, fun h0_ => absurd ((hoff 20 (by kernel_rfl)).symm.trans h0_) (by decide)⟩
    refine steps_cons ?_ ?_
    · rintro b a w' ⟨v313, ha, Q_BK295, Q_BK296, Q_BK297, Q_HB, Q_HO314, Q_BK297_e20⟩ hb_ hon hoff
      refine ⟨_, rfl, fun K hK => ?_⟩
      have e20 : a.tmps[20]? = some (.agg #[.int .u64 t309, .int .u64 t310]) := by rw [ha]; exact putSel_on (e := (11, 20, .agg #[.int .u64 t309, .int .u64 t310])) 7 rfl rfl (hon 11 (by kernel_rfl)) rfl
      replace ha := Aside0.mk ha
      have BK295 := Aside0.mk Q_BK295
      have BK296 := Aside0.mk Q_BK296
      have BK297 := Aside0.mk (Q_BK297 (hoff 20 (by kernel_rfl)))
      have HB := Aside0.mk Q_HB
      refine goes_ Try.func90 (by kernel_rfl) rfl #[.agg #[.int .u64 t309, .int .u64 t310]] (by rfl) rfl rfl (by first | (simp only [List.map_toArray, List.map_cons, List.map_nil, Act.eval, Array.getD_eq_getD_getElem?, Option.getD_some, e20]; done) | (simp only [List.map_toArray, List.map_cons, List.map_nil, Act.eval, Array.getD_eq_getD_getElem?, Option.getD_some, e20]; rfl)) ?_
      with_reducible refine (fixed_words_root.calls k t309 t310 t311 _ A8.out).mono ?_
      rintro e w27 ⟨rfl, hb⟩
      refine ⟨_, rfl, ?_⟩
      have n0_ := Aside0.mk (blk_below (g := gb295) (o := .cells #[.int .i64 t298, .bool t299] 23 (0, 0)) (by (with_reducible repeat (first | refine blk_drewN ?_ _ | refine blk_drew ?_ | refine blk_alloc ?_ _)); exact BK295.out) hb)
      have n1_ := Aside0.mk (blk_below (g := gb296) (o := .cells #[.int .i64 t300, .bool t301] 23 (0, 0)) (by (with_reducible repeat (first | refine blk_drewN ?_ _ | refine blk_drew ?_ | refine blk_alloc ?_ _)); exact BK296.out) hb)
      have n2_ := Aside0.mk (blk_below (g := gb297) (o := .cells #[.int .i64 0, .bool false] 23 (0, 0)) (by (with_reducible repeat (first | refine blk_drewN ?_ _ | refine blk_drew ?_ | refine blk_alloc ?_ _)); exact BK297.out) hb)
      have n3_ := Aside0.mk (below_step (by repeat (first | (with_reducible first | exact HB.out | apply below_alloc | apply pw_below_drewN | apply below_drew1 | refine below_set ?_ GE295.out | refine below_set ?_ GE296.out | refine below_set ?_ GE297.out) | exact HB.out)) hb)
      have z_HO314 := fun (h0_ : b 17 = true) => (show Kd.R k23 23 w27 w.heap.size (fun k_ => k_ ≠ gb295 ∧ k_ ≠ gb296 ∧ k_ ≠ gb297) v313 y312 from by first | exact (Kd.R_below (by (with_reducible repeat (first | apply Kd.R_alloc | apply Kd.R_drewN | apply Kd.R_drew)); exact (Q_HO314 h0_)) hb) | exact Kd.R_mono (Kd.R_below (by (with_reducible repeat (first | apply Kd.R_alloc | apply Kd.R_drewN | apply Kd.R_drew)); exact (Q_HO314 h0_)) hb) (fun _ h_ => by first | trivial | exact h_ | exact h_.1))
      clear BK295
      clear BK296
      clear BK297
      clear HB
      have BK295 := n0_
      have BK296 := n1_
      have BK297 := n2_
      have HB := n3_
      clear n0_ n1_ n2_ n3_
      (try clear hb)
      (try clear hb2)
      (try clear hk)
      (try clear hi)
      refine hK.out _ _ ⟨v313, (by rw [ha.out]; exact putSel_upk 8 hb_ rfl rfl rfl), (by (with_reducible repeat (first | refine blk_drewN ?_ _ | refine blk_drew ?_ | refine blk_alloc ?_ _)); exact BK295.out), (by (with_reducible repeat (first | refine blk_drewN ?_ _ | refine blk_drew ?_ | refine blk_alloc ?_ _)); exact BK296.out), fun _ => (by (with_reducible repeat (first | refine blk_drewN ?_ _ | refine blk_drew ?_ | refine blk_alloc ?_ _)); exact BK297.out), (by repeat (first | (with_reducible first | exact HB.out | apply below_alloc | apply pw_below_drewN | apply below_drew1 | refine below_set ?_ GE295.out | refine below_set ?_ GE296.out | refine below_set ?_ GE297.out) | exact HB.out)), z_HO314, fun h0_ => absurd ((hoff 20 (by kernel_rfl)).symm.trans h0_) (by decide)⟩
    refine steps_cons ?_ ?_
    · rintro b a w' ⟨v313, ha, Q_BK295, Q_BK296, Q_BK297, Q_HB, Q_HO314, Q_BK297_e20⟩ hb_ hon hoff
      refine ⟨_, rfl, fun K hK => ?_⟩
      have e21 : a.tmps[21]? = some (.int .u64 t311) := by rw [ha]; exact putSel_on (e := (12, 21, .int .u64 t311)) 8 rfl rfl (hon 12 (by kernel_rfl)) rfl
      replace ha := Aside0.mk ha
      have BK295 := Aside0.mk Q_BK295
      have BK296 := Aside0.mk Q_BK296
      have BK297 := Aside0.mk (Q_BK297 (hoff 20 (by kernel_rfl)))
      have HB := Aside0.mk Q_HB
      refine value_ (w1 := w') (v := .agg #[.int .u64 t311, .int .u64 0]) (by rfl) rfl ?_ ?_
      · go_simp
        (try simp only [i64_w])
        try rfl
      refine hK.out _ _ ⟨v313, (by rw [ha.out]; exact putSel_upk 9 hb_ rfl rfl rfl), Q_BK295, Q_BK296, Q_BK297, Q_HB, Q_HO314, fun h0_ => absurd ((hoff 20 (by kernel_rfl)).symm.trans h0_) (by decide)⟩
    refine steps_cons ?_ ?_
    · rintro b a w' ⟨v313, ha, Q_BK295, Q_BK296, Q_BK297, Q_HB, Q_HO314, Q_BK297_e20⟩ hb_ hon hoff
      refine ⟨_, rfl, fun K hK => ?_⟩
      have e22 : a.tmps[22]? = some (.agg #[.int .u64 t311, .int .u64 0]) := by rw [ha]; exact putSel_on (e := (13, 22, .agg #[.int .u64 t311, .int .u64 0])) 9 rfl rfl (hon 13 (by kernel_rfl)) rfl
      replace ha := Aside0.mk ha
      have BK295 := Aside0.mk Q_BK295
      have BK296 := Aside0.mk Q_BK296
      have BK297 := Aside0.mk (Q_BK297 (hoff 20 (by kernel_rfl)))
      have HB := Aside0.mk Q_HB
      refine value_ (w1 := w') (v := .agg #[.bool false, .int .u64 t311, .int .u64 0]) (by rfl) rfl ?_ ?_
      · go_simp
        (try simp only [i64_w])
        try rfl
      refine hK.out _ _ ⟨v313, (by rw [ha.out]; exact putSel_upk 10 hb_ rfl rfl rfl), Q_BK295, Q_BK296, Q_BK297, Q_HB, Q_HO314, fun h0_ => absurd ((hoff 20 (by kernel_rfl)).symm.trans h0_) (by decide)⟩
    refine steps_cons ?_ ?_
    · rintro b a w' ⟨v313, ha, Q_BK295, Q_BK296, Q_BK297, Q_HB, Q_HO314, Q_BK297_e20⟩ hb_ hon hoff
      refine ⟨_, rfl, fun K hK => ?_⟩
      have e2 : a.tmps[2]? = some (.pointer (some ⟨gb295, 0, none⟩)) := by rw [ha]; exact (putSel_off rfl).trans rfl
      replace ha := Aside0.mk ha
      have BK295 := Aside0.mk Q_BK295
      have BK296 := Aside0.mk Q_BK296
      have BK297 := Aside0.mk (Q_BK297 (hoff 20 (by kernel_rfl)))
      have HB := Aside0.mk Q_HB
      have hc0_ : w'.cell? ⟨gb295, 0, none⟩ = some (.int .i64 t298) := (blk_cell BK295.out 0).trans rfl
      have hc1_ : w'.cell? ⟨gb295, 1, none⟩ = some (.bool t299) := (blk_cell BK295.out 1).trans rfl
      refine value_ (w1 := w') (v := .agg #[.int .i64 t298, .bool t299]) (by rfl) rfl ?_ ?_
      · go_simp
        (try simp only [i64_w])
        try rfl
      refine hK.out _ _ ⟨v313, (by rw [ha.out]; exact putSel_upk 11 hb_ rfl rfl rfl), Q_BK295, Q_BK296, Q_BK297, Q_HB, fun h0_ => absurd ((hoff 17 (by kernel_rfl)).symm.trans h0_) (by decide), fun h0_ => absurd ((hoff 20 (by kernel_rfl)).symm.trans h0_) (by decide)⟩
    refine steps_cons ?_ ?_
    · rintro b a w' ⟨v313, ha, Q_BK295, Q_BK296, Q_BK297, Q_HB, Q_HO314, Q_BK297_e20⟩ hb_ hon hoff
      refine ⟨_, rfl, fun K hK => ?_⟩
      have e3 : a.tmps[3]? = some (.pointer (some ⟨gb296, 0, none⟩)) := by rw [ha]; exact (putSel_off rfl).trans rfl
      replace ha := Aside0.mk ha
      have BK295 := Aside0.mk Q_BK295
      have BK296 := Aside0.mk Q_BK296
      have BK297 := Aside0.mk (Q_BK297 (hoff 20 (by kernel_rfl)))
      have HB := Aside0.mk Q_HB
      have hc0_ : w'.cell? ⟨gb296, 0, none⟩ = some (.int .i64 t300) := (blk_cell BK296.out 0).trans rfl
      have hc1_ : w'.cell? ⟨gb296, 1, none⟩ = some (.bool t301) := (blk_cell BK296.out 1).trans rfl
      refine value_ (w1 := w') (v := .agg #[.int .i64 t300, .bool t301]) (by rfl) rfl ?_ ?_
      · go_simp
        (try simp only [i64_w])
        try rfl
      refine hK.out _ _ ⟨v313, (by rw [ha.out]; exact putSel_upk 12 hb_ rfl rfl rfl), Q_BK295, Q_BK296, Q_BK297, Q_HB, fun h0_ => absurd ((hoff 17 (by kernel_rfl)).symm.trans h0_) (by decide), fun h0_ => absurd ((hoff 20 (by kernel_rfl)).symm.trans h0_) (by decide)⟩
    refine steps_cons ?_ ?_
    · rintro b a w' ⟨v313, ha, Q_BK295, Q_BK296, Q_BK297, Q_HB, Q_HO314, Q_BK297_e20⟩ hb_ hon hoff
      refine ⟨_, rfl, fun K hK => ?_⟩
      have e24 : a.tmps[24]? = some (.agg #[.int .i64 t298, .bool t299]) := by rw [ha]; exact putSel_on (e := (15, 24, .agg #[.int .i64 t298, .bool t299])) 11 rfl rfl (hon 15 (by kernel_rfl)) rfl
      have e25 : a.tmps[25]? = some (.agg #[.int .i64 t300, .bool t301]) := by rw [ha]; exact putSel_on (e := (16, 25, .agg #[.int .i64 t300, .bool t301])) 12 rfl rfl (hon 16 (by kernel_rfl)) rfl
      replace ha := Aside0.mk ha
      have BK295 := Aside0.mk Q_BK295
      have BK296 := Aside0.mk Q_BK296
      have BK297 := Aside0.mk (Q_BK297 (hoff 20 (by kernel_rfl)))
      have HB := Aside0.mk Q_HB
      refine Kd.R_lit_step k23 _ 23 ?hg (N := 26) ?hd (xs := ([(⟨t298, t299⟩ : S23), (⟨t300, t301⟩ : S23)] : List (S23))) (inner := [.int .i64 t298, .bool t299, .int .i64 t300, .bool t301]) (ok := fun _ => True) (okp := fun _ => True) ?hr ?hp (fun _ hk => hk) trivial (Below.refl _ _) (Nat.le_refl _) (by simp) ?_; (case hd => rfl); (case hg => rfl); (case hr => first | (go_simp; done) | (go_simp; rfl)); (case hp => exact (Reps.c2 (show Kd.M k23 _ _ _ (⟨t298, t299⟩ : S23) [.int .i64 t298, .bool t299] from (k23_mkM _ _ _ (⟨t298, t299⟩ : S23) )) (Reps.c2 (show Kd.M k23 _ _ _ (⟨t300, t301⟩ : S23) [.int .i64 t300, .bool t301] from (k23_mkM _ _ _ (⟨t300, t301⟩ : S23) )) (Reps.none _ _))))
      intro v313 w23 ho24 hb hg_ hnew_
      clear hg_ hnew_
      (first | rw [← Ny312.out] at ho24 | (simp only [Int.reduceToNat] at ho24; rw [← Ny312.out] at ho24))
      have n0_ := Aside0.mk (Kd.R_lower (Kd.R_newB (Kd.R_newB (Kd.R_newB ho24 (g := gb295) (o := .cells #[.int .i64 t298, .bool t299] 23 (0, 0)) (by (with_reducible repeat (first | refine blk_drewN ?_ _ | refine blk_drew ?_ | refine blk_alloc ?_ _)); exact BK295.out)) (g := gb296) (o := .cells #[.int .i64 t300, .bool t301] 23 (0, 0)) (by (with_reducible repeat (first | refine blk_drewN ?_ _ | refine blk_drew ?_ | refine blk_alloc ?_ _)); exact BK296.out)) (g := gb297) (o := .cells #[.int .i64 0, .bool false] 23 (0, 0)) (by (with_reducible repeat (first | refine blk_drewN ?_ _ | refine blk_drew ?_ | refine blk_alloc ?_ _)); exact BK297.out)) (below_size (by repeat (first | (with_reducible first | exact HB.out | apply below_alloc | apply pw_below_drewN | apply below_drew1 | refine below_set ?_ GE295.out | refine below_set ?_ GE296.out | refine below_set ?_ GE297.out) | exact HB.out))))
      have n1_ := Aside0.mk (blk_below (g := gb295) (o := .cells #[.int .i64 t298, .bool t299] 23 (0, 0)) (by (with_reducible repeat (first | refine blk_drewN ?_ _ | refine blk_drew ?_ | refine blk_alloc ?_ _)); exact BK295.out) hb)
      have n2_ := Aside0.mk (blk_below (g := gb296) (o := .cells #[.int .i64 t300, .bool t301] 23 (0, 0)) (by (with_reducible repeat (first | refine blk_drewN ?_ _ | refine blk_drew ?_ | refine blk_alloc ?_ _)); exact BK296.out) hb)
      have n3_ := Aside0.mk (blk_below (g := gb297) (o := .cells #[.int .i64 0, .bool false] 23 (0, 0)) (by (with_reducible repeat (first | refine blk_drewN ?_ _ | refine blk_drew ?_ | refine blk_alloc ?_ _)); exact BK297.out) hb)
      have n4_ := Aside0.mk (below_step (by repeat (first | (with_reducible first | exact HB.out | apply below_alloc | apply pw_below_drewN | apply below_drew1 | refine below_set ?_ GE295.out | refine below_set ?_ GE296.out | refine below_set ?_ GE297.out) | exact HB.out)) hb)
      clear BK295
      clear BK296
      clear BK297
      clear HB
      have HO314 := n0_
      have BK295 := n1_
      have BK296 := n2_
      have BK297 := n3_
      have HB := n4_
      clear n0_ n1_ n2_ n3_ n4_
      clear hb ho24
      refine hK.out _ _ ⟨v313, (by rw [ha.out]; exact putSel_upk 13 hb_ rfl rfl rfl), (by (with_reducible repeat (first | refine blk_drewN ?_ _ | refine blk_drew ?_ | refine blk_alloc ?_ _)); exact BK295.out), (by (with_reducible repeat (first | refine blk_drewN ?_ _ | refine blk_drew ?_ | refine blk_alloc ?_ _)); exact BK296.out), fun _ => (by (with_reducible repeat (first | refine blk_drewN ?_ _ | refine blk_drew ?_ | refine blk_alloc ?_ _)); exact BK297.out), (by repeat (first | (with_reducible first | exact HB.out | apply below_alloc | apply pw_below_drewN | apply below_drew1 | refine below_set ?_ GE295.out | refine below_set ?_ GE296.out | refine below_set ?_ GE297.out) | exact HB.out)), fun _ => (by (with_reducible repeat (first | apply Kd.R_alloc | apply Kd.R_drewN | apply Kd.R_drew)); exact Kd.R_mono HO314.out (fun _ hk => ⟨hk.1.1.2, ⟨hk.1.2, hk.2⟩⟩)), fun h0_ => absurd ((hoff 20 (by kernel_rfl)).symm.trans h0_) (by decide)⟩
    refine steps_cons ?_ ?_
    · rintro b a w' ⟨v313, ha, Q_BK295, Q_BK296, Q_BK297, Q_HB, Q_HO314, Q_BK297_e20⟩ hb_ hon hoff
      refine ⟨_, rfl, fun K hK => ?_⟩
      have e26 : a.tmps[26]? = some (v313) := by rw [ha]; exact putSel_on (e := (17, 26, v313)) 13 rfl rfl (hon 17 (by kernel_rfl)) rfl
      replace ha := Aside0.mk ha
      have BK295 := Aside0.mk Q_BK295
      have BK296 := Aside0.mk Q_BK296
      have BK297 := Aside0.mk (Q_BK297 (hoff 20 (by kernel_rfl)))
      have HB := Aside0.mk Q_HB
      have HO314 := Aside0.mk (Q_HO314 (hon 17 (by kernel_rfl)))
      obtain ⟨Ao30, co30, eo30⟩ := Kd.R_slice HO314.out
      (first | subst eo30 | (injection eo30 with f1_ f2_ f3_; have f4_ := f1_.symm; have f5_ := f3_.symm; clear f1_ f2_ f3_; subst f4_; subst f5_))
      refine goes_ Try.func88 (by kernel_rfl) rfl #[.slice Ao30 y312.length co30] (by rfl) rfl rfl (by first | (simp only [List.map_toArray, List.map_cons, List.map_nil, Act.eval, Array.getD_eq_getD_getElem?, Option.getD_some, e26]; done) | (simp only [List.map_toArray, List.map_cons, List.map_nil, Act.eval, Array.getD_eq_getD_getElem?, Option.getD_some, e26]; rfl)) ?_
      with_reducible refine (fixed_flags.calls k _ _ y312 t315 _ ?side1 ?side2 A9.out).mono ?_
      (case side1 => repeat (first | exact (Kd.R_reads' HO314.out).2.2 | (with_reducible refine Kd.C_alloc ?_ _) | (with_reducible refine Kd.C_drewN ?_ _) | (with_reducible refine Kd.C_drew ?_)))
      (case side2 => exact (Kd.R_reads' HO314.out).2.1)
      rintro e w31 ⟨rfl, hb⟩
      refine ⟨_, rfl, ?_⟩
      have n0_ := Aside0.mk (Kd.R_below (by (with_reducible repeat (first | apply Kd.R_alloc | apply Kd.R_drewN | apply Kd.R_drew)); exact HO314.out) hb)
      have n1_ := Aside0.mk (blk_below (g := gb295) (o := .cells #[.int .i64 t298, .bool t299] 23 (0, 0)) (by (with_reducible repeat (first | refine blk_drewN ?_ _ | refine blk_drew ?_ | refine blk_alloc ?_ _)); exact BK295.out) hb)
      have n2_ := Aside0.mk (blk_below (g := gb296) (o := .cells #[.int .i64 t300, .bool t301] 23 (0, 0)) (by (with_reducible repeat (first | refine blk_drewN ?_ _ | refine blk_drew ?_ | refine blk_alloc ?_ _)); exact BK296.out) hb)
      have n3_ := Aside0.mk (blk_below (g := gb297) (o := .cells #[.int .i64 0, .bool false] 23 (0, 0)) (by (with_reducible repeat (first | refine blk_drewN ?_ _ | refine blk_drew ?_ | refine blk_alloc ?_ _)); exact BK297.out) hb)
      have n4_ := Aside0.mk (below_step (by repeat (first | (with_reducible first | exact HB.out | apply below_alloc | apply pw_below_drewN | apply below_drew1 | refine below_set ?_ GE295.out | refine below_set ?_ GE296.out | refine below_set ?_ GE297.out) | exact HB.out)) hb)
      clear HO314
      clear BK295
      clear BK296
      clear BK297
      clear HB
      have HO314 := n0_
      have BK295 := n1_
      have BK296 := n2_
      have BK297 := n3_
      have HB := n4_
      clear n0_ n1_ n2_ n3_ n4_
      (try clear hb)
      (try clear hb2)
      (try clear hk)
      (try clear hi)
      refine hK.out _ _ ⟨.slice Ao30 y312.length co30, (by rw [ha.out]; exact putSel_upk 14 hb_ rfl rfl rfl), (by (with_reducible repeat (first | refine blk_drewN ?_ _ | refine blk_drew ?_ | refine blk_alloc ?_ _)); exact BK295.out), (by (with_reducible repeat (first | refine blk_drewN ?_ _ | refine blk_drew ?_ | refine blk_alloc ?_ _)); exact BK296.out), fun _ => (by (with_reducible repeat (first | refine blk_drewN ?_ _ | refine blk_drew ?_ | refine blk_alloc ?_ _)); exact BK297.out), (by repeat (first | (with_reducible first | exact HB.out | apply below_alloc | apply pw_below_drewN | apply below_drew1 | refine below_set ?_ GE295.out | refine below_set ?_ GE296.out | refine below_set ?_ GE297.out) | exact HB.out)), fun _ => (by (with_reducible repeat (first | apply Kd.R_alloc | apply Kd.R_drewN | apply Kd.R_drew)); exact HO314.out), fun h0_ => absurd ((hoff 20 (by kernel_rfl)).symm.trans h0_) (by decide)⟩
    refine steps_cons ?_ ?_
    · rintro b a w' ⟨v313, ha, Q_BK295, Q_BK296, Q_BK297, Q_HB, Q_HO314, Q_BK297_e20⟩ hb_ hon hoff
      refine ⟨_, rfl, fun K hK => ?_⟩
      have e23 : a.tmps[23]? = some (.agg #[.bool false, .int .u64 t311, .int .u64 0]) := by rw [ha]; exact putSel_on (e := (14, 23, .agg #[.bool false, .int .u64 t311, .int .u64 0])) 10 rfl rfl (hon 14 (by kernel_rfl)) rfl
      have e27 : a.tmps[27]? = some (.bool t315) := by rw [ha]; exact putSel_on (e := (18, 27, .bool t315)) 14 rfl rfl (hon 18 (by kernel_rfl)) rfl
      replace ha := Aside0.mk ha
      have BK295 := Aside0.mk Q_BK295
      have BK296 := Aside0.mk Q_BK296
      have BK297 := Aside0.mk (Q_BK297 (hoff 20 (by kernel_rfl)))
      have HB := Aside0.mk Q_HB
      have HO314 := Aside0.mk (Q_HO314 (hon 17 (by kernel_rfl)))
      refine goes_ Try.func83 (by kernel_rfl) rfl #[.agg #[.bool false, .int .u64 t311, .int .u64 0], .bool t315] (by rfl) rfl rfl (by first | (simp only [List.map_toArray, List.map_cons, List.map_nil, Act.eval, Array.getD_eq_getD_getElem?, Option.getD_some, e23, e27]; done) | (simp only [List.map_toArray, List.map_cons, List.map_nil, Act.eval, Array.getD_eq_getD_getElem?, Option.getD_some, e23, e27]; rfl)) ?_
      with_reducible refine (fixed_exact_fit.calls k false t311 0 t315 t316 t317 _ A10.out).mono ?_
      rintro e w32 ⟨rfl, hb⟩
      refine ⟨_, rfl, ?_⟩
      have n0_ := Aside0.mk (Kd.R_below (by (with_reducible repeat (first | apply Kd.R_alloc | apply Kd.R_drewN | apply Kd.R_drew)); exact HO314.out) hb)
      have n1_ := Aside0.mk (blk_below (g := gb295) (o := .cells #[.int .i64 t298, .bool t299] 23 (0, 0)) (by (with_reducible repeat (first | refine blk_drewN ?_ _ | refine blk_drew ?_ | refine blk_alloc ?_ _)); exact BK295.out) hb)
      have n2_ := Aside0.mk (blk_below (g := gb296) (o := .cells #[.int .i64 t300, .bool t301] 23 (0, 0)) (by (with_reducible repeat (first | refine blk_drewN ?_ _ | refine blk_drew ?_ | refine blk_alloc ?_ _)); exact BK296.out) hb)
      have n3_ := Aside0.mk (blk_below (g := gb297) (o := .cells #[.int .i64 0, .bool false] 23 (0, 0)) (by (with_reducible repeat (first | refine blk_drewN ?_ _ | refine blk_drew ?_ | refine blk_alloc ?_ _)); exact BK297.out) hb)
      have n4_ := Aside0.mk (below_step (by repeat (first | (with_reducible first | exact HB.out | apply below_alloc | apply pw_below_drewN | apply below_drew1 | refine below_set ?_ GE295.out | refine below_set ?_ GE296.out | refine below_set ?_ GE297.out) | exact HB.out)) hb)
      clear HO314
      clear BK295
      clear BK296
      clear BK297
      clear HB
      have HO314 := n0_
      have BK295 := n1_
      have BK296 := n2_
      have BK297 := n3_
      have HB := n4_
      clear n0_ n1_ n2_ n3_ n4_
      (try clear hb)
      (try clear hb2)
      (try clear hk)
      (try clear hi)
      refine hK.out _ _ ⟨v313, (by rw [ha.out]; exact putSel_upk 15 hb_ rfl rfl rfl), (by (with_reducible repeat (first | refine blk_drewN ?_ _ | refine blk_drew ?_ | refine blk_alloc ?_ _)); exact BK295.out), (by (with_reducible repeat (first | refine blk_drewN ?_ _ | refine blk_drew ?_ | refine blk_alloc ?_ _)); exact BK296.out), fun _ => (by (with_reducible repeat (first | refine blk_drewN ?_ _ | refine blk_drew ?_ | refine blk_alloc ?_ _)); exact BK297.out), (by repeat (first | (with_reducible first | exact HB.out | apply below_alloc | apply pw_below_drewN | apply below_drew1 | refine below_set ?_ GE295.out | refine below_set ?_ GE296.out | refine below_set ?_ GE297.out) | exact HB.out)), fun _ => (by (with_reducible repeat (first | apply Kd.R_alloc | apply Kd.R_drewN | apply Kd.R_drew)); exact HO314.out), fun h0_ => absurd ((hoff 20 (by kernel_rfl)).symm.trans h0_) (by decide)⟩
    refine steps_cons ?_ ?_
    · rintro b a w' ⟨v313, ha, Q_BK295, Q_BK296, Q_BK297, Q_HB, Q_HO314, Q_BK297_e20⟩ hb_ hon hoff
      refine ⟨_, rfl, fun K hK => ?_⟩
      have e4 : a.tmps[4]? = some (.pointer (some ⟨gb297, 0, none⟩)) := by rw [ha]; exact (putSel_off rfl).trans rfl
      have e28 : a.tmps[28]? = some (.agg #[.int .i64 t316, .bool t317]) := by rw [ha]; exact putSel_on (e := (19, 28, .agg #[.int .i64 t316, .bool t317])) 15 rfl rfl (hon 19 (by kernel_rfl)) rfl
      replace ha := Aside0.mk ha
      have BK295 := Aside0.mk Q_BK295
      have BK296 := Aside0.mk Q_BK296
      have BK297 := Aside0.mk (Q_BK297 hb_)
      have HB := Aside0.mk Q_HB
      have HO314 := Aside0.mk (Q_HO314 (hon 17 (by kernel_rfl)))
      have hs33 : w'.cell? ⟨gb297, 0, none⟩ = some (.int .i64 0) := (blk_cell BK297.out 0).trans rfl
      have hfs33 := blk_frozen BK297.out 0
      have hns33_0 := NB295_297.out
      have hns33_1 := NB296_297.out
      have hms33_0 := NB297_295.out
      have hms33_1 := NB297_296.out
      have hs34 : w'.cell? ⟨gb297, 1, none⟩ = some (.bool false) := (blk_cell BK297.out 1).trans rfl
      have hfs34 := blk_frozen BK297.out 1
      have hns34_0 := NB295_297.out
      have hns34_1 := NB296_297.out
      have hms34_0 := NB297_295.out
      have hms34_1 := NB297_296.out
      refine skip_ (w1 := ?_) (by rfl) rfl ?_ ?_
      rotate_left
      · go_simp
        rfl
      refine hK.out _ _ ⟨v313, (by rw [ha.out]; exact putSel_none (v := undef) rfl), (by (with_reducible repeat (first | refine blk_drewN ?_ _ | refine blk_drew ?_ | refine blk_alloc ?_ _)); refine blk_far ?_ NB295_297.out _; (with_reducible repeat (first | refine blk_drewN ?_ _ | refine blk_drew ?_ | refine blk_alloc ?_ _)); refine blk_far ?_ NB295_297.out _; (with_reducible repeat (first | refine blk_drewN ?_ _ | refine blk_drew ?_ | refine blk_alloc ?_ _)); exact BK295.out), (by (with_reducible repeat (first | refine blk_drewN ?_ _ | refine blk_drew ?_ | refine blk_alloc ?_ _)); refine blk_far ?_ NB296_297.out _; (with_reducible repeat (first | refine blk_drewN ?_ _ | refine blk_drew ?_ | refine blk_alloc ?_ _)); refine blk_far ?_ NB296_297.out _; (with_reducible repeat (first | refine blk_drewN ?_ _ | refine blk_drew ?_ | refine blk_alloc ?_ _)); exact BK296.out), fun h0_ => absurd ((up_self b 20).symm.trans h0_) (by decide), (by repeat (first | (with_reducible first | exact HB.out | apply below_alloc | apply pw_below_drewN | apply below_drew1 | refine below_set ?_ GE295.out | refine below_set ?_ GE296.out | refine below_set ?_ GE297.out) | exact HB.out)), fun _ => (by (with_reducible repeat (first | apply Kd.R_alloc | apply Kd.R_drewN | apply Kd.R_drew)); exact Kd.R_mono (Kd.R_far (p := ⟨gb297, 1, none⟩) (Kd.R_far (p := ⟨gb297, 0, none⟩) (Kd.R_mono HO314.out (fun k_ hk => (⟨hk, hk.2.2⟩ : _ ∧ k_ ≠ gb297))) (fun _ hk => hk.2) (.int .i64 t316)) (fun _ hk => hk.2) (.bool t317)) (fun _ hk => ⟨hk.1.1, ⟨hk.1.2.1, hk.1.2.2⟩⟩)), fun _ => (by (with_reducible repeat (first | refine blk_drewN ?_ _ | refine blk_drew ?_ | refine blk_alloc ?_ _)); refine blk_put (cs := #[.int .i64 t316, .bool false]) ?_ 1 _ rfl; (with_reducible repeat (first | refine blk_drewN ?_ _ | refine blk_drew ?_ | refine blk_alloc ?_ _)); refine blk_put (cs := #[.int .i64 0, .bool false]) ?_ 0 _ rfl; (with_reducible repeat (first | refine blk_drewN ?_ _ | refine blk_drew ?_ | refine blk_alloc ?_ _)); exact BK297.out)⟩
    exact steps_nil
  rintro b a w34 hall ⟨v313, ha, Q_BK295, Q_BK296, Q_BK297, Q_HB, Q_HO314, Q_BK297_e20⟩
  clear BK295 BK296 BK297 HB
  have hb1_ := hall 1 (by kernel_rfl)
  have hb3_ := hall 3 (by kernel_rfl)
  have hb4_ := hall 4 (by kernel_rfl)
  have hb6_ := hall 6 (by kernel_rfl)
  have hb8_ := hall 8 (by kernel_rfl)
  have hb9_ := hall 9 (by kernel_rfl)
  have hb10_ := hall 10 (by kernel_rfl)
  have hb11_ := hall 11 (by kernel_rfl)
  have hb12_ := hall 12 (by kernel_rfl)
  have hb13_ := hall 13 (by kernel_rfl)
  have hb14_ := hall 14 (by kernel_rfl)
  have hb15_ := hall 15 (by kernel_rfl)
  have hb16_ := hall 16 (by kernel_rfl)
  have hb17_ := hall 17 (by kernel_rfl)
  have hb18_ := hall 18 (by kernel_rfl)
  have hb19_ := hall 19 (by kernel_rfl)
  have hb20_ := hall 20 (by kernel_rfl)
  subst ha
  simp only [putSel, hb1_, hb3_, hb4_, hb6_, hb8_, hb9_, hb10_, hb11_, hb12_, hb13_, hb14_, hb15_, hb16_, hb17_, hb18_, hb19_, hb20_, if_true, Act.put, List.setIfInBounds_toArray, List.set_cons_zero, List.set_cons_succ]
  have BK295 := Aside0.mk Q_BK295
  clear Q_BK295
  have BK296 := Aside0.mk Q_BK296
  clear Q_BK296
  clear Q_BK297
  have HB := Aside0.mk Q_HB
  clear Q_HB
  have HO314 := Aside0.mk (Q_HO314 hb17_)
  clear Q_HO314
  have BK297 := Aside0.mk (Q_BK297_e20 hb20_)
  clear Q_BK297_e20
  clear hall hb1_ hb3_ hb4_ hb6_ hb8_ hb9_ hb10_ hb11_ hb12_ hb13_ hb14_ hb15_ hb16_ hb17_ hb18_ hb19_ hb20_
  try go_wp2
  refine bodyPost_ret (results_cell_row rfl _ _ gb297 23 #[.int .i64 t316, .bool t317] (0, 0) _ rfl (by (with_reducible repeat (first | refine blk_drewN ?_ _ | refine blk_drew ?_ | refine blk_alloc ?_ _)); exact BK297.out) Try.underlying23 rfl (by kernel_rfl)) rfl ?_
  exact ⟨by first | rfl | (simp [errW_none, errW_some] <;> rfl) | (simp [*, errW_none, errW_some] <;> rfl), by repeat (first | (with_reducible first | exact HB.out | apply below_alloc | apply pw_below_drewN | apply below_drew1 | refine below_set ?_ GE295.out | refine below_set ?_ GE296.out | refine below_set ?_ GE297.out) | exact HB.out)⟩
end Go.Proofs.Ytenpiaafkmfjfaa.B

end
section
namespace Go.Proofs.Ytenpiaafkmfjfaa.B
open Go.RowKit Go.Proofs.YtenpiaafkmfjfaaW.PrintWords Go.Proofs.YtenpiaafkmfjfaaW.PrintLast Go.Proofs.YtenpiaafkmfjfaaW.PrintMore
attribute [local go_sem] max2_int min2_int max_two min_two max_three min_three max_four min_four
set_option linter.unusedVariables false
set_option linter.unusedSimpArgs false
def fixed_Dot.f (k : Nat) (a0_0 : Int) (a0_1 : Bool) (a1_0 : Int) (a1_1 : Bool) (a2_0 : Int) (a2_1 : Bool) (a3_0 : Int) (a3_1 : Bool) : Option (Int × Bool) := (fixed_sound.f a0_0 a0_1).bind fun bt323 => ((fixed_sound.f a1_0 a1_1).bind fun bt325 => ((fixed_sound.f a2_0 a2_1).bind fun bt327 => ((fixed_sound.f a3_0 a3_1).bind fun bt329 => ((fixed_product.f bt323.1 bt325.1).bind fun bt331 => ((fixed_product.f bt327.1 bt329.1).bind fun bt334 => ((fixed_exact_plus.f k bt331.1 bt331.2.1 bt331.2.2 bt334.1 bt334.2.1 bt334.2.2).bind fun bt337 => ((fixed_exact_down.f bt337.1 bt337.2.1 bt337.2.2).bind fun bt340 => ((fixed_flags.f k (([(⟨bt323.1, bt323.2⟩ : S23), (⟨bt325.1, bt325.2⟩ : S23), (⟨bt327.1, bt327.2⟩ : S23), (⟨bt329.1, bt329.2⟩ : S23)] : List (S23)))).bind fun t346 => ((fixed_exact_fit.f k bt340.1 bt340.2.1 bt340.2.2 t346).bind fun bt347 => (some (bt347.1, bt347.2)))))))))))
def fixed_Dot.T1 : Bool × List (List Nat × List Nat) := (true, [([], []), ([0], [0]), ([], []), ([2, 1], [2]), ([], []), ([4, 3], [4]), ([], []), ([6, 5], [6]), ([1, 7, 0, 1], [1]), ([3, 8, 0, 1, 2, 3, 8], [3]), ([5, 9, 0, 1, 2, 3, 4, 5, 8, 9], [5]), ([7, 10, 0, 1, 2, 3, 4, 5, 6, 7, 8, 9, 10], [7])])
def fixed_Dot.B1 : List Nat := [0, 1, 0, 7, 0, 31, 0, 127, 255, 511, 1023, 2047]
theorem fixed_Dot.tab1 : rtab .any (opsOf Try.f43 1) = fixed_Dot.T1 := by kernel_rfl
theorem fixed_Dot.bits1 : waitsOk fixed_Dot.T1.2 fixed_Dot.B1 = true := by kernel_rfl
def fixed_Dot.T2 : Bool × List (List Nat × List Nat) := (true, [([], []), ([0], [0]), ([], []), ([2], [2]), ([1, 3], [1, 3]), ([], []), ([5], [5]), ([], []), ([7], [7]), ([6, 8, 4], [6, 8]), ([4, 9, 9], [4, 9]), ([10, 10], [10]), ([], []), ([], []), ([], []), ([], []), ([12, 13, 14, 15], [12, 13, 14, 15]), ([16, 11], [16]), ([11, 17, 17], [11, 17]), ([18, 18, 0, 1, 2, 3, 4, 5, 6, 7, 8, 9, 10, 11, 12, 13, 14, 15, 16, 17, 18], [18])])
def fixed_Dot.B2 : List Nat := [0, 1, 0, 4, 15, 0, 32, 0, 128, 511, 1023, 2047, 0, 0, 0, 0, 61440, 131071, 262143, 524287]
theorem fixed_Dot.tab2 : rtab .any (opsOf Try.f43 2) = fixed_Dot.T2 := by kernel_rfl
theorem fixed_Dot.bits2 : waitsOk fixed_Dot.T2.2 fixed_Dot.B2 = true := by kernel_rfl
set_option maxHeartbeats 8000000 in
set_option maxRecDepth 100000 in
theorem fixed_Dot.calls (k : Nat) (a0_0 : Int) (a0_1 : Bool) (a1_0 : Int) (a1_1 : Bool) (a2_0 : Int) (a2_1 : Bool) (a3_0 : Int) (a3_1 : Bool) (r1 : Int) (r2 : Bool) (w : World) (h : fixed_Dot.f k a0_0 a0_1 a1_0 a1_1 a2_0 a2_1 a3_0 a3_1 = some (r1, r2)) :
    Calls Try.prog 43 #[.agg #[.int .i64 a0_0, .bool a0_1], .agg #[.int .i64 a1_0, .bool a1_1], .agg #[.int .i64 a2_0, .bool a2_1], .agg #[.int .i64 a3_0, .bool a3_1]] w fun e w' => e = .returned (.agg #[.int .i64 r1, .bool r2]) ∧ Below w.heap.size w w' := by
  have hu23 := Try.underlying23
  have HB := Aside0.mk (Below.refl w.heap.size w)
  have H : ((fixed_sound.f a0_0 a0_1).bind fun bt323 => ((fixed_sound.f a1_0 a1_1).bind fun bt325 => ((fixed_sound.f a2_0 a2_1).bind fun bt327 => ((fixed_sound.f a3_0 a3_1).bind fun bt329 => ((fixed_product.f bt323.1 bt325.1).bind fun bt331 => ((fixed_product.f bt327.1 bt329.1).bind fun bt334 => ((fixed_exact_plus.f k bt331.1 bt331.2.1 bt331.2.2 bt334.1 bt334.2.1 bt334.2.2).bind fun bt337 => ((fixed_exact_down.f bt337.1 bt337.2.1 bt337.2.2).bind fun bt340 => ((fixed_flags.f k (([(⟨bt323.1, bt323.2⟩ : S23), (⟨bt325.1, bt325.2⟩ : S23), (⟨bt327.1, bt327.2⟩ : S23), (⟨bt329.1, bt329.2⟩ : S23)] : List (S23)))).bind fun t346 => ((fixed_exact_fit.f k bt340.1 bt340.2.1 bt340.2.2 t346).bind fun bt347 => (some (bt347.1, bt347.2)))))))))))) = some (r1, r2) := h
  clear h
  replace H := Option.bind_eq_some_iff.mp H
  obtain ⟨⟨t323, t324⟩, A50, H⟩ := H
  replace H : ((fixed_sound.f a1_0 a1_1).bind fun bt325 => ((fixed_sound.f a2_0 a2_1).bind fun bt327 => ((fixed_sound.f a3_0 a3_1).bind fun bt329 => ((fixed_product.f t323 bt325.1).bind fun bt331 => ((fixed_product.f bt327.1 bt329.1).bind fun bt334 => ((fixed_exact_plus.f k bt331.1 bt331.2.1 bt331.2.2 bt334.1 bt334.2.1 bt334.2.2).bind fun bt337 => ((fixed_exact_down.f bt337.1 bt337.2.1 bt337.2.2).bind fun bt340 => ((fixed_flags.f k (([(⟨t323, t324⟩ : S23), (⟨bt325.1, bt325.2⟩ : S23), (⟨bt327.1, bt327.2⟩ : S23), (⟨bt329.1, bt329.2⟩ : S23)] : List (S23)))).bind fun t346 => ((fixed_exact_fit.f k bt340.1 bt340.2.1 bt340.2.2 t346).bind fun bt347 => (some (bt347.1, bt347.2))))))))))) = some (r1, r2) := H
  have A5 := Aside0.mk A50
  clear A50
  replace H := Option.bind_eq_some_iff.mp H
  obtain ⟨⟨t325, t326⟩, A60, H⟩ := H
  replace H : ((fixed_sound.f a2_0 a2_1).bind fun bt327 => ((fixed_sound.f a3_0 a3_1).bind fun bt329 => ((fixed_product.f t323 t325).bind fun bt331 => ((fixed_product.f bt327.1 bt329.1).bind fun bt334 => ((fixed_exact_plus.f k bt331.1 bt331.2.1 bt331.2.2 bt334.1 bt334.2.1 bt334.2.2).bind fun bt337 => ((fixed_exact_down.f bt337.1 bt337.2.1 bt337.2.2).bind fun bt340 => ((fixed_flags.f k (([(⟨t323, t324⟩ : S23), (⟨t325, t326⟩ : S23), (⟨bt327.1, bt327.2⟩ : S23), (⟨bt329.1, bt329.2⟩ : S23)] : List (S23)))).bind fun t346 => ((fixed_exact_fit.f k bt340.1 bt340.2.1 bt340.2.2 t346).bind fun bt347 => (some (bt347.1, bt347.2)))))))))) = some (r1, r2) := H
  have A6 := Aside0.mk A60
  clear A60
  replace H := Option.bind_eq_some_iff.mp H
  obtain ⟨⟨t327, t328⟩, A70, H⟩ := H
  replace H : ((fixed_sound.f a3_0 a3_1).bind fun bt329 => ((fixed_product.f t323 t325).bind fun bt331 => ((fixed_product.f t327 bt329.1).bind fun bt334 => ((fixed_exact_plus.f k bt331.1 bt331.2.1 bt331.2.2 bt334.1 bt334.2.1 bt334.2.2).bind fun bt337 => ((fixed_exact_down.f bt337.1 bt337.2.1 bt337.2.2).bind fun bt340 => ((fixed_flags.f k (([(⟨t323, t324⟩ : S23), (⟨t325, t326⟩ : S23), (⟨t327, t328⟩ : S23), (⟨bt329.1, bt329.2⟩ : S23)] : List (S23)))).bind fun t346 => ((fixed_exact_fit.f k bt340.1 bt340.2.1 bt340.2.2 t346).bind fun bt347 => (some (bt347.1, bt347.2))))))))) = some (r1, r2) := H
  have A7 := Aside0.mk A70
  clear A70
  replace H := Option.bind_eq_some_iff.mp H
  obtain ⟨⟨t329, t330⟩, A80, H⟩ := H
  replace H : ((fixed_product.f t323 t325).bind fun bt331 => ((fixed_product.f t327 t329).bind fun bt334 => ((fixed_exact_plus.f k bt331.1 bt331.2.1 bt331.2.2 bt334.1 bt334.2.1 bt334.2.2).bind fun bt337 => ((fixed_exact_down.f bt337.1 bt337.2.1 bt337.2.2).bind fun bt340 => ((fixed_flags.f k (([(⟨t323, t324⟩ : S23), (⟨t325, t326⟩ : S23), (⟨t327, t328⟩ : S23), (⟨t329, t330⟩ : S23)] : List (S23)))).bind fun t346 => ((fixed_exact_fit.f k bt340.1 bt340.2.1 bt340.2.2 t346).bind fun bt347 => (some (bt347.1, bt347.2)))))))) = some (r1, r2) := H
  have A8 := Aside0.mk A80
  clear A80
  replace H := Option.bind_eq_some_iff.mp H
  obtain ⟨⟨t331, t332, t333⟩, A90, H⟩ := H
  replace H : ((fixed_product.f t327 t329).bind fun bt334 => ((fixed_exact_plus.f k t331 t332 t333 bt334.1 bt334.2.1 bt334.2.2).bind fun bt337 => ((fixed_exact_down.f bt337.1 bt337.2.1 bt337.2.2).bind fun bt340 => ((fixed_flags.f k (([(⟨t323, t324⟩ : S23), (⟨t325, t326⟩ : S23), (⟨t327, t328⟩ : S23), (⟨t329, t330⟩ : S23)] : List (S23)))).bind fun t346 => ((fixed_exact_fit.f k bt340.1 bt340.2.1 bt340.2.2 t346).bind fun bt347 => (some (bt347.1, bt347.2))))))) = some (r1, r2) := H
  have A9 := Aside0.mk A90
  clear A90
  replace H := Option.bind_eq_some_iff.mp H
  obtain ⟨⟨t334, t335, t336⟩, A100, H⟩ := H
  replace H : ((fixed_exact_plus.f k t331 t332 t333 t334 t335 t336).bind fun bt337 => ((fixed_exact_down.f bt337.1 bt337.2.1 bt337.2.2).bind fun bt340 => ((fixed_flags.f k (([(⟨t323, t324⟩ : S23), (⟨t325, t326⟩ : S23), (⟨t327, t328⟩ : S23), (⟨t329, t330⟩ : S23)] : List (S23)))).bind fun t346 => ((fixed_exact_fit.f k bt340.1 bt340.2.1 bt340.2.2 t346).bind fun bt347 => (some (bt347.1, bt347.2)))))) = some (r1, r2) := H
  have A10 := Aside0.mk A100
  clear A100
  replace H := Option.bind_eq_some_iff.mp H
  obtain ⟨⟨t337, t338, t339⟩, A110, H⟩ := H
  replace H : ((fixed_exact_down.f t337 t338 t339).bind fun bt340 => ((fixed_flags.f k (([(⟨t323, t324⟩ : S23), (⟨t325, t326⟩ : S23), (⟨t327, t328⟩ : S23), (⟨t329, t330⟩ : S23)] : List (S23)))).bind fun t346 => ((fixed_exact_fit.f k bt340.1 bt340.2.1 bt340.2.2 t346).bind fun bt347 => (some (bt347.1, bt347.2))))) = some (r1, r2) := H
  have A11 := Aside0.mk A110
  clear A110
  replace H := Option.bind_eq_some_iff.mp H
  obtain ⟨⟨t340, t341, t342⟩, A120, H⟩ := H
  replace H : ((fixed_flags.f k (([(⟨t323, t324⟩ : S23), (⟨t325, t326⟩ : S23), (⟨t327, t328⟩ : S23), (⟨t329, t330⟩ : S23)] : List (S23)))).bind fun t346 => ((fixed_exact_fit.f k t340 t341 t342 t346).bind fun bt347 => (some (bt347.1, bt347.2)))) = some (r1, r2) := H
  have A12 := Aside0.mk A120
  clear A120
  obtain ⟨y343, hy343⟩ : ∃ y_ : List (S23), y_ = (([(⟨t323, t324⟩ : S23), (⟨t325, t326⟩ : S23), (⟨t327, t328⟩ : S23), (⟨t329, t330⟩ : S23)] : List (S23))) := ⟨_, rfl⟩
  replace H : ((fixed_flags.f k y343).bind fun t346 => ((fixed_exact_fit.f k t340 t341 t342 t346).bind fun bt347 => (some (bt347.1, bt347.2)))) = some (r1, r2) := by first | (rw [hy343]; with_reducible exact H) | (have H2_ := (Option.bind_some _ _).symm.trans H; rw [hy343]; with_reducible exact H2_) | (have H2_ := (Option.bind_some _ _).symm.trans H; with_reducible exact H2_) | with_reducible exact H | (rw [hy343]; exact H) | exact H
  have Ny343 := Aside0.mk hy343
  clear hy343
  replace H := Option.bind_eq_some_iff.mp H
  obtain ⟨t346, A130, H⟩ := H
  replace H : ((fixed_exact_fit.f k t340 t341 t342 t346).bind fun bt347 => (some (bt347.1, bt347.2))) = some (r1, r2) := H
  have A13 := Aside0.mk A130
  clear A130
  replace H := Option.bind_eq_some_iff.mp H
  obtain ⟨⟨t347, t348⟩, A140, H⟩ := H
  replace H : (some (t347, t348)) = some (r1, r2) := H
  have A14 := Aside0.mk A140
  clear A140
  simp only [Option.some.injEq, Prod.mk.injEq] at H
  obtain ⟨rfl, rfl⟩ := H
  go_enter Try.func43, Try.ntmps43
  try go_wp2_with (first | ((with_reducible refine gate_dst (N := 4) rfl ?_); refine box_event ?hg (N := 4) ?hd (cs := #[.int .i64 a0_0, .bool a0_1]) (t := 23) ?hr ?_; (case hd => rfl); (case hg => rfl); (case hr => first | (go_simp; done) | (go_simp; rfl)); intro gb318 hg w15 hbox hb; have n0_ := Aside0.mk (below_step (by repeat (first | (with_reducible first | exact HB.out | apply below_alloc | apply pw_below_drewN | apply below_drew1) | exact HB.out)) hb); have n1_ := Aside0.mk (hbox); have n2_ := Aside0.mk ((by rw [hg]; exact (below_size (by repeat (first | (with_reducible first | exact HB.out | apply below_alloc | apply pw_below_drewN | apply below_drew1) | exact HB.out))) : w.heap.size ≤ gb318)); have n3_ := Aside0.mk ((by rw [hg]; exact (below_size (by repeat (first | (with_reducible first | exact HB.out | apply below_alloc | apply pw_below_drewN | apply below_drew1) | exact HB.out))) : w.heap.size ≤ gb318)); clear HB; have HB := n0_; have BK318 := n1_; have GW318 := n2_; have GE318 := n3_; clear n0_ n1_ n2_ n3_; clear hb hbox hg) | ((with_reducible refine gate_dst (N := 5) rfl ?_); refine box_event ?hg (N := 5) ?hd (cs := #[.int .i64 a1_0, .bool a1_1]) (t := 23) ?hr ?_; (case hd => rfl); (case hg => rfl); (case hr => first | (go_simp; done) | (go_simp; rfl)); intro gb319 hg w16 hbox hb; have n0_ := Aside0.mk (blk_below (g := gb318) (o := .cells #[.int .i64 a0_0, .bool a0_1] 23 (0, 0)) (by (with_reducible repeat (first | refine blk_drewN ?_ _ | refine blk_drew ?_ | refine blk_alloc ?_ _)); exact BK318.out) hb); have n1_ := Aside0.mk (below_step (by repeat (first | (with_reducible first | exact HB.out | apply below_alloc | apply pw_below_drewN | apply below_drew1 | refine below_set ?_ GE318.out) | exact HB.out)) hb); have n2_ := Aside0.mk (hbox); have n3_ := Aside0.mk ((by rw [hg]; exact (below_size (by repeat (first | (with_reducible first | exact HB.out | apply below_alloc | apply pw_below_drewN | apply below_drew1 | refine below_set ?_ GE318.out) | exact HB.out))) : w.heap.size ≤ gb319)); have n4_ := Aside0.mk ((by rw [hg]; exact (below_size (by repeat (first | (with_reducible first | exact HB.out | apply below_alloc | apply pw_below_drewN | apply below_drew1 | refine below_set ?_ GE318.out) | exact HB.out))) : w.heap.size ≤ gb319)); have n5_ := Aside0.mk ((by rw [hg]; exact Nat.ne_of_lt (blk_lt (g := gb318) (o := .cells #[.int .i64 a0_0, .bool a0_1] 23 (0, 0)) (by (with_reducible repeat (first | refine blk_drewN ?_ _ | refine blk_drew ?_ | refine blk_alloc ?_ _)); exact BK318.out)) : gb318 ≠ gb319)); have n6_ := Aside0.mk ((by rw [hg]; exact Nat.ne_of_gt (blk_lt (g := gb318) (o := .cells #[.int .i64 a0_0, .bool a0_1] 23 (0, 0)) (by (with_reducible repeat (first | refine blk_drewN ?_ _ | refine blk_drew ?_ | refine blk_alloc ?_ _)); exact BK318.out)) : gb319 ≠ gb318)); clear BK318; clear HB; have BK318 := n0_; have HB := n1_; have BK319 := n2_; have GW319 := n3_; have GE319 := n4_; have NB318_319 := n5_; have NB319_318 := n6_; clear n0_ n1_ n2_ n3_ n4_ n5_ n6_; clear hb hbox hg) | ((with_reducible refine gate_dst (N := 6) rfl ?_); refine box_event ?hg (N := 6) ?hd (cs := #[.int .i64 a2_0, .bool a2_1]) (t := 23) ?hr ?_; (case hd => rfl); (case hg => rfl); (case hr => first | (go_simp; done) | (go_simp; rfl)); intro gb320 hg w17 hbox hb; have n0_ := Aside0.mk (blk_below (g := gb318) (o := .cells #[.int .i64 a0_0, .bool a0_1] 23 (0, 0)) (by (with_reducible repeat (first | refine blk_drewN ?_ _ | refine blk_drew ?_ | refine blk_alloc ?_ _)); exact BK318.out) hb); have n1_ := Aside0.mk (blk_below (g := gb319) (o := .cells #[.int .i64 a1_0, .bool a1_1] 23 (0, 0)) (by (with_reducible repeat (first | refine blk_drewN ?_ _ | refine blk_drew ?_ | refine blk_alloc ?_ _)); exact BK319.out) hb); have n2_ := Aside0.mk (below_step (by repeat (first | (with_reducible first | exact HB.out | apply below_alloc | apply pw_below_drewN | apply below_drew1 | refine below_set ?_ GE318.out | refine below_set ?_ GE319.out) | exact HB.out)) hb); have n3_ := Aside0.mk (hbox); have n4_ := Aside0.mk ((by rw [hg]; exact (below_size (by repeat (first | (with_reducible first | exact HB.out | apply below_alloc | apply pw_below_drewN | apply below_drew1 | refine below_set ?_ GE318.out | refine below_set ?_ GE319.out) | exact HB.out))) : w.heap.size ≤ gb320)); have n5_ := Aside0.mk ((by rw [hg]; exact (below_size (by repeat (first | (with_reducible first | exact HB.out | apply below_alloc | apply pw_below_drewN | apply below_drew1 | refine below_set ?_ GE318.out | refine below_set ?_ GE319.out) | exact HB.out))) : w.heap.size ≤ gb320)); have n6_ := Aside0.mk ((by rw [hg]; exact Nat.ne_of_lt (blk_lt (g := gb318) (o := .cells #[.int .i64 a0_0, .bool a0_1] 23 (0, 0)) (by (with_reducible repeat (first | refine blk_drewN ?_ _ | refine blk_drew ?_ | refine blk_alloc ?_ _)); exact BK318.out)) : gb318 ≠ gb320)); have n7_ := Aside0.mk ((by rw [hg]; exact Nat.ne_of_gt (blk_lt (g := gb318) (o := .cells #[.int .i64 a0_0, .bool a0_1] 23 (0, 0)) (by (with_reducible repeat (first | refine blk_drewN ?_ _ | refine blk_drew ?_ | refine blk_alloc ?_ _)); exact BK318.out)) : gb320 ≠ gb318)); have n8_ := Aside0.mk ((by rw [hg]; exact Nat.ne_of_lt (blk_lt (g := gb319) (o := .cells #[.int .i64 a1_0, .bool a1_1] 23 (0, 0)) (by (with_reducible repeat (first | refine blk_drewN ?_ _ | refine blk_drew ?_ | refine blk_alloc ?_ _)); exact BK319.out)) : gb319 ≠ gb320)); have n9_ := Aside0.mk ((by rw [hg]; exact Nat.ne_of_gt (blk_lt (g := gb319) (o := .cells #[.int .i64 a1_0, .bool a1_1] 23 (0, 0)) (by (with_reducible repeat (first | refine blk_drewN ?_ _ | refine blk_drew ?_ | refine blk_alloc ?_ _)); exact BK319.out)) : gb320 ≠ gb319)); clear BK318; clear BK319; clear HB; have BK318 := n0_; have BK319 := n1_; have HB := n2_; have BK320 := n3_; have GW320 := n4_; have GE320 := n5_; have NB318_320 := n6_; have NB320_318 := n7_; have NB319_320 := n8_; have NB320_319 := n9_; clear n0_ n1_ n2_ n3_ n4_ n5_ n6_ n7_ n8_ n9_; clear hb hbox hg) | ((with_reducible refine gate_dst (N := 7) rfl ?_); refine box_event ?hg (N := 7) ?hd (cs := #[.int .i64 a3_0, .bool a3_1]) (t := 23) ?hr ?_; (case hd => rfl); (case hg => rfl); (case hr => first | (go_simp; done) | (go_simp; rfl)); intro gb321 hg w18 hbox hb; have n0_ := Aside0.mk (blk_below (g := gb318) (o := .cells #[.int .i64 a0_0, .bool a0_1] 23 (0, 0)) (by (with_reducible repeat (first | refine blk_drewN ?_ _ | refine blk_drew ?_ | refine blk_alloc ?_ _)); exact BK318.out) hb); have n1_ := Aside0.mk (blk_below (g := gb319) (o := .cells #[.int .i64 a1_0, .bool a1_1] 23 (0, 0)) (by (with_reducible repeat (first | refine blk_drewN ?_ _ | refine blk_drew ?_ | refine blk_alloc ?_ _)); exact BK319.out) hb); have n2_ := Aside0.mk (blk_below (g := gb320) (o := .cells #[.int .i64 a2_0, .bool a2_1] 23 (0, 0)) (by (with_reducible repeat (first | refine blk_drewN ?_ _ | refine blk_drew ?_ | refine blk_alloc ?_ _)); exact BK320.out) hb); have n3_ := Aside0.mk (below_step (by repeat (first | (with_reducible first | exact HB.out | apply below_alloc | apply pw_below_drewN | apply below_drew1 | refine below_set ?_ GE318.out | refine below_set ?_ GE319.out | refine below_set ?_ GE320.out) | exact HB.out)) hb); have n4_ := Aside0.mk (hbox); have n5_ := Aside0.mk ((by rw [hg]; exact (below_size (by repeat (first | (with_reducible first | exact HB.out | apply below_alloc | apply pw_below_drewN | apply below_drew1 | refine below_set ?_ GE318.out | refine below_set ?_ GE319.out | refine below_set ?_ GE320.out) | exact HB.out))) : w.heap.size ≤ gb321)); have n6_ := Aside0.mk ((by rw [hg]; exact (below_size (by repeat (first | (with_reducible first | exact HB.out | apply below_alloc | apply pw_below_drewN | apply below_drew1 | refine below_set ?_ GE318.out | refine below_set ?_ GE319.out | refine below_set ?_ GE320.out) | exact HB.out))) : w.heap.size ≤ gb321)); have n7_ := Aside0.mk ((by rw [hg]; exact Nat.ne_of_lt (blk_lt (g := gb318) (o := .cells #[.int .i64 a0_0, .bool a0_1] 23 (0, 0)) (by (with_reducible repeat (first | refine blk_drewN ?_ _ | refine blk_drew ?_ | refine blk_alloc ?_ _)); exact BK318.out)) : gb318 ≠ gb321)); have n8_ := Aside0.mk ((by rw [hg]; exact Nat.ne_of_gt (blk_lt (g := gb318) (o := .cells #[.int .i64 a0_0, .bool a0_1] 23 (0, 0)) (by (with_reducible repeat (first | refine blk_drewN ?_ _ | refine blk_drew ?_ | refine blk_alloc ?_ _)); exact BK318.out)) : gb321 ≠ gb318)); have n9_ := Aside0.mk ((by rw [hg]; exact Nat.ne_of_lt (blk_lt (g := gb319) (o := .cells #[.int .i64 a1_0, .bool a1_1] 23 (0, 0)) (by (with_reducible repeat (first | refine blk_drewN ?_ _ | refine blk_drew ?_ | refine blk_alloc ?_ _)); exact BK319.out)) : gb319 ≠ gb321)); have n10_ := Aside0.mk ((by rw [hg]; exact Nat.ne_of_gt (blk_lt (g := gb319) (o := .cells #[.int .i64 a1_0, .bool a1_1] 23 (0, 0)) (by (with_reducible repeat (first | refine blk_drewN ?_ _ | refine blk_drew ?_ | refine blk_alloc ?_ _)); exact BK319.out)) : gb321 ≠ gb319)); have n11_ := Aside0.mk ((by rw [hg]; exact Nat.ne_of_lt (blk_lt (g := gb320) (o := .cells #[.int .i64 a2_0, .bool a2_1] 23 (0, 0)) (by (with_reducible repeat (first | refine blk_drewN ?_ _ | refine blk_drew ?_ | refine blk_alloc ?_ _)); exact BK320.out)) : gb320 ≠ gb321)); have n12_ := Aside0.mk ((by rw [hg]; exact Nat.ne_of_gt (blk_lt (g := gb320) (o := .cells #[.int .i64 a2_0, .bool a2_1] 23 (0, 0)) (by (with_reducible repeat (first | refine blk_drewN ?_ _ | refine blk_drew ?_ | refine blk_alloc ?_ _)); exact BK320.out)) : gb321 ≠ gb320)); clear BK318; clear BK319; clear BK320; clear HB; have BK318 := n0_; have BK319 := n1_; have BK320 := n2_; have HB := n3_; have BK321 := n4_; have GW321 := n5_; have GE321 := n6_; have NB318_321 := n7_; have NB321_318 := n8_; have NB319_321 := n9_; have NB321_319 := n10_; have NB320_321 := n11_; have NB321_320 := n12_; clear n0_ n1_ n2_ n3_ n4_ n5_ n6_ n7_ n8_ n9_ n10_ n11_ n12_; clear hb hbox hg) | ((with_reducible refine gate_dst (N := 8) rfl ?_); refine box_event ?hg (N := 8) ?hd (cs := #[.int .i64 0, .bool false]) (t := 23) ?hr ?_; (case hd => rfl); (case hg => rfl); (case hr => first | (go_simp; done) | (go_simp; rfl)); intro gb322 hg w19 hbox hb; have n0_ := Aside0.mk (blk_below (g := gb318) (o := .cells #[.int .i64 a0_0, .bool a0_1] 23 (0, 0)) (by (with_reducible repeat (first | refine blk_drewN ?_ _ | refine blk_drew ?_ | refine blk_alloc ?_ _)); exact BK318.out) hb); have n1_ := Aside0.mk (blk_below (g := gb319) (o := .cells #[.int .i64 a1_0, .bool a1_1] 23 (0, 0)) (by (with_reducible repeat (first | refine blk_drewN ?_ _ | refine blk_drew ?_ | refine blk_alloc ?_ _)); exact BK319.out) hb); have n2_ := Aside0.mk (blk_below (g := gb320) (o := .cells #[.int .i64 a2_0, .bool a2_1] 23 (0, 0)) (by (with_reducible repeat (first | refine blk_drewN ?_ _ | refine blk_drew ?_ | refine blk_alloc ?_ _)); exact BK320.out) hb); have n3_ := Aside0.mk (blk_below (g := gb321) (o := .cells #[.int .i64 a3_0, .bool a3_1] 23 (0, 0)) (by (with_reducible repeat (first | refine blk_drewN ?_ _ | refine blk_drew ?_ | refine blk_alloc ?_ _)); exact BK321.out) hb); have n4_ := Aside0.mk (below_step (by repeat (first | (with_reducible first | exact HB.out | apply below_alloc | apply pw_below_drewN | apply below_drew1 | refine below_set ?_ GE318.out | refine below_set ?_ GE319.out | refine below_set ?_ GE320.out | refine below_set ?_ GE321.out) | exact HB.out)) hb); have n5_ := Aside0.mk (hbox); have n6_ := Aside0.mk ((by rw [hg]; exact (below_size (by repeat (first | (with_reducible first | exact HB.out | apply below_alloc | apply pw_below_drewN | apply below_drew1 | refine below_set ?_ GE318.out | refine below_set ?_ GE319.out | refine below_set ?_ GE320.out | refine below_set ?_ GE321.out) | exact HB.out))) : w.heap.size ≤ gb322)); have n7_ := Aside0.mk ((by rw [hg]; exact (below_size (by repeat (first | (with_reducible first | exact HB.out | apply below_alloc | apply pw_below_drewN | apply below_drew1 | refine below_set ?_ GE318.out | refine below_set ?_ GE319.out | refine below_set ?_ GE320.out | refine below_set ?_ GE321.out) | exact HB.out))) : w.heap.size ≤ gb322)); have n8_ := Aside0.mk ((by rw [hg]; exact Nat.ne_of_lt (blk_lt (g := gb318) (o := .cells #[.int .i64 a0_0, .bool a0_1] 23 (0, 0)) (by (with_reducible repeat (first | refine blk_drewN ?_ _ | refine blk_drew ?_ | refine blk_alloc ?_ _)); exact BK318.out)) : gb318 ≠ gb322)); have n9_ := Aside0.mk ((by rw [hg]; exact Nat.ne_of_gt (blk_lt (g := gb318) (o := .cells #[.int .i64 a0_0, .bool a0_1] 23 (0, 0)) (by (with_reducible repeat (first | refine blk_drewN ?_ _ | refine blk_drew ?_ | refine blk_alloc ?_ _)); exact BK318.out)) : gb322 ≠ gb318)); have n10_ := Aside0.mk ((by rw [hg]; exact Nat.ne_of_lt (blk_lt (g := gb319) (o := .cells #[.int .i64 a1_0, .bool a1_1] 23 (0, 0)) (by (with_reducible repeat (first | refine blk_drewN ?_ _ | refine blk_drew ?_ | refine blk_alloc ?_ _)); exact BK319.out)) : gb319 ≠ gb322)); have n11_ := Aside0.mk ((by rw [hg]; exact Nat.ne_of_gt (blk_lt (g := gb319) (o := .cells #[.int .i64 a1_0, .bool a1_1] 23 (0, 0)) (by (with_reducible repeat (first | refine blk_drewN ?_ _ | refine blk_drew ?_ | refine blk_alloc ?_ _)); exact BK319.out)) : gb322 ≠ gb319)); have n12_ := Aside0.mk ((by rw [hg]; exact Nat.ne_of_lt (blk_lt (g := gb320) (o := .cells #[.int .i64 a2_0, .bool a2_1] 23 (0, 0)) (by (with_reducible repeat (first | refine blk_drewN ?_ _ | refine blk_drew ?_ | refine blk_alloc ?_ _)); exact BK320.out)) : gb320 ≠ gb322)); have n13_ := Aside0.mk ((by rw [hg]; exact Nat.ne_of_gt (blk_lt (g := gb320) (o := .cells #[.int .i64 a2_0, .bool a2_1] 23 (0, 0)) (by (with_reducible repeat (first | refine blk_drewN ?_ _ | refine blk_drew ?_ | refine blk_alloc ?_ _)); exact BK320.out)) : gb322 ≠ gb320)); have n14_ := Aside0.mk ((by rw [hg]; exact Nat.ne_of_lt (blk_lt (g := gb321) (o := .cells #[.int .i64 a3_0, .bool a3_1] 23 (0, 0)) (by (with_reducible repeat (first | refine blk_drewN ?_ _ | refine blk_drew ?_ | refine blk_alloc ?_ _)); exact BK321.out)) : gb321 ≠ gb322)); have n15_ := Aside0.mk ((by rw [hg]; exact Nat.ne_of_gt (blk_lt (g := gb321) (o := .cells #[.int .i64 a3_0, .bool a3_1] 23 (0, 0)) (by (with_reducible repeat (first | refine blk_drewN ?_ _ | refine blk_drew ?_ | refine blk_alloc ?_ _)); exact BK321.out)) : gb322 ≠ gb321)); clear BK318; clear BK319; clear BK320; clear BK321; clear HB; have BK318 := n0_; have BK319 := n1_; have BK320 := n2_; have BK321 := n3_; have HB := n4_; have BK322 := n5_; have GW322 := n6_; have GE322 := n7_; have NB318_322 := n8_; have NB322_318 := n9_; have NB319_322 := n10_; have NB322_319 := n11_; have NB320_322 := n12_; have NB322_320 := n13_; have NB321_322 := n14_; have NB322_321 := n15_; clear n0_ n1_ n2_ n3_ n4_ n5_ n6_ n7_ n8_ n9_ n10_ n11_ n12_ n13_ n14_ n15_; clear hb hbox hg))
  have n0_ := Aside0.mk (blk_drew BK318.out)
  have n1_ := Aside0.mk (blk_drew BK319.out)
  have n2_ := Aside0.mk (blk_drew BK320.out)
  have n3_ := Aside0.mk (blk_drew BK321.out)
  have n4_ := Aside0.mk (blk_drew BK322.out)
  have n5_ := Aside0.mk (below_drew1 HB.out)
  clear BK318
  clear BK319
  clear BK320
  clear BK321
  clear BK322
  clear HB
  have BK318 := n0_
  have BK319 := n1_
  have BK320 := n2_
  have BK321 := n3_
  have BK322 := n4_
  have HB := n5_
  clear n0_ n1_ n2_ n3_ n4_ n5_
  refine start_ (n := 12) (S := fun w' => w'.cell? ⟨gb318, 0, none⟩ = some (.int .i64 a0_0) ∧ w'.cell? ⟨gb318, 1, none⟩ = some (.bool a0_1) ∧ w'.cell? ⟨gb319, 0, none⟩ = some (.int .i64 a1_0) ∧ w'.cell? ⟨gb319, 1, none⟩ = some (.bool a1_1) ∧ w'.cell? ⟨gb320, 0, none⟩ = some (.int .i64 a2_0) ∧ w'.cell? ⟨gb320, 1, none⟩ = some (.bool a2_1) ∧ w'.cell? ⟨gb321, 0, none⟩ = some (.int .i64 a3_0) ∧ w'.cell? ⟨gb321, 1, none⟩ = some (.bool a3_1)) (ds := [8, 9, 10, 11]) #[false, false, false, false, false, false, false, false, false, false, false, false] (by kernel_rfl) rfl rfl ⟨(blk_cell BK318.out 0).trans rfl, (blk_cell BK318.out 1).trans rfl, (blk_cell BK319.out 0).trans rfl, (blk_cell BK319.out 1).trans rfl, (blk_cell BK320.out 0).trans rfl, (blk_cell BK320.out 1).trans rfl, (blk_cell BK321.out 0).trans rfl, (blk_cell BK321.out 1).trans rfl⟩ (fun hHeld => ?_); refine with_tabW fixed_Dot.tab1 fixed_Dot.bits1 (fun HT_ HW_ => ?_)
  generalize w19.drew = w20 at BK318 BK319 BK320 BK321 BK322 HB hHeld ⊢
  refine take_ (i := 0) (N := some 9) (v := ?_) (a' := ?_) #[true, false, false, false, false, false, false, false, false, false, false, false] rfl rfl (take_ofW HT_.out HW_.out (by kernel_rfl)) (fun _ _ _ h => h) (Or.inl ⟨by rfl, ?_⟩) hHeld ?_ ?_
  rotate_left
  · rintro w' ⟨s0, s1, s2, s3, s4, s5, s6, s7⟩
    go_simp
    with_reducible rfl
  rotate_left
  · simp only [Act.put, List.setIfInBounds_toArray, List.set_cons_zero, List.set_cons_succ, i64_w, i32_w]
    rfl
  refine take_ (i := 2) (N := some 11) (v := ?_) (a' := ?_) #[true, false, true, false, false, false, false, false, false, false, false, false] rfl rfl (take_ofW HT_.out HW_.out (by kernel_rfl)) (fun _ _ _ h => h) (Or.inl ⟨by rfl, ?_⟩) hHeld ?_ ?_
  rotate_left
  · rintro w' ⟨s0, s1, s2, s3, s4, s5, s6, s7⟩
    go_simp
    with_reducible rfl
  rotate_left
  · simp only [Act.put, List.setIfInBounds_toArray, List.set_cons_zero, List.set_cons_succ, i64_w, i32_w]
    rfl
  refine take_ (i := 4) (N := some 13) (v := ?_) (a' := ?_) #[true, false, true, false, true, false, false, false, false, false, false, false] rfl rfl (take_ofW HT_.out HW_.out (by kernel_rfl)) (fun _ _ _ h => h) (Or.inl ⟨by rfl, ?_⟩) hHeld ?_ ?_
  rotate_left
  · rintro w' ⟨s0, s1, s2, s3, s4, s5, s6, s7⟩
    go_simp
    with_reducible rfl
  rotate_left
  · simp only [Act.put, List.setIfInBounds_toArray, List.set_cons_zero, List.set_cons_succ, i64_w, i32_w]
    rfl
  refine take_ (i := 6) (N := some 15) (v := ?_) (a' := ?_) #[true, false, true, false, true, false, true, false, false, false, false, false] rfl rfl (take_ofW HT_.out HW_.out (by kernel_rfl)) (fun _ _ _ h => h) (Or.inl ⟨by rfl, ?_⟩) hHeld ?_ ?_
  rotate_left
  · rintro w' ⟨s0, s1, s2, s3, s4, s5, s6, s7⟩
    go_simp
    with_reducible rfl
  rotate_left
  · simp only [Act.put, List.setIfInBounds_toArray, List.set_cons_zero, List.set_cons_succ, i64_w, i32_w]
    rfl
  refine one_ (i := 1) (N := some 10) #[true, true, true, false, true, false, true, false, false, false, false, false] rfl rfl (one_of HT_.out (by kernel_rfl)) (by decide) (fun K hK => ?_)
  refine goes_ Try.func72 (by kernel_rfl) rfl #[.agg #[.int .i64 a0_0, .bool a0_1]] (by rfl) rfl rfl (by (try simp only [List.map_toArray, List.map_cons, List.map_nil]); first | done | rfl | (simp only [List.length_drop, List.length_take]; rfl)) ?_
  with_reducible refine (fixed_sound.calls a0_0 a0_1 t323 t324 _ A5.out).mono ?_
  rintro e w21 ⟨rfl, hb⟩
  refine ⟨_, rfl, ?_⟩
  have n0_ := Aside0.mk (blk_below (g := gb318) (o := .cells #[.int .i64 a0_0, .bool a0_1] 23 (0, 0)) (by (with_reducible repeat (first | refine blk_drewN ?_ _ | refine blk_drew ?_ | refine blk_alloc ?_ _)); exact BK318.out) hb)
  have n1_ := Aside0.mk (blk_below (g := gb319) (o := .cells #[.int .i64 a1_0, .bool a1_1] 23 (0, 0)) (by (with_reducible repeat (first | refine blk_drewN ?_ _ | refine blk_drew ?_ | refine blk_alloc ?_ _)); exact BK319.out) hb)
  have n2_ := Aside0.mk (blk_below (g := gb320) (o := .cells #[.int .i64 a2_0, .bool a2_1] 23 (0, 0)) (by (with_reducible repeat (first | refine blk_drewN ?_ _ | refine blk_drew ?_ | refine blk_alloc ?_ _)); exact BK320.out) hb)
  have n3_ := Aside0.mk (blk_below (g := gb321) (o := .cells #[.int .i64 a3_0, .bool a3_1] 23 (0, 0)) (by (with_reducible repeat (first | refine blk_drewN ?_ _ | refine blk_drew ?_ | refine blk_alloc ?_ _)); exact BK321.out) hb)
  have n4_ := Aside0.mk (blk_below (g := gb322) (o := .cells #[.int .i64 0, .bool false] 23 (0, 0)) (by (with_reducible repeat (first | refine blk_drewN ?_ _ | refine blk_drew ?_ | refine blk_alloc ?_ _)); exact BK322.out) hb)
  have n5_ := Aside0.mk (below_step (by repeat (first | (with_reducible first | exact HB.out | apply below_alloc | apply pw_below_drewN | apply below_drew1 | refine below_set ?_ GE318.out | refine below_set ?_ GE319.out | refine below_set ?_ GE320.out | refine below_set ?_ GE321.out | refine below_set ?_ GE322.out) | exact HB.out)) hb)
  clear BK318
  clear BK319
  clear BK320
  clear BK321
  clear BK322
  clear HB
  have BK318 := n0_
  have BK319 := n1_
  have BK320 := n2_
  have BK321 := n3_
  have BK322 := n4_
  have HB := n5_
  clear n0_ n1_ n2_ n3_ n4_ n5_
  (try clear hb)
  (try clear hb2)
  (try clear hk)
  (try clear hi)
  refine hK.out _ _ ⟨(blk_cell BK318.out 0).trans rfl, (blk_cell BK318.out 1).trans rfl, (blk_cell BK319.out 0).trans rfl, (blk_cell BK319.out 1).trans rfl, (blk_cell BK320.out 0).trans rfl, (blk_cell BK320.out 1).trans rfl, (blk_cell BK321.out 0).trans rfl, (blk_cell BK321.out 1).trans rfl⟩ (fun hHeld => ?_)
  clear hK K
  refine norm_ (a' := ?_) ?_ ?_
  rotate_left
  · show Act.put _ (some 10) _ = _
    simp only [Act.put, List.setIfInBounds_toArray, List.set_cons_zero, List.set_cons_succ, i64_w, i32_w]
    rfl
  refine one_ (i := 3) (N := some 12) #[true, true, true, true, true, false, true, false, false, false, false, false] rfl rfl (one_of HT_.out (by kernel_rfl)) (by decide) (fun K hK => ?_)
  refine goes_ Try.func72 (by kernel_rfl) rfl #[.agg #[.int .i64 a1_0, .bool a1_1]] (by rfl) rfl rfl (by (try simp only [List.map_toArray, List.map_cons, List.map_nil]); first | done | rfl | (simp only [List.length_drop, List.length_take]; rfl)) ?_
  with_reducible refine (fixed_sound.calls a1_0 a1_1 t325 t326 _ A6.out).mono ?_
  rintro e w22 ⟨rfl, hb⟩
  refine ⟨_, rfl, ?_⟩
  have n0_ := Aside0.mk (blk_below (g := gb318) (o := .cells #[.int .i64 a0_0, .bool a0_1] 23 (0, 0)) (by (with_reducible repeat (first | refine blk_drewN ?_ _ | refine blk_drew ?_ | refine blk_alloc ?_ _)); exact BK318.out) hb)
  have n1_ := Aside0.mk (blk_below (g := gb319) (o := .cells #[.int .i64 a1_0, .bool a1_1] 23 (0, 0)) (by (with_reducible repeat (first | refine blk_drewN ?_ _ | refine blk_drew ?_ | refine blk_alloc ?_ _)); exact BK319.out) hb)
  have n2_ := Aside0.mk (blk_below (g := gb320) (o := .cells #[.int .i64 a2_0, .bool a2_1] 23 (0, 0)) (by (with_reducible repeat (first | refine blk_drewN ?_ _ | refine blk_drew ?_ | refine blk_alloc ?_ _)); exact BK320.out) hb)
  have n3_ := Aside0.mk (blk_below (g := gb321) (o := .cells #[.int .i64 a3_0, .bool a3_1] 23 (0, 0)) (by (with_reducible repeat (first | refine blk_drewN ?_ _ | refine blk_drew ?_ | refine blk_alloc ?_ _)); exact BK321.out) hb)
  have n4_ := Aside0.mk (blk_below (g := gb322) (o := .cells #[.int .i64 0, .bool false] 23 (0, 0)) (by (with_reducible repeat (first | refine blk_drewN ?_ _ | refine blk_drew ?_ | refine blk_alloc ?_ _)); exact BK322.out) hb)
  have n5_ := Aside0.mk (below_step (by repeat (first | (with_reducible first | exact HB.out | apply below_alloc | apply pw_below_drewN | apply below_drew1 | refine below_set ?_ GE318.out | refine below_set ?_ GE319.out | refine below_set ?_ GE320.out | refine below_set ?_ GE321.out | refine below_set ?_ GE322.out) | exact HB.out)) hb)
  clear BK318
  clear BK319
  clear BK320
  clear BK321
  clear BK322
  clear HB
  have BK318 := n0_
  have BK319 := n1_
  have BK320 := n2_
  have BK321 := n3_
  have BK322 := n4_
  have HB := n5_
  clear n0_ n1_ n2_ n3_ n4_ n5_
  (try clear hb)
  (try clear hb2)
  (try clear hk)
  (try clear hi)
  refine hK.out _ _ ⟨(blk_cell BK318.out 0).trans rfl, (blk_cell BK318.out 1).trans rfl, (blk_cell BK319.out 0).trans rfl, (blk_cell BK319.out 1).trans rfl, (blk_cell BK320.out 0).trans rfl, (blk_cell BK320.out 1).trans rfl, (blk_cell BK321.out 0).trans rfl, (blk_cell BK321.out 1).trans rfl⟩ (fun hHeld => ?_)
  clear hK K
  refine norm_ (a' := ?_) ?_ ?_
  rotate_left
  · show Act.put _ (some 12) _ = _
    simp only [Act.put, List.setIfInBounds_toArray, List.set_cons_zero, List.set_cons_succ, i64_w, i32_w]
    rfl
  refine one_ (i := 5) (N := some 14) #[true, true, true, true, true, true, true, false, false, false, false, false] rfl rfl (one_of HT_.out (by kernel_rfl)) (by decide) (fun K hK => ?_)
  refine goes_ Try.func72 (by kernel_rfl) rfl #[.agg #[.int .i64 a2_0, .bool a2_1]] (by rfl) rfl rfl (by (try simp only [List.map_toArray, List.map_cons, List.map_nil]); first | done | rfl | (simp only [List.length_drop, List.length_take]; rfl)) ?_
  with_reducible refine (fixed_sound.calls a2_0 a2_1 t327 t328 _ A7.out).mono ?_
  rintro e w23 ⟨rfl, hb⟩
  refine ⟨_, rfl, ?_⟩
  have n0_ := Aside0.mk (blk_below (g := gb318) (o := .cells #[.int .i64 a0_0, .bool a0_1] 23 (0, 0)) (by (with_reducible repeat (first | refine blk_drewN ?_ _ | refine blk_drew ?_ | refine blk_alloc ?_ _)); exact BK318.out) hb)
  have n1_ := Aside0.mk (blk_below (g := gb319) (o := .cells #[.int .i64 a1_0, .bool a1_1] 23 (0, 0)) (by (with_reducible repeat (first | refine blk_drewN ?_ _ | refine blk_drew ?_ | refine blk_alloc ?_ _)); exact BK319.out) hb)
  have n2_ := Aside0.mk (blk_below (g := gb320) (o := .cells #[.int .i64 a2_0, .bool a2_1] 23 (0, 0)) (by (with_reducible repeat (first | refine blk_drewN ?_ _ | refine blk_drew ?_ | refine blk_alloc ?_ _)); exact BK320.out) hb)
  have n3_ := Aside0.mk (blk_below (g := gb321) (o := .cells #[.int .i64 a3_0, .bool a3_1] 23 (0, 0)) (by (with_reducible repeat (first | refine blk_drewN ?_ _ | refine blk_drew ?_ | refine blk_alloc ?_ _)); exact BK321.out) hb)
  have n4_ := Aside0.mk (blk_below (g := gb322) (o := .cells #[.int .i64 0, .bool false] 23 (0, 0)) (by (with_reducible repeat (first | refine blk_drewN ?_ _ | refine blk_drew ?_ | refine blk_alloc ?_ _)); exact BK322.out) hb)
  have n5_ := Aside0.mk (below_step (by repeat (first | (with_reducible first | exact HB.out | apply below_alloc | apply pw_below_drewN | apply below_drew1 | refine below_set ?_ GE318.out | refine below_set ?_ GE319.out | refine below_set ?_ GE320.out | refine below_set ?_ GE321.out | refine below_set ?_ GE322.out) | exact HB.out)) hb)
  clear BK318
  clear BK319
  clear BK320
  clear BK321
  clear BK322
  clear HB
  have BK318 := n0_
  have BK319 := n1_
  have BK320 := n2_
  have BK321 := n3_
  have BK322 := n4_
  have HB := n5_
  clear n0_ n1_ n2_ n3_ n4_ n5_
  (try clear hb)
  (try clear hb2)
  (try clear hk)
  (try clear hi)
  refine hK.out _ _ ⟨(blk_cell BK318.out 0).trans rfl, (blk_cell BK318.out 1).trans rfl, (blk_cell BK319.out 0).trans rfl, (blk_cell BK319.out 1).trans rfl, (blk_cell BK320.out 0).trans rfl, (blk_cell BK320.out 1).trans rfl, (blk_cell BK321.out 0).trans rfl, (blk_cell BK321.out 1).trans rfl⟩ (fun hHeld => ?_)
  clear hK K
  refine norm_ (a' := ?_) ?_ ?_
  rotate_left
  · show Act.put _ (some 14) _ = _
    simp only [Act.put, List.setIfInBounds_toArray, List.set_cons_zero, List.set_cons_succ, i64_w, i32_w]
    rfl
  refine one_ (i := 7) (N := some 16) #[true, true, true, true, true, true, true, true, false, false, false, false] rfl rfl (one_of HT_.out (by kernel_rfl)) (by decide) (fun K hK => ?_)
  refine goes_ Try.func72 (by kernel_rfl) rfl #[.agg #[.int .i64 a3_0, .bool a3_1]] (by rfl) rfl rfl (by (try simp only [List.map_toArray, List.map_cons, List.map_nil]); first | done | rfl | (simp only [List.length_drop, List.length_take]; rfl)) ?_
  with_reducible refine (fixed_sound.calls a3_0 a3_1 t329 t330 _ A8.out).mono ?_
  rintro e w24 ⟨rfl, hb⟩
  refine ⟨_, rfl, ?_⟩
  have n0_ := Aside0.mk (blk_below (g := gb318) (o := .cells #[.int .i64 a0_0, .bool a0_1] 23 (0, 0)) (by (with_reducible repeat (first | refine blk_drewN ?_ _ | refine blk_drew ?_ | refine blk_alloc ?_ _)); exact BK318.out) hb)
  have n1_ := Aside0.mk (blk_below (g := gb319) (o := .cells #[.int .i64 a1_0, .bool a1_1] 23 (0, 0)) (by (with_reducible repeat (first | refine blk_drewN ?_ _ | refine blk_drew ?_ | refine blk_alloc ?_ _)); exact BK319.out) hb)
  have n2_ := Aside0.mk (blk_below (g := gb320) (o := .cells #[.int .i64 a2_0, .bool a2_1] 23 (0, 0)) (by (with_reducible repeat (first | refine blk_drewN ?_ _ | refine blk_drew ?_ | refine blk_alloc ?_ _)); exact BK320.out) hb)
  have n3_ := Aside0.mk (blk_below (g := gb321) (o := .cells #[.int .i64 a3_0, .bool a3_1] 23 (0, 0)) (by (with_reducible repeat (first | refine blk_drewN ?_ _ | refine blk_drew ?_ | refine blk_alloc ?_ _)); exact BK321.out) hb)
  have n4_ := Aside0.mk (blk_below (g := gb322) (o := .cells #[.int .i64 0, .bool false] 23 (0, 0)) (by (with_reducible repeat (first | refine blk_drewN ?_ _ | refine blk_drew ?_ | refine blk_alloc ?_ _)); exact BK322.out) hb)
  have n5_ := Aside0.mk (below_step (by repeat (first | (with_reducible first | exact HB.out | apply below_alloc | apply pw_below_drewN | apply below_drew1 | refine below_set ?_ GE318.out | refine below_set ?_ GE319.out | refine below_set ?_ GE320.out | refine below_set ?_ GE321.out | refine below_set ?_ GE322.out) | exact HB.out)) hb)
  clear BK318
  clear BK319
  clear BK320
  clear BK321
  clear BK322
  clear HB
  have BK318 := n0_
  have BK319 := n1_
  have BK320 := n2_
  have BK321 := n3_
  have BK322 := n4_
  have HB := n5_
  clear n0_ n1_ n2_ n3_ n4_ n5_
  (try clear hb)
  (try clear hb2)
  (try clear hk)
  (try clear hi)
  refine hK.out _ _ ⟨(blk_cell BK318.out 0).trans rfl, (blk_cell BK318.out 1).trans rfl, (blk_cell BK319.out 0).trans rfl, (blk_cell BK319.out 1).trans rfl, (blk_cell BK320.out 0).trans rfl, (blk_cell BK320.out 1).trans rfl, (blk_cell BK321.out 0).trans rfl, (blk_cell BK321.out 1).trans rfl⟩ (fun hHeld => ?_)
  clear hK K
  refine norm_ (a' := ?_) ?_ ?_
  rotate_left
  · show Act.put _ (some 16) _ = _
    simp only [Act.put, List.setIfInBounds_toArray, List.set_cons_zero, List.set_cons_succ, i64_w, i32_w]
    rfl
  refine last_ (i := 8) (N := none) #[true, true, true, true, true, true, true, true, true, false, false, false] rfl rfl (one_of HT_.out (by kernel_rfl)) (by decide) (fun K hK => ?_)
  have hs25 : w24.cell? ⟨gb318, 0, none⟩ = some (.int .i64 a0_0) := (blk_cell BK318.out 0).trans rfl
  have hfs25 := blk_frozen BK318.out 0
  have hns25_1 := NB319_318.out
  have hns25_2 := NB320_318.out
  have hns25_3 := NB321_318.out
  have hns25_4 := NB322_318.out
  have hms25_1 := NB318_319.out
  have hms25_2 := NB318_320.out
  have hms25_3 := NB318_321.out
  have hms25_4 := NB318_322.out
  have hs26 : w24.cell? ⟨gb318, 1, none⟩ = some (.bool a0_1) := (blk_cell BK318.out 1).trans rfl
  have hfs26 := blk_frozen BK318.out 1
  have hns26_1 := NB319_318.out
  have hns26_2 := NB320_318.out
  have hns26_3 := NB321_318.out
  have hns26_4 := NB322_318.out
  have hms26_1 := NB318_319.out
  have hms26_2 := NB318_320.out
  have hms26_3 := NB318_321.out
  have hms26_4 := NB318_322.out
  refine skip_ (w1 := ?_) (by rfl) rfl ?_ ?_
  rotate_left
  · go_simp
    rfl
  refine hK.out _ _ ?_
  clear hK K
  refine last_ (i := 9) (N := none) #[true, true, true, true, true, true, true, true, true, true, false, false] rfl rfl (one_of HT_.out (by kernel_rfl)) (by decide) (fun K hK => ?_)
  have hs27 : w24.cell? ⟨gb319, 0, none⟩ = some (.int .i64 a1_0) := (blk_cell BK319.out 0).trans rfl
  have hfs27 := blk_frozen BK319.out 0
  have hns27_0 := NB318_319.out
  have hns27_2 := NB320_319.out
  have hns27_3 := NB321_319.out
  have hns27_4 := NB322_319.out
  have hms27_0 := NB319_318.out
  have hms27_2 := NB319_320.out
  have hms27_3 := NB319_321.out
  have hms27_4 := NB319_322.out
  have hs28 : w24.cell? ⟨gb319, 1, none⟩ = some (.bool a1_1) := (blk_cell BK319.out 1).trans rfl
  have hfs28 := blk_frozen BK319.out 1
  have hns28_0 := NB318_319.out
  have hns28_2 := NB320_319.out
  have hns28_3 := NB321_319.out
  have hns28_4 := NB322_319.out
  have hms28_0 := NB319_318.out
  have hms28_2 := NB319_320.out
  have hms28_3 := NB319_321.out
  have hms28_4 := NB319_322.out
  refine skip_ (w1 := ?_) (by rfl) rfl ?_ ?_
  rotate_left
  · go_simp
    rfl
  refine hK.out _ _ ?_
  clear hK K
  refine last_ (i := 10) (N := none) #[true, true, true, true, true, true, true, true, true, true, true, false] rfl rfl (one_of HT_.out (by kernel_rfl)) (by decide) (fun K hK => ?_)
  have hs29 : w24.cell? ⟨gb320, 0, none⟩ = some (.int .i64 a2_0) := (blk_cell BK320.out 0).trans rfl
  have hfs29 := blk_frozen BK320.out 0
  have hns29_0 := NB318_320.out
  have hns29_1 := NB319_320.out
  have hns29_3 := NB321_320.out
  have hns29_4 := NB322_320.out
  have hms29_0 := NB320_318.out
  have hms29_1 := NB320_319.out
  have hms29_3 := NB320_321.out
  have hms29_4 := NB320_322.out
  have hs30 : w24.cell? ⟨gb320, 1, none⟩ = some (.bool a2_1) := (blk_cell BK320.out 1).trans rfl
  have hfs30 := blk_frozen BK320.out 1
  have hns30_0 := NB318_320.out
  have hns30_1 := NB319_320.out
  have hns30_3 := NB321_320.out
  have hns30_4 := NB322_320.out
  have hms30_0 := NB320_318.out
  have hms30_1 := NB320_319.out
  have hms30_3 := NB320_321.out
  have hms30_4 := NB320_322.out
  refine skip_ (w1 := ?_) (by rfl) rfl ?_ ?_
  rotate_left
  · go_simp
    rfl
  refine hK.out _ _ ?_
  clear hK K
  refine last_ (i := 11) (N := none) #[true, true, true, true, true, true, true, true, true, true, true, true] rfl rfl (one_of HT_.out (by kernel_rfl)) (by decide) (fun K hK => ?_)
  have hs31 : w24.cell? ⟨gb321, 0, none⟩ = some (.int .i64 a3_0) := (blk_cell BK321.out 0).trans rfl
  have hfs31 := blk_frozen BK321.out 0
  have hns31_0 := NB318_321.out
  have hns31_1 := NB319_321.out
  have hns31_2 := NB320_321.out
  have hns31_4 := NB322_321.out
  have hms31_0 := NB321_318.out
  have hms31_1 := NB321_319.out
  have hms31_2 := NB321_320.out
  have hms31_4 := NB321_322.out
  have hs32 : w24.cell? ⟨gb321, 1, none⟩ = some (.bool a3_1) := (blk_cell BK321.out 1).trans rfl
  have hfs32 := blk_frozen BK321.out 1
  have hns32_0 := NB318_321.out
  have hns32_1 := NB319_321.out
  have hns32_2 := NB320_321.out
  have hns32_4 := NB322_321.out
  have hms32_0 := NB321_318.out
  have hms32_1 := NB321_319.out
  have hms32_2 := NB321_320.out
  have hms32_4 := NB321_322.out
  refine skip_ (w1 := ?_) (by rfl) rfl ?_ ?_
  rotate_left
  · go_simp
    rfl
  refine hK.out _ _ ?_
  clear hK K
  refine done_ (done_of HT_.out (by kernel_rfl)) ?_
  try go_wp2
  have n0_ : Aside0 (((((((((w24.setCell ⟨gb318, 0, none⟩ (.int .i64 t323)).setCell ⟨gb318, 1, none⟩ (.bool t324)).setCell ⟨gb319, 0, none⟩ (.int .i64 t325)).setCell ⟨gb319, 1, none⟩ (.bool t326)).setCell ⟨gb320, 0, none⟩ (.int .i64 t327)).setCell ⟨gb320, 1, none⟩ (.bool t328)).setCell ⟨gb321, 0, none⟩ (.int .i64 t329)).setCell ⟨gb321, 1, none⟩ (.bool t330)).heap[gb318]? = some (.cells #[.int .i64 t323, .bool t324] 23 (0, 0))) := ⟨by (with_reducible repeat (first | refine blk_drewN ?_ _ | refine blk_drew ?_ | refine blk_alloc ?_ _)); refine blk_far ?_ NB318_321.out _; (with_reducible repeat (first | refine blk_drewN ?_ _ | refine blk_drew ?_ | refine blk_alloc ?_ _)); refine blk_far ?_ NB318_321.out _; (with_reducible repeat (first | refine blk_drewN ?_ _ | refine blk_drew ?_ | refine blk_alloc ?_ _)); refine blk_far ?_ NB318_320.out _; (with_reducible repeat (first | refine blk_drewN ?_ _ | refine blk_drew ?_ | refine blk_alloc ?_ _)); refine blk_far ?_ NB318_320.out _; (with_reducible repeat (first | refine blk_drewN ?_ _ | refine blk_drew ?_ | refine blk_alloc ?_ _)); refine blk_far ?_ NB318_319.out _; (with_reducible repeat (first | refine blk_drewN ?_ _ | refine blk_drew ?_ | refine blk_alloc ?_ _)); refine blk_far ?_ NB318_319.out _; (with_reducible repeat (first | refine blk_drewN ?_ _ | refine blk_drew ?_ | refine blk_alloc ?_ _)); refine blk_put (cs := #[.int .i64 t323, .bool a0_1]) ?_ 1 _ rfl; (with_reducible repeat (first | refine blk_drewN ?_ _ | refine blk_drew ?_ | refine blk_alloc ?_ _)); refine blk_put (cs := #[.int .i64 a0_0, .bool a0_1]) ?_ 0 _ rfl; (with_reducible repeat (first | refine blk_drewN ?_ _ | refine blk_drew ?_ | refine blk_alloc ?_ _)); exact BK318.out⟩
  have n1_ : Aside0 (((((((((w24.setCell ⟨gb318, 0, none⟩ (.int .i64 t323)).setCell ⟨gb318, 1, none⟩ (.bool t324)).setCell ⟨gb319, 0, none⟩ (.int .i64 t325)).setCell ⟨gb319, 1, none⟩ (.bool t326)).setCell ⟨gb320, 0, none⟩ (.int .i64 t327)).setCell ⟨gb320, 1, none⟩ (.bool t328)).setCell ⟨gb321, 0, none⟩ (.int .i64 t329)).setCell ⟨gb321, 1, none⟩ (.bool t330)).heap[gb319]? = some (.cells #[.int .i64 t325, .bool t326] 23 (0, 0))) := ⟨by (with_reducible repeat (first | refine blk_drewN ?_ _ | refine blk_drew ?_ | refine blk_alloc ?_ _)); refine blk_far ?_ NB319_321.out _; (with_reducible repeat (first | refine blk_drewN ?_ _ | refine blk_drew ?_ | refine blk_alloc ?_ _)); refine blk_far ?_ NB319_321.out _; (with_reducible repeat (first | refine blk_drewN ?_ _ | refine blk_drew ?_ | refine blk_alloc ?_ _)); refine blk_far ?_ NB319_320.out _; (with_reducible repeat (first | refine blk_drewN ?_ _ | refine blk_drew ?_ | refine blk_alloc ?_ _)); refine blk_far ?_ NB319_320.out _; (with_reducible repeat (first | refine blk_drewN ?_ _ | refine blk_drew ?_ | refine blk_alloc ?_ _)); refine blk_put (cs := #[.int .i64 t325, .bool a1_1]) ?_ 1 _ rfl; (with_reducible repeat (first | refine blk_drewN ?_ _ | refine blk_drew ?_ | refine blk_alloc ?_ _)); refine blk_put (cs := #[.int .i64 a1_0, .bool a1_1]) ?_ 0 _ rfl; (with_reducible repeat (first | refine blk_drewN ?_ _ | refine blk_drew ?_ | refine blk_alloc ?_ _)); refine blk_far ?_ NB319_318.out _; (with_reducible repeat (first | refine blk_drewN ?_ _ | refine blk_drew ?_ | refine blk_alloc ?_ _)); refine blk_far ?_ NB319_318.out _; (with_reducible repeat (first | refine blk_drewN ?_ _ | refine blk_drew ?_ | refine blk_alloc ?_ _)); exact BK319.out⟩
  have n2_ : Aside0 (((((((((w24.setCell ⟨gb318, 0, none⟩ (.int .i64 t323)).setCell ⟨gb318, 1, none⟩ (.bool t324)).setCell ⟨gb319, 0, none⟩ (.int .i64 t325)).setCell ⟨gb319, 1, none⟩ (.bool t326)).setCell ⟨gb320, 0, none⟩ (.int .i64 t327)).setCell ⟨gb320, 1, none⟩ (.bool t328)).setCell ⟨gb321, 0, none⟩ (.int .i64 t329)).setCell ⟨gb321, 1, none⟩ (.bool t330)).heap[gb320]? = some (.cells #[.int .i64 t327, .bool t328] 23 (0, 0))) := ⟨by (with_reducible repeat (first | refine blk_drewN ?_ _ | refine blk_drew ?_ | refine blk_alloc ?_ _)); refine blk_far ?_ NB320_321.out _; (with_reducible repeat (first | refine blk_drewN ?_ _ | refine blk_drew ?_ | refine blk_alloc ?_ _)); refine blk_far ?_ NB320_321.out _; (with_reducible repeat (first | refine blk_drewN ?_ _ | refine blk_drew ?_ | refine blk_alloc ?_ _)); refine blk_put (cs := #[.int .i64 t327, .bool a2_1]) ?_ 1 _ rfl; (with_reducible repeat (first | refine blk_drewN ?_ _ | refine blk_drew ?_ | refine blk_alloc ?_ _)); refine blk_put (cs := #[.int .i64 a2_0, .bool a2_1]) ?_ 0 _ rfl; (with_reducible repeat (first | refine blk_drewN ?_ _ | refine blk_drew ?_ | refine blk_alloc ?_ _)); refine blk_far ?_ NB320_319.out _; (with_reducible repeat (first | refine blk_drewN ?_ _ | refine blk_drew ?_ | refine blk_alloc ?_ _)); refine blk_far ?_ NB320_319.out _; (with_reducible repeat (first | refine blk_drewN ?_ _ | refine blk_drew ?_ | refine blk_alloc ?_ _)); refine blk_far ?_ NB320_318.out _; (with_reducible repeat (first | refine blk_drewN ?_ _ | refine blk_drew ?_ | refine blk_alloc ?_ _)); refine blk_far ?_ NB320_318.out _; (with_reducible repeat (first | refine blk_drewN ?_ _ | refine blk_drew ?_ | refine blk_alloc ?_ _)); exact BK320.out⟩
  have n3_ : Aside0 (((((((((w24.setCell ⟨gb318, 0, none⟩ (.int .i64 t323)).setCell ⟨gb318, 1, none⟩ (.bool t324)).setCell ⟨gb319, 0, none⟩ (.int .i64 t325)).setCell ⟨gb319, 1, none⟩ (.bool t326)).setCell ⟨gb320, 0, none⟩ (.int .i64 t327)).setCell ⟨gb320, 1, none⟩ (.bool t328)).setCell ⟨gb321, 0, none⟩ (.int .i64 t329)).setCell ⟨gb321, 1, none⟩ (.bool t330)).heap[gb321]? = some (.cells #[.int .i64 t329, .bool t330] 23 (0, 0))) := ⟨by (with_reducible repeat (first | refine blk_drewN ?_ _ | refine blk_drew ?_ | refine blk_alloc ?_ _)); refine blk_put (cs := #[.int .i64 t329, .bool a3_1]) ?_ 1 _ rfl; (with_reducible repeat (first | refine blk_drewN ?_ _ | refine blk_drew ?_ | refine blk_alloc ?_ _)); refine blk_put (cs := #[.int .i64 a3_0, .bool a3_1]) ?_ 0 _ rfl; (with_reducible repeat (first | refine blk_drewN ?_ _ | refine blk_drew ?_ | refine blk_alloc ?_ _)); refine blk_far ?_ NB321_320.out _; (with_reducible repeat (first | refine blk_drewN ?_ _ | refine blk_drew ?_ | refine blk_alloc ?_ _)); refine blk_far ?_ NB321_320.out _; (with_reducible repeat (first | refine blk_drewN ?_ _ | refine blk_drew ?_ | refine blk_alloc ?_ _)); refine blk_far ?_ NB321_319.out _; (with_reducible repeat (first | refine blk_drewN ?_ _ | refine blk_drew ?_ | refine blk_alloc ?_ _)); refine blk_far ?_ NB321_319.out _; (with_reducible repeat (first | refine blk_drewN ?_ _ | refine blk_drew ?_ | refine blk_alloc ?_ _)); refine blk_far ?_ NB321_318.out _; (with_reducible repeat (first | refine blk_drewN ?_ _ | refine blk_drew ?_ | refine blk_alloc ?_ _)); refine blk_far ?_ NB321_318.out _; (with_reducible repeat (first | refine blk_drewN ?_ _ | refine blk_drew ?_ | refine blk_alloc ?_ _)); exact BK321.out⟩
  have n4_ : Aside0 (((((((((w24.setCell ⟨gb318, 0, none⟩ (.int .i64 t323)).setCell ⟨gb318, 1, none⟩ (.bool t324)).setCell ⟨gb319, 0, none⟩ (.int .i64 t325)).setCell ⟨gb319, 1, none⟩ (.bool t326)).setCell ⟨gb320, 0, none⟩ (.int .i64 t327)).setCell ⟨gb320, 1, none⟩ (.bool t328)).setCell ⟨gb321, 0, none⟩ (.int .i64 t329)).setCell ⟨gb321, 1, none⟩ (.bool t330)).heap[gb322]? = some (.cells #[.int .i64 0, .bool false] 23 (0, 0))) := ⟨by (with_reducible repeat (first | refine blk_drewN ?_ _ | refine blk_drew ?_ | refine blk_alloc ?_ _)); refine blk_far ?_ NB322_321.out _; (with_reducible repeat (first | refine blk_drewN ?_ _ | refine blk_drew ?_ | refine blk_alloc ?_ _)); refine blk_far ?_ NB322_321.out _; (with_reducible repeat (first | refine blk_drewN ?_ _ | refine blk_drew ?_ | refine blk_alloc ?_ _)); refine blk_far ?_ NB322_320.out _; (with_reducible repeat (first | refine blk_drewN ?_ _ | refine blk_drew ?_ | refine blk_alloc ?_ _)); refine blk_far ?_ NB322_320.out _; (with_reducible repeat (first | refine blk_drewN ?_ _ | refine blk_drew ?_ | refine blk_alloc ?_ _)); refine blk_far ?_ NB322_319.out _; (with_reducible repeat (first | refine blk_drewN ?_ _ | refine blk_drew ?_ | refine blk_alloc ?_ _)); refine blk_far ?_ NB322_319.out _; (with_reducible repeat (first | refine blk_drewN ?_ _ | refine blk_drew ?_ | refine blk_alloc ?_ _)); refine blk_far ?_ NB322_318.out _; (with_reducible repeat (first | refine blk_drewN ?_ _ | refine blk_drew ?_ | refine blk_alloc ?_ _)); refine blk_far ?_ NB322_318.out _; (with_reducible repeat (first | refine blk_drewN ?_ _ | refine blk_drew ?_ | refine blk_alloc ?_ _)); exact BK322.out⟩
  have n5_ : Aside0 (Below w.heap.size w ((((((((w24.setCell ⟨gb318, 0, none⟩ (.int .i64 t323)).setCell ⟨gb318, 1, none⟩ (.bool t324)).setCell ⟨gb319, 0, none⟩ (.int .i64 t325)).setCell ⟨gb319, 1, none⟩ (.bool t326)).setCell ⟨gb320, 0, none⟩ (.int .i64 t327)).setCell ⟨gb320, 1, none⟩ (.bool t328)).setCell ⟨gb321, 0, none⟩ (.int .i64 t329)).setCell ⟨gb321, 1, none⟩ (.bool t330))) := ⟨by repeat (first | (with_reducible first | exact HB.out | apply below_alloc | apply pw_below_drewN | apply below_drew1 | refine below_set ?_ GE318.out | refine below_set ?_ GE319.out | refine below_set ?_ GE320.out | refine below_set ?_ GE321.out | refine below_set ?_ GE322.out) | exact HB.out)⟩
  (try clear BK318)
  (try clear BK319)
  (try clear BK320)
  (try clear BK321)
  (try clear BK322)
  (try clear HB)
  generalize ((((((((w24.setCell ⟨gb318, 0, none⟩ (.int .i64 t323)).setCell ⟨gb318, 1, none⟩ (.bool t324)).setCell ⟨gb319, 0, none⟩ (.int .i64 t325)).setCell ⟨gb319, 1, none⟩ (.bool t326)).setCell ⟨gb320, 0, none⟩ (.int .i64 t327)).setCell ⟨gb320, 1, none⟩ (.bool t328)).setCell ⟨gb321, 0, none⟩ (.int .i64 t329)).setCell ⟨gb321, 1, none⟩ (.bool t330)) = w33 at n0_ n1_ n2_ n3_ n4_ n5_ ⊢
  have BK318 := n0_
  have BK319 := n1_
  have BK320 := n2_
  have BK321 := n3_
  have BK322 := n4_
  have HB := n5_
  clear n0_ n1_ n2_ n3_ n4_ n5_
  have n0_ := Aside0.mk (blk_drew BK318.out)
  have n1_ := Aside0.mk (blk_drew BK319.out)
  have n2_ := Aside0.mk (blk_drew BK320.out)
  have n3_ := Aside0.mk (blk_drew BK321.out)
  have n4_ := Aside0.mk (blk_drew BK322.out)
  have n5_ := Aside0.mk (below_drew1 HB.out)
  clear BK318
  clear BK319
  clear BK320
  clear BK321
  clear BK322
  clear HB
  have BK318 := n0_
  have BK319 := n1_
  have BK320 := n2_
  have BK321 := n3_
  have BK322 := n4_
  have HB := n5_
  clear n0_ n1_ n2_ n3_ n4_ n5_
  refine start_ (n := 20) (S := fun w' => True) (ds := []) #[false, false, false, false, false, false, false, false, false, false, false, false, false, false, false, false, false, false, false, false] (by kernel_rfl) rfl rfl trivial (fun hHeld => ?_); refine with_tabW fixed_Dot.tab2 fixed_Dot.bits2 (fun HT_ HW_ => ?_)
  generalize w33.drew = w34 at BK318 BK319 BK320 BK321 BK322 HB hHeld ⊢
  refine pure_ (i := 0) (N := some 17) (v := ?_) (a' := ?_) #[true, false, false, false, false, false, false, false, false, false, false, false, false, false, false, false, false, false, false, false] rfl rfl (any_of HT_.out (by kernel_rfl)) (fun _ _ _ h => h) (Or.inl ⟨by rfl, ?_⟩) ?_ ?_
  rotate_left
  · intro w'
    go_simp
    with_reducible rfl
  rotate_left
  · simp only [Act.put, List.setIfInBounds_toArray, List.set_cons_zero, List.set_cons_succ, i64_w, i32_w]
    rfl
  refine pure_ (i := 2) (N := some 19) (v := ?_) (a' := ?_) #[true, false, true, false, false, false, false, false, false, false, false, false, false, false, false, false, false, false, false, false] rfl rfl (any_of HT_.out (by kernel_rfl)) (fun _ _ _ h => h) (Or.inl ⟨by rfl, ?_⟩) ?_ ?_
  rotate_left
  · intro w'
    go_simp
    with_reducible rfl
  rotate_left
  · simp only [Act.put, List.setIfInBounds_toArray, List.set_cons_zero, List.set_cons_succ, i64_w, i32_w]
    rfl
  refine pure_ (i := 5) (N := some 22) (v := ?_) (a' := ?_) #[true, false, true, false, false, true, false, false, false, false, false, false, false, false, false, false, false, false, false, false] rfl rfl (any_of HT_.out (by kernel_rfl)) (fun _ _ _ h => h) (Or.inl ⟨by rfl, ?_⟩) ?_ ?_
  rotate_left
  · intro w'
    go_simp
    with_reducible rfl
  rotate_left
  · simp only [Act.put, List.setIfInBounds_toArray, List.set_cons_zero, List.set_cons_succ, i64_w, i32_w]
    rfl
  refine pure_ (i := 7) (N := some 24) (v := ?_) (a' := ?_) #[true, false, true, false, false, true, false, true, false, false, false, false, false, false, false, false, false, false, false, false] rfl rfl (any_of HT_.out (by kernel_rfl)) (fun _ _ _ h => h) (Or.inl ⟨by rfl, ?_⟩) ?_ ?_
  rotate_left
  · intro w'
    go_simp
    with_reducible rfl
  rotate_left
  · simp only [Act.put, List.setIfInBounds_toArray, List.set_cons_zero, List.set_cons_succ, i64_w, i32_w]
    rfl
  refine inv_at [1, 3, 4, 6, 8, 9, 10, 11, 12, 13, 14, 15, 16, 17, 18, 19] (fun a0_ b a w' => ∃ (v344 : Value), a = putSel a0_ b [(1, 18, .int .i64 t323), (3, 20, .int .i64 t325), (4, 21, .agg #[.bool t331, .int .u64 t332, .int .u64 t333]), (6, 23, .int .i64 t327), (8, 25, .int .i64 t329), (9, 26, .agg #[.bool t334, .int .u64 t335, .int .u64 t336]), (10, 27, .agg #[.bool t337, .int .u64 t338, .int .u64 t339]), (11, 28, .agg #[.bool t340, .int .u64 t341, .int .u64 t342]), (12, 29, .agg #[.int .i64 t323, .bool t324]), (13, 30, .agg #[.int .i64 t325, .bool t326]), (14, 31, .agg #[.int .i64 t327, .bool t328]), (15, 32, .agg #[.int .i64 t329, .bool t330]), (16, 33, v344), (17, 34, .bool t346), (18, 35, .agg #[.int .i64 t347, .bool t348])] ∧ (w'.heap[gb318]? = some (.cells #[.int .i64 t323, .bool t324] 23 (0, 0))) ∧ (w'.heap[gb319]? = some (.cells #[.int .i64 t325, .bool t326] 23 (0, 0))) ∧ (w'.heap[gb320]? = some (.cells #[.int .i64 t327, .bool t328] 23 (0, 0))) ∧ (w'.heap[gb321]? = some (.cells #[.int .i64 t329, .bool t330] 23 (0, 0))) ∧ (b 19 = false → w'.heap[gb322]? = some (.cells #[.int .i64 0, .bool false] 23 (0, 0))) ∧ (Below w.heap.size w w') ∧ (b 16 = true → Kd.R k23 23 w' w.heap.size (fun k_ => k_ ≠ gb318 ∧ k_ ≠ gb319 ∧ k_ ≠ gb320 ∧ k_ ≠ gb321 ∧ k_ ≠ gb322) v344 y343) ∧ (b 19 = true → w'.heap[gb322]? = some (.cells #[.int .i64 t347, .bool t348] 23 (0, 0)))) HT_.out HW_.out (by kernel_rfl) (by kernel_rfl) ?_ ?_ ?_
  · exact ⟨.bool false, by simp only [putSel, Bool.false_eq_true, if_false], BK318.out, BK319.out, BK320.out, BK321.out, fun _ => BK322.out, HB.out, fun h_ => absurd h_ (by decide), fun h_ => absurd h_ (by decide)⟩
  · skip
    clear BK318 BK319 BK320 BK321 BK322 HB
    refine steps_cons ?_ ?_
    · rintro b a w' ⟨v344, ha, Q_BK318, Q_BK319, Q_BK320, Q_BK321, Q_BK322, Q_HB, Q_HO345, Q_BK322_e19⟩ hb_ hon hoff
      refine ⟨_, rfl, fun K hK => ?_⟩
      have e17 : a.tmps[17]? = some (.pointer (some ⟨gb318, 0, none⟩)) := by rw [ha]; exact (putSel_off rfl).trans rfl
      replace ha := Aside0.mk ha
      have BK318 := Aside0.mk Q_BK318
      have BK319 := Aside0.mk Q_BK319
      have BK320 := Aside0.mk Q_BK320
      have BK321 := Aside0.mk Q_BK321
      have BK322 := Aside0.mk (Q_BK322 (hoff 19 (by kernel_rfl)))
      have HB := Aside0.mk Q_HB
      have hc0_ : w'.cell? ⟨gb318, 0, none⟩ = some (.int .i64 t323) := (blk_cell BK318.out 0).trans rfl
      have hc1_ : w'.cell? ⟨gb318, 1, none⟩ = some (.bool t324) := (blk_cell BK318.out 1).trans rfl
      refine value_ (w1 := w') (v := .int .i64 t323) (by rfl) rfl ?_ ?_
      · go_simp
        (try simp only [i64_w])
        try rfl
      refine hK.out _ _ ⟨v344, (by rw [ha.out]; exact putSel_upk 0 hb_ rfl rfl rfl), Q_BK318, Q_BK319, Q_BK320, Q_BK321, Q_BK322, Q_HB, Q_HO345, fun h0_ => absurd ((hoff 19 (by kernel_rfl)).symm.trans h0_) (by decide)⟩
    refine steps_cons ?_ ?_
    · rintro b a w' ⟨v344, ha, Q_BK318, Q_BK319, Q_BK320, Q_BK321, Q_BK322, Q_HB, Q_HO345, Q_BK322_e19⟩ hb_ hon hoff
      refine ⟨_, rfl, fun K hK => ?_⟩
      have e19 : a.tmps[19]? = some (.pointer (some ⟨gb319, 0, none⟩)) := by rw [ha]; exact (putSel_off rfl).trans rfl
      replace ha := Aside0.mk ha
      have BK318 := Aside0.mk Q_BK318
      have BK319 := Aside0.mk Q_BK319
      have BK320 := Aside0.mk Q_BK320
      have BK321 := Aside0.mk Q_BK321
      have BK322 := Aside0.mk (Q_BK322 (hoff 19 (by kernel_rfl)))
      have HB := Aside0.mk Q_HB
      have hc0_ : w'.cell? ⟨gb319, 0, none⟩ = some (.int .i64 t325) := (blk_cell BK319.out 0).trans rfl
      have hc1_ : w'.cell? ⟨gb319, 1, none⟩ = some (.bool t326) := (blk_cell BK319.out 1).trans rfl
      refine value_ (w1 := w') (v := .int .i64 t325) (by rfl) rfl ?_ ?_
      · go_simp
        (try simp only [i64_w])
        try rfl
      refine hK.out _ _ ⟨v344, (by rw [ha.out]; exact putSel_upk 1 hb_ rfl rfl rfl), Q_BK318, Q_BK319, Q_BK320, Q_BK321, Q_BK322, Q_HB, Q_HO345, fun h0_ => absurd ((hoff 19 (by kernel_rfl)).symm.trans h0_) (by decide)⟩
    refine steps_cons ?_ ?_
    · rintro b a w' ⟨v344, ha, Q_BK318, Q_BK319, Q_BK320, Q_BK321, Q_BK322, Q_HB, Q_HO345, Q_BK322_e19⟩ hb_ hon hoff
      refine ⟨_, rfl, fun K hK => ?_⟩
      have e18 : a.tmps[18]? = some (.int .i64 t323) := by rw [ha]; exact putSel_on (e := (1, 18, .int .i64 t323)) 0 rfl rfl (hon 1 (by kernel_rfl)) rfl
      have e20 : a.tmps[20]? = some (.int .i64 t325) := by rw [ha]; exact putSel_on (e := (3, 20, .int .i64 t325)) 1 rfl rfl (hon 3 (by kernel_rfl)) rfl
      replace ha := Aside0.mk ha
      have BK318 := Aside0.mk Q_BK318
      have BK319 := Aside0.mk Q_BK319
      have BK320 := Aside0.mk Q_BK320
      have BK321 := Aside0.mk Q_BK321
      have BK322 := Aside0.mk (Q_BK322 (hoff 19 (by kernel_rfl)))
      have HB := Aside0.mk Q_HB
      refine goes_ Try.func74 (by kernel_rfl) rfl #[.int .i64 t323, .int .i64 t325] (by rfl) rfl rfl (by first | (simp only [List.map_toArray, List.map_cons, List.map_nil, Act.eval, Array.getD_eq_getD_getElem?, Option.getD_some, e18, e20]; done) | (simp only [List.map_toArray, List.map_cons, List.map_nil, Act.eval, Array.getD_eq_getD_getElem?, Option.getD_some, e18, e20]; rfl)) ?_
      with_reducible refine (fixed_product.calls t323 t325 t331 t332 t333 _ A9.out).mono ?_
      rintro e w35 ⟨rfl, hb⟩
      refine ⟨_, rfl, ?_⟩
      have n0_ := Aside0.mk (blk_below (g := gb318) (o := .cells #[.int .i64 t323, .bool t324] 23 (0, 0)) (by (with_reducible repeat (first | refine blk_drewN ?_ _ | refine blk_drew ?_ | refine blk_alloc ?_ _)); exact BK318.out) hb)
      have n1_ := Aside0.mk (blk_below (g := gb319) (o := .cells #[.int .i64 t325, .bool t326] 23 (0, 0)) (by (with_reducible repeat (first | refine blk_drewN ?_ _ | refine blk_drew ?_ | refine blk_alloc ?_ _)); exact BK319.out) hb)
      have n2_ := Aside0.mk (blk_below (g := gb320) (o := .cells #[.int .i64 t327, .bool t328] 23 (0, 0)) (by (with_reducible repeat (first | refine blk_drewN ?_ _ | refine blk_drew ?_ | refine blk_alloc ?_ _)); exact BK320.out) hb)
      have n3_ := Aside0.mk (blk_below (g := gb321) (o := .cells #[.int .i64 t329, .bool t330] 23 (0, 0)) (by (with_reducible repeat (first | refine blk_drewN ?_ _ | refine blk_drew ?_ | refine blk_alloc ?_ _)); exact BK321.out) hb)
      have n4_ := Aside0.mk (blk_below (g := gb322) (o := .cells #[.int .i64 0, .bool false] 23 (0, 0)) (by (with_reducible repeat (first | refine blk_drewN ?_ _ | refine blk_drew ?_ | refine blk_alloc ?_ _)); exact BK322.out) hb)
      have n5_ := Aside0.mk (below_step (by repeat (first | (with_reducible first | exact HB.out | apply below_alloc | apply pw_below_drewN | apply below_drew1 | refine below_set ?_ GE318.out | refine below_set ?_ GE319.out | refine below_set ?_ GE320.out | refine below_set ?_ GE321.out | refine below_set ?_ GE322.out) | exact HB.out)) hb)
      have z_HO345 := fun (h0_ : b 16 = true) => (show Kd.R k23 23 w35 w.heap.size (fun k_ => k_ ≠ gb318 ∧ k_ ≠ gb319 ∧ k_ ≠ gb320 ∧ k_ ≠ gb321 ∧ k_ ≠ gb322) v344 y343 from by first | exact (Kd.R_below (by (with_reducible repeat (first | apply Kd.R_alloc | apply Kd.R_drewN | apply Kd.R_drew)); exact (Q_HO345 h0_)) hb) | exact Kd.R_mono (Kd.R_below (by (with_reducible repeat (first | apply Kd.R_alloc | apply Kd.R_drewN | apply Kd.R_drew)); exact (Q_HO345 h0_)) hb) (fun _ h_ => by first | trivial | exact h_ | exact h_.1))
      clear BK318
      clear BK319
      clear BK320
      clear BK321
      clear BK322
      clear HB
      have BK318 := n0_
      have BK319 := n1_
      have BK320 := n2_
      have BK321 := n3_
      have BK322 := n4_
      have HB := n5_
      clear n0_ n1_ n2_ n3_ n4_ n5_
      (try clear hb)
      (try clear hb2)
      (try clear hk)
      (try clear hi)
      refine hK.out _ _ ⟨v344, (by rw [ha.out]; exact putSel_upk 2 hb_ rfl rfl rfl), (by (with_reducible repeat (first | refine blk_drewN ?_ _ | refine blk_drew ?_ | refine blk_alloc ?_ _)); exact BK318.out), (by (with_reducible repeat (first | refine blk_drewN ?_ _ | refine blk_drew ?_ | refine blk_alloc ?_ _)); exact BK319.out), (by (with_reducible repeat (first | refine blk_drewN ?_ _ | refine blk_drew ?_ | refine blk_alloc ?_ _)); exact BK320.out), (by (with_reducible repeat (first | refine blk_drewN ?_ _ | refine blk_drew ?_ | refine blk_alloc ?_ _)); exact BK321.out), fun _ => (by (with_reducible repeat (first | refine blk_drewN ?_ _ | refine blk_drew ?_ | refine blk_alloc ?_ _)); exact BK322.out), (by repeat (first | (with_reducible first | exact HB.out | apply below_alloc | apply pw_below_drewN | apply below_drew1 | refine below_set ?_ GE318.out | refine below_set ?_ GE319.out | refine below_set ?_ GE320.out | refine below_set ?_ GE321.out | refine below_set ?_ GE322.out) | exact HB.out)), z_HO345, fun h0_ => absurd ((hoff 19 (by kernel_rfl)).symm.trans h0_) (by decide)⟩
    refine steps_cons ?_ ?_
    · rintro b a w' ⟨v344, ha, Q_BK318, Q_BK319, Q_BK320, Q_BK321, Q_BK322, Q_HB, Q_HO345, Q_BK322_e19⟩ hb_ hon hoff
      refine ⟨_, rfl, fun K hK => ?_⟩
      have e22 : a.tmps[22]? = some (.pointer (some ⟨gb320, 0, none⟩)) := by rw [ha]; exact (putSel_off rfl).trans rfl
      replace ha := Aside0.mk ha
      have BK318 := Aside0.mk Q_BK318
      have BK319 := Aside0.mk Q_BK319
      have BK320 := Aside0.mk Q_BK320
      have BK321 := Aside0.mk Q_BK321
      have BK322 := Aside0.mk (Q_BK322 (hoff 19 (by kernel_rfl)))
      have HB := Aside0.mk Q_HB
      have hc0_ : w'.cell? ⟨gb320, 0, none⟩ = some (.int .i64 t327) := (blk_cell BK320.out 0).trans rfl
      have hc1_ : w'.cell? ⟨gb320, 1, none⟩ = some (.bool t328) := (blk_cell BK320.out 1).trans rfl
      refine value_ (w1 := w') (v := .int .i64 t327) (by rfl) rfl ?_ ?_
      · go_simp
        (try simp only [i64_w])
        try rfl
      refine hK.out _ _ ⟨v344, (by rw [ha.out]; exact putSel_upk 3 hb_ rfl rfl rfl), Q_BK318, Q_BK319, Q_BK320, Q_BK321, Q_BK322, Q_HB, Q_HO345, fun h0_ => absurd ((hoff 19 (by kernel_rfl)).symm.trans h0_) (by decide)⟩
    refine steps_cons ?_ ?_
    · rintro b a w' ⟨v344, ha, Q_BK318, Q_BK319, Q_BK320, Q_BK321, Q_BK322, Q_HB, Q_HO345, Q_BK322_e19⟩ hb_ hon hoff
      refine ⟨_, rfl, fun K hK => ?_⟩
      have e24 : a.tmps[24]? = some (.pointer (some ⟨gb321, 0, none⟩)) := by rw [ha]; exact (putSel_off rfl).trans rfl
      replace ha := Aside0.mk ha
      have BK318 := Aside0.mk Q_BK318
      have BK319 := Aside0.mk Q_BK319
      have BK320 := Aside0.mk Q_BK320
      have BK321 := Aside0.mk Q_BK321
      have BK322 := Aside0.mk (Q_BK322 (hoff 19 (by kernel_rfl)))
      have HB := Aside0.mk Q_HB
      have hc0_ : w'.cell? ⟨gb321, 0, none⟩ = some (.int .i64 t329) := (blk_cell BK321.out 0).trans rfl
      have hc1_ : w'.cell? ⟨gb321, 1, none⟩ = some (.bool t330) := (blk_cell BK321.out 1).trans rfl
      refine value_ (w1 := w') (v := .int .i64 t329) (by rfl) rfl ?_ ?_
      · go_simp
        (try simp only [i64_w])
        try rfl
      refine hK.out _ _ ⟨v344, (by rw [ha.out]; exact putSel_upk 4 hb_ rfl rfl rfl), Q_BK318, Q_BK319, Q_BK320, Q_BK321, Q_BK322, Q_HB, Q_HO345, fun h0_ => absurd ((hoff 19 (by kernel_rfl)).symm.trans h0_) (by decide)⟩
    refine steps_cons ?_ ?_
    · rintro b a w' ⟨v344, ha, Q_BK318, Q_BK319, Q_BK320, Q_BK321, Q_BK322, Q_HB, Q_HO345, Q_BK322_e19⟩ hb_ hon hoff
      refine ⟨_, rfl, fun K hK => ?_⟩
      have e23 : a.tmps[23]? = some (.int .i64 t327) := by rw [ha]; exact putSel_on (e := (6, 23, .int .i64 t327)) 3 rfl rfl (hon 6 (by kernel_rfl)) rfl
      have e25 : a.tmps[25]? = some (.int .i64 t329) := by rw [ha]; exact putSel_on (e := (8, 25, .int .i64 t329)) 4 rfl rfl (hon 8 (by kernel_rfl)) rfl
      replace ha := Aside0.mk ha
      have BK318 := Aside0.mk Q_BK318
      have BK319 := Aside0.mk Q_BK319
      have BK320 := Aside0.mk Q_BK320
      have BK321 := Aside0.mk Q_BK321
      have BK322 := Aside0.mk (Q_BK322 (hoff 19 (by kernel_rfl)))
      have HB := Aside0.mk Q_HB
      refine goes_ Try.func74 (by kernel_rfl) rfl #[.int .i64 t327, .int .i64 t329] (by rfl) rfl rfl (by first | (simp only [List.map_toArray, List.map_cons, List.map_nil, Act.eval, Array.getD_eq_getD_getElem?, Option.getD_some, e23, e25]; done) | (simp only [List.map_toArray, List.map_cons, List.map_nil, Act.eval, Array.getD_eq_getD_getElem?, Option.getD_some, e23, e25]; rfl)) ?_
      with_reducible refine (fixed_product.calls t327 t329 t334 t335 t336 _ A10.out).mono ?_
      rintro e w37 ⟨rfl, hb⟩
      refine ⟨_, rfl, ?_⟩
      have n0_ := Aside0.mk (blk_below (g := gb318) (o := .cells #[.int .i64 t323, .bool t324] 23 (0, 0)) (by (with_reducible repeat (first | refine blk_drewN ?_ _ | refine blk_drew ?_ | refine blk_alloc ?_ _)); exact BK318.out) hb)
      have n1_ := Aside0.mk (blk_below (g := gb319) (o := .cells #[.int .i64 t325, .bool t326] 23 (0, 0)) (by (with_reducible repeat (first | refine blk_drewN ?_ _ | refine blk_drew ?_ | refine blk_alloc ?_ _)); exact BK319.out) hb)
      have n2_ := Aside0.mk (blk_below (g := gb320) (o := .cells #[.int .i64 t327, .bool t328] 23 (0, 0)) (by (with_reducible repeat (first | refine blk_drewN ?_ _ | refine blk_drew ?_ | refine blk_alloc ?_ _)); exact BK320.out) hb)
      have n3_ := Aside0.mk (blk_below (g := gb321) (o := .cells #[.int .i64 t329, .bool t330] 23 (0, 0)) (by (with_reducible repeat (first | refine blk_drewN ?_ _ | refine blk_drew ?_ | refine blk_alloc ?_ _)); exact BK321.out) hb)
      have n4_ := Aside0.mk (blk_below (g := gb322) (o := .cells #[.int .i64 0, .bool false] 23 (0, 0)) (by (with_reducible repeat (first | refine blk_drewN ?_ _ | refine blk_drew ?_ | refine blk_alloc ?_ _)); exact BK322.out) hb)
      have n5_ := Aside0.mk (below_step (by repeat (first | (with_reducible first | exact HB.out | apply below_alloc | apply pw_below_drewN | apply below_drew1 | refine below_set ?_ GE318.out | refine below_set ?_ GE319.out | refine below_set ?_ GE320.out | refine below_set ?_ GE321.out | refine below_set ?_ GE322.out) | exact HB.out)) hb)
      have z_HO345 := fun (h0_ : b 16 = true) => (show Kd.R k23 23 w37 w.heap.size (fun k_ => k_ ≠ gb318 ∧ k_ ≠ gb319 ∧ k_ ≠ gb320 ∧ k_ ≠ gb321 ∧ k_ ≠ gb322) v344 y343 from by first | exact (Kd.R_below (by (with_reducible repeat (first | apply Kd.R_alloc | apply Kd.R_drewN | apply Kd.R_drew)); exact (Q_HO345 h0_)) hb) | exact Kd.R_mono (Kd.R_below (by (with_reducible repeat (first | apply Kd.R_alloc | apply Kd.R_drewN | apply Kd.R_drew)); exact (Q_HO345 h0_)) hb) (fun _ h_ => by first | trivial | exact h_ | exact h_.1))
      clear BK318
      clear BK319
      clear BK320
      clear BK321
      clear BK322
      clear HB
      have BK318 := n0_
      have BK319 := n1_
      have BK320 := n2_
      have BK321 := n3_
      have BK322 := n4_
      have HB := n5_
      clear n0_ n1_ n2_ n3_ n4_ n5_
      (try clear hb)
      (try clear hb2)
      (try clear hk)
      (try clear hi)
      refine hK.out _ _ ⟨v344, (by rw [ha.out]; exact putSel_upk 5 hb_ rfl rfl rfl), (by (with_reducible repeat (first | refine blk_drewN ?_ _ | refine blk_drew ?_ | refine blk_alloc ?_ _)); exact BK318.out), (by (with_reducible repeat (first | refine blk_drewN ?_ _ | refine blk_drew ?_ | refine blk_alloc ?_ _)); exact BK319.out), (by (with_reducible repeat (first | refine blk_drewN ?_ _ | refine blk_drew ?_ | refine blk_alloc ?_ _)); exact BK320.out), (by (with_reducible repeat (first | refine blk_drewN ?_ _ | refine blk_drew ?_ | refine blk_alloc ?_ _)); exact BK321.out), fun _ => (by (with_reducible repeat (first | refine blk_drewN ?_ _ | refine blk_drew ?_ | refine blk_alloc ?_ _)); exact BK322.out), (by repeat (first | (with_reducible first | exact HB.out | apply below_alloc | apply pw_below_drewN | apply below_drew1 | refine below_set ?_ GE318.out | refine below_set ?_ GE319.out | refine below_set ?_ GE320.out | refine below_set ?_ GE321.out | refine below_set ?_ GE322.out) | exact HB.out)), z_HO345, fun h0_ => absurd ((hoff 19 (by kernel_rfl)).symm.trans h0_) (by decide)⟩
    refine steps_cons ?_ ?_
    · rintro b a w' ⟨v344, ha, Q_BK318, Q_BK319, Q_BK320, Q_BK321, Q_BK322, Q_HB, Q_HO345, Q_BK322_e19⟩ hb_ hon hoff
      refine ⟨_, rfl, fun K hK => ?_⟩
      have e21 : a.tmps[21]? = some (.agg #[.bool t331, .int .u64 t332, .int .u64 t333]) := by rw [ha]; exact putSel_on (e := (4, 21, .agg #[.bool t331, .int .u64 t332, .int .u64 t333])) 2 rfl rfl (hon 4 (by kernel_rfl)) rfl
      have e26 : a.tmps[26]? = some (.agg #[.bool t334, .int .u64 t335, .int .u64 t336]) := by rw [ha]; exact putSel_on (e := (9, 26, .agg #[.bool t334, .int .u64 t335, .int .u64 t336])) 5 rfl rfl (hon 9 (by kernel_rfl)) rfl
      replace ha := Aside0.mk ha
      have BK318 := Aside0.mk Q_BK318
      have BK319 := Aside0.mk Q_BK319
      have BK320 := Aside0.mk Q_BK320
      have BK321 := Aside0.mk Q_BK321
      have BK322 := Aside0.mk (Q_BK322 (hoff 19 (by kernel_rfl)))
      have HB := Aside0.mk Q_HB
      refine goes_ Try.func75 (by kernel_rfl) rfl #[.agg #[.bool t331, .int .u64 t332, .int .u64 t333], .agg #[.bool t334, .int .u64 t335, .int .u64 t336]] (by rfl) rfl rfl (by first | (simp only [List.map_toArray, List.map_cons, List.map_nil, Act.eval, Array.getD_eq_getD_getElem?, Option.getD_some, e21, e26]; done) | (simp only [List.map_toArray, List.map_cons, List.map_nil, Act.eval, Array.getD_eq_getD_getElem?, Option.getD_some, e21, e26]; rfl)) ?_
      with_reducible refine (fixed_exact_plus.calls k t331 t332 t333 t334 t335 t336 t337 t338 t339 _ A11.out).mono ?_
      rintro e w38 ⟨rfl, hb⟩
      refine ⟨_, rfl, ?_⟩
      have n0_ := Aside0.mk (blk_below (g := gb318) (o := .cells #[.int .i64 t323, .bool t324] 23 (0, 0)) (by (with_reducible repeat (first | refine blk_drewN ?_ _ | refine blk_drew ?_ | refine blk_alloc ?_ _)); exact BK318.out) hb)
      have n1_ := Aside0.mk (blk_below (g := gb319) (o := .cells #[.int .i64 t325, .bool t326] 23 (0, 0)) (by (with_reducible repeat (first | refine blk_drewN ?_ _ | refine blk_drew ?_ | refine blk_alloc ?_ _)); exact BK319.out) hb)
      have n2_ := Aside0.mk (blk_below (g := gb320) (o := .cells #[.int .i64 t327, .bool t328] 23 (0, 0)) (by (with_reducible repeat (first | refine blk_drewN ?_ _ | refine blk_drew ?_ | refine blk_alloc ?_ _)); exact BK320.out) hb)
      have n3_ := Aside0.mk (blk_below (g := gb321) (o := .cells #[.int .i64 t329, .bool t330] 23 (0, 0)) (by (with_reducible repeat (first | refine blk_drewN ?_ _ | refine blk_drew ?_ | refine blk_alloc ?_ _)); exact BK321.out) hb)
      have n4_ := Aside0.mk (blk_below (g := gb322) (o := .cells #[.int .i64 0, .bool false] 23 (0, 0)) (by (with_reducible repeat (first | refine blk_drewN ?_ _ | refine blk_drew ?_ | refine blk_alloc ?_ _)); exact BK322.out) hb)
      have n5_ := Aside0.mk (below_step (by repeat (first | (with_reducible first | exact HB.out | apply below_alloc | apply pw_below_drewN | apply below_drew1 | refine below_set ?_ GE318.out | refine below_set ?_ GE319.out | refine below_set ?_ GE320.out | refine below_set ?_ GE321.out | refine below_set ?_ GE322.out) | exact HB.out)) hb)
      have z_HO345 := fun (h0_ : b 16 = true) => (show Kd.R k23 23 w38 w.heap.size (fun k_ => k_ ≠ gb318 ∧ k_ ≠ gb319 ∧ k_ ≠ gb320 ∧ k_ ≠ gb321 ∧ k_ ≠ gb322) v344 y343 from by first | exact (Kd.R_below (by (with_reducible repeat (first | apply Kd.R_alloc | apply Kd.R_drewN | apply Kd.R_drew)); exact (Q_HO345 h0_)) hb) | exact Kd.R_mono (Kd.R_below (by (with_reducible repeat (first | apply Kd.R_alloc | apply Kd.R_drewN | apply Kd.R_drew)); exact (Q_HO345 h0_)) hb) (fun _ h_ => by first | trivial | exact h_ | exact h_.1))
      clear BK318
      clear BK319
      clear BK320
      clear BK321
      clear BK322
      clear HB
      have BK318 := n0_
      have BK319 := n1_
      have BK320 := n2_
      have BK321 := n3_
      have BK322 := n4_
      have HB := n5_
      clear n0_ n1_ n2_ n3_ n4_ n5_
      (try clear hb)
      (try clear hb2)
      (try clear hk)
      (try clear hi)
      refine hK.out _ _ ⟨v344, (by rw [ha.out]; exact putSel_upk 6 hb_ rfl rfl rfl), (by (with_reducible repeat (first | refine blk_drewN ?_ _ | refine blk_drew ?_ | refine blk_alloc ?_ _)); exact BK318.out), (by (with_reducible repeat (first | refine blk_drewN ?_ _ | refine blk_drew ?_ | refine blk_alloc ?_ _)); exact BK319.out), (by (with_reducible repeat (first | refine blk_drewN ?_ _ | refine blk_drew ?_ | refine blk_alloc ?_ _)); exact BK320.out), (by (with_reducible repeat (first | refine blk_drewN ?_ _ | refine blk_drew ?_ | refine blk_alloc ?_ _)); exact BK321.out), fun _ => (by (with_reducible repeat (first | refine blk_drewN ?_ _ | refine blk_drew ?_ | refine blk_alloc ?_ _)); exact BK322.out), (by repeat (first | (with_reducible first | exact HB.out | apply below_alloc | apply pw_below_drewN | apply below_drew1 | refine below_set ?_ GE318.out | refine below_set ?_ GE319.out | refine below_set ?_ GE320.out | refine below_set ?_ GE321.out | refine below_set ?_ GE322.out) | exact HB.out)), z_HO345, fun h0_ => absurd ((hoff 19 (by kernel_rfl)).symm.trans h0_) (by decide)⟩
    refine steps_cons ?_ ?_
    · rintro b a w' ⟨v344, ha, Q_BK318, Q_BK319, Q_BK320, Q_BK321, Q_BK322, Q_HB, Q_HO345, Q_BK322_e19⟩ hb_ hon hoff
      refine ⟨_, rfl, fun K hK => ?_⟩
      have e27 : a.tmps[27]? = some (.agg #[.bool t337, .int .u64 t338, .int .u64 t339]) := by rw [ha]; exact putSel_on (e := (10, 27, .agg #[.bool t337, .int .u64 t338, .int .u64 t339])) 6 rfl rfl (hon 10 (by kernel_rfl)) rfl
      replace ha := Aside0.mk ha
      have BK318 := Aside0.mk Q_BK318
      have BK319 := Aside0.mk Q_BK319
      have BK320 := Aside0.mk Q_BK320
      have BK321 := Aside0.mk Q_BK321
      have BK322 := Aside0.mk (Q_BK322 (hoff 19 (by kernel_rfl)))
      have HB := Aside0.mk Q_HB
      refine goes_ Try.func87 (by kernel_rfl) rfl #[.agg #[.bool t337, .int .u64 t338, .int .u64 t339]] (by rfl) rfl rfl (by first | (simp only [List.map_toArray, List.map_cons, List.map_nil, Act.eval, Array.getD_eq_getD_getElem?, Option.getD_some, e27]; done) | (simp only [List.map_toArray, List.map_cons, List.map_nil, Act.eval, Array.getD_eq_getD_getElem?, Option.getD_some, e27]; rfl)) ?_
      with_reducible refine (fixed_exact_down.calls t337 t338 t339 t340 t341 t342 _ A12.out).mono ?_
      rintro e w39 ⟨rfl, hb⟩
      refine ⟨_, rfl, ?_⟩
      have n0_ := Aside0.mk (blk_below (g := gb318) (o := .cells #[.int .i64 t323, .bool t324] 23 (0, 0)) (by (with_reducible repeat (first | refine blk_drewN ?_ _ | refine blk_drew ?_ | refine blk_alloc ?_ _)); exact BK318.out) hb)
      have n1_ := Aside0.mk (blk_below (g := gb319) (o := .cells #[.int .i64 t325, .bool t326] 23 (0, 0)) (by (with_reducible repeat (first | refine blk_drewN ?_ _ | refine blk_drew ?_ | refine blk_alloc ?_ _)); exact BK319.out) hb)
      have n2_ := Aside0.mk (blk_below (g := gb320) (o := .cells #[.int .i64 t327, .bool t328] 23 (0, 0)) (by (with_reducible repeat (first | refine blk_drewN ?_ _ | refine blk_drew ?_ | refine blk_alloc ?_ _)); exact BK320.out) hb)
      have n3_ := Aside0.mk (blk_below (g := gb321) (o := .cells #[.int .i64 t329, .bool t330] 23 (0, 0)) (by (with_reducible repeat (first | refine blk_drewN ?_ _ | refine blk_drew ?_ | refine blk_alloc ?_ _)); exact BK321.out) hb)
      have n4_ := Aside0.mk (blk_below (g := gb322) (o := .cells #[.int .i64 0, .bool false] 23 (0, 0)) (by (with_reducible repeat (first | refine blk_drewN ?_ _ | refine blk_drew ?_ | refine blk_alloc ?_ _)); exact BK322.out) hb)
      have n5_ := Aside0.mk (below_step (by repeat (first | (with_reducible first | exact HB.out | apply below_alloc | apply pw_below_drewN | apply below_drew1 | refine below_set ?_ GE318.out | refine below_set ?_ GE319.out | refine below_set ?_ GE320.out | refine below_set ?_ GE321.out | refine below_set ?_ GE322.out) | exact HB.out)) hb)
      have z_HO345 := fun (h0_ : b 16 = true) => (show Kd.R k23 23 w39 w.heap.size (fun k_ => k_ ≠ gb318 ∧ k_ ≠ gb319 ∧ k_ ≠ gb320 ∧ k_ ≠ gb321 ∧ k_ ≠ gb322) v344 y343 from by first | exact (Kd.R_below (by (with_reducible repeat (first | apply Kd.R_alloc | apply Kd.R_drewN | apply Kd.R_drew)); exact (Q_HO345 h0_)) hb) | exact Kd.R_mono (Kd.R_below (by (with_reducible repeat (first | apply Kd.R_alloc | apply Kd.R_drewN | apply Kd.R_drew)); exact (Q_HO345 h0_)) hb) (fun _ h_ => by first | trivial | exact h_ | exact h_.1))
      clear BK318
      clear BK319
      clear BK320
      clear BK321
      clear BK322
      clear HB
      have BK318 := n0_
      have BK319 := n1_
      have BK320 := n2_
      have BK321 := n3_
      have BK322 := n4_
      have HB := n5_
      clear n0_ n1_ n2_ n3_ n4_ n5_
      (try clear hb)
      (try clear hb2)
      (try clear hk)
      (try clear hi)
      refine hK.out _ _ ⟨v344, (by rw [ha.out]; exact putSel_upk 7 hb_ rfl rfl rfl), (by (with_reducible repeat (first | refine blk_drewN ?_ _ | refine blk_drew ?_ | refine blk_alloc ?_ _)); exact BK318.out), (by (with_reducible repeat (first | refine blk_drewN ?_ _ | refine blk_drew ?_ | refine blk_alloc ?_ _)); exact BK319.out), (by (with_reducible repeat (first | refine blk_drewN ?_ _ | refine blk_drew ?_ | refine blk_alloc ?_ _)); exact BK320.out), (by (with_reducible repeat (first | refine blk_drewN ?_ _ | refine blk_drew ?_ | refine blk_alloc ?_ _)); exact BK321.out), fun _ => (by (with_reducible repeat (first | refine blk_drewN ?_ _ | refine blk_drew ?_ | refine blk_alloc ?_ _)); exact BK322.out), (by repeat (first | (with_reducible first | exact HB.out | apply below_alloc | apply pw_below_drewN | apply below_drew1 | refine below_set ?_ GE318.out | refine below_set ?_ GE319.out | refine below_set ?_ GE320.out | refine below_set ?_ GE321.out | refine below_set ?_ GE322.out) | exact HB.out)), z_HO345, fun h0_ => absurd ((hoff 19 (by kernel_rfl)).symm.trans h0_) (by decide)⟩
    refine steps_cons ?_ ?_
    · rintro b a w' ⟨v344, ha, Q_BK318, Q_BK319, Q_BK320, Q_BK321, Q_BK322, Q_HB, Q_HO345, Q_BK322_e19⟩ hb_ hon hoff
      refine ⟨_, rfl, fun K hK => ?_⟩
      have e4 : a.tmps[4]? = some (.pointer (some ⟨gb318, 0, none⟩)) := by rw [ha]; exact (putSel_off rfl).trans rfl
      replace ha := Aside0.mk ha
      have BK318 := Aside0.mk Q_BK318
      have BK319 := Aside0.mk Q_BK319
      have BK320 := Aside0.mk Q_BK320
      have BK321 := Aside0.mk Q_BK321
      have BK322 := Aside0.mk (Q_BK322 (hoff 19 (by kernel_rfl)))
      have HB := Aside0.mk Q_HB
      have hc0_ : w'.cell? ⟨gb318, 0, none⟩ = some (.int .i64 t323) := (blk_cell BK318.out 0).trans rfl
      have hc1_ : w'.cell? ⟨gb318, 1, none⟩ = some (.bool t324) := (blk_cell BK318.out 1).trans rfl
      refine value_ (w1 := w') (v := .agg #[.int .i64 t323, .bool t324]) (by rfl) rfl ?_ ?_
      · go_simp
        (try simp only [i64_w])
        try rfl
      refine hK.out _ _ ⟨v344, (by rw [ha.out]; exact putSel_upk 8 hb_ rfl rfl rfl), Q_BK318, Q_BK319, Q_BK320, Q_BK321, Q_BK322, Q_HB, fun h0_ => absurd ((hoff 16 (by kernel_rfl)).symm.trans h0_) (by decide), fun h0_ => absurd ((hoff 19 (by kernel_rfl)).symm.trans h0_) (by decide)⟩
    refine steps_cons ?_ ?_
    · rintro b a w' ⟨v344, ha, Q_BK318, Q_BK319, Q_BK320, Q_BK321, Q_BK322, Q_HB, Q_HO345, Q_BK322_e19⟩ hb_ hon hoff
      refine ⟨_, rfl, fun K hK => ?_⟩
      have e5 : a.tmps[5]? = some (.pointer (some ⟨gb319, 0, none⟩)) := by rw [ha]; exact (putSel_off rfl).trans rfl
      replace ha := Aside0.mk ha
      have BK318 := Aside0.mk Q_BK318
      have BK319 := Aside0.mk Q_BK319
      have BK320 := Aside0.mk Q_BK320
      have BK321 := Aside0.mk Q_BK321
      have BK322 := Aside0.mk (Q_BK322 (hoff 19 (by kernel_rfl)))
      have HB := Aside0.mk Q_HB
      have hc0_ : w'.cell? ⟨gb319, 0, none⟩ = some (.int .i64 t325) := (blk_cell BK319.out 0).trans rfl
      have hc1_ : w'.cell? ⟨gb319, 1, none⟩ = some (.bool t326) := (blk_cell BK319.out 1).trans rfl
      refine value_ (w1 := w') (v := .agg #[.int .i64 t325, .bool t326]) (by rfl) rfl ?_ ?_
      · go_simp
        (try simp only [i64_w])
        try rfl
      refine hK.out _ _ ⟨v344, (by rw [ha.out]; exact putSel_upk 9 hb_ rfl rfl rfl), Q_BK318, Q_BK319, Q_BK320, Q_BK321, Q_BK322, Q_HB, fun h0_ => absurd ((hoff 16 (by kernel_rfl)).symm.trans h0_) (by decide), fun h0_ => absurd ((hoff 19 (by kernel_rfl)).symm.trans h0_) (by decide)⟩
    refine steps_cons ?_ ?_
    · rintro b a w' ⟨v344, ha, Q_BK318, Q_BK319, Q_BK320, Q_BK321, Q_BK322, Q_HB, Q_HO345, Q_BK322_e19⟩ hb_ hon hoff
      refine ⟨_, rfl, fun K hK => ?_⟩
      have e6 : a.tmps[6]? = some (.pointer (some ⟨gb320, 0, none⟩)) := by rw [ha]; exact (putSel_off rfl).trans rfl
      replace ha := Aside0.mk ha
      have BK318 := Aside0.mk Q_BK318
      have BK319 := Aside0.mk Q_BK319
      have BK320 := Aside0.mk Q_BK320
      have BK321 := Aside0.mk Q_BK321
      have BK322 := Aside0.mk (Q_BK322 (hoff 19 (by kernel_rfl)))
      have HB := Aside0.mk Q_HB
      have hc0_ : w'.cell? ⟨gb320, 0, none⟩ = some (.int .i64 t327) := (blk_cell BK320.out 0).trans rfl
      have hc1_ : w'.cell? ⟨gb320, 1, none⟩ = some (.bool t328) := (blk_cell BK320.out 1).trans rfl
      refine value_ (w1 := w') (v := .agg #[.int .i64 t327, .bool t328]) (by rfl) rfl ?_ ?_
      · go_simp
        (try simp only [i64_w])
        try rfl
      refine hK.out _ _ ⟨v344, (by rw [ha.out]; exact putSel_upk 10 hb_ rfl rfl rfl), Q_BK318, Q_BK319, Q_BK320, Q_BK321, Q_BK322, Q_HB, fun h0_ => absurd ((hoff 16 (by kernel_rfl)).symm.trans h0_) (by decide), fun h0_ => absurd ((hoff 19 (by kernel_rfl)).symm.trans h0_) (by decide)⟩
    refine steps_cons ?_ ?_
    · rintro b a w' ⟨v344, ha, Q_BK318, Q_BK319, Q_BK320, Q_BK321, Q_BK322, Q_HB, Q_HO345, Q_BK322_e19⟩ hb_ hon hoff
      refine ⟨_, rfl, fun K hK => ?_⟩
      have e7 : a.tmps[7]? = some (.pointer (some ⟨gb321, 0, none⟩)) := by rw [ha]; exact (putSel_off rfl).trans rfl
      replace ha := Aside0.mk ha
      have BK318 := Aside0.mk Q_BK318
      have BK319 := Aside0.mk Q_BK319
      have BK320 := Aside0.mk Q_BK320
      have BK321 := Aside0.mk Q_BK321
      have BK322 := Aside0.mk (Q_BK322 (hoff 19 (by kernel_rfl)))
      have HB := Aside0.mk Q_HB
      have hc0_ : w'.cell? ⟨gb321, 0, none⟩ = some (.int .i64 t329) := (blk_cell BK321.out 0).trans rfl
      have hc1_ : w'.cell? ⟨gb321, 1, none⟩ = some (.bool t330) := (blk_cell BK321.out 1).trans rfl
      refine value_ (w1 := w') (v := .agg #[.int .i64 t329, .bool t330]) (by rfl) rfl ?_ ?_
      · go_simp
        (try simp only [i64_w])
        try rfl
      refine hK.out _ _ ⟨v344, (by rw [ha.out]; exact putSel_upk 11 hb_ rfl rfl rfl), Q_BK318, Q_BK319, Q_BK320, Q_BK321, Q_BK322, Q_HB, fun h0_ => absurd ((hoff 16 (by kernel_rfl)).symm.trans h0_) (by decide), fun h0_ => absurd ((hoff 19 (by kernel_rfl)).symm.trans h0_) (by decide)⟩
    refine steps_cons ?_ ?_
    · rintro b a w' ⟨v344, ha, Q_BK318, Q_BK319, Q_BK320, Q_BK321, Q_BK322, Q_HB, Q_HO345, Q_BK322_e19⟩ hb_ hon hoff
      refine ⟨_, rfl, fun K hK => ?_⟩
      have e29 : a.tmps[29]? = some (.agg #[.int .i64 t323, .bool t324]) := by rw [ha]; exact putSel_on (e := (12, 29, .agg #[.int .i64 t323, .bool t324])) 8 rfl rfl (hon 12 (by kernel_rfl)) rfl
      have e30 : a.tmps[30]? = some (.agg #[.int .i64 t325, .bool t326]) := by rw [ha]; exact putSel_on (e := (13, 30, .agg #[.int .i64 t325, .bool t326])) 9 rfl rfl (hon 13 (by kernel_rfl)) rfl
      have e31 : a.tmps[31]? = some (.agg #[.int .i64 t327, .bool t328]) := by rw [ha]; exact putSel_on (e := (14, 31, .agg #[.int .i64 t327, .bool t328])) 10 rfl rfl (hon 14 (by kernel_rfl)) rfl
      have e32 : a.tmps[32]? = some (.agg #[.int .i64 t329, .bool t330]) := by rw [ha]; exact putSel_on (e := (15, 32, .agg #[.int .i64 t329, .bool t330])) 11 rfl rfl (hon 15 (by kernel_rfl)) rfl
      replace ha := Aside0.mk ha
      have BK318 := Aside0.mk Q_BK318
      have BK319 := Aside0.mk Q_BK319
      have BK320 := Aside0.mk Q_BK320
      have BK321 := Aside0.mk Q_BK321
      have BK322 := Aside0.mk (Q_BK322 (hoff 19 (by kernel_rfl)))
      have HB := Aside0.mk Q_HB
      refine Kd.R_lit_step k23 _ 23 ?hg (N := 33) ?hd (xs := ([(⟨t323, t324⟩ : S23), (⟨t325, t326⟩ : S23), (⟨t327, t328⟩ : S23), (⟨t329, t330⟩ : S23)] : List (S23))) (inner := [.int .i64 t323, .bool t324, .int .i64 t325, .bool t326, .int .i64 t327, .bool t328, .int .i64 t329, .bool t330]) (ok := fun _ => True) (okp := fun _ => True) ?hr ?hp (fun _ hk => hk) trivial (Below.refl _ _) (Nat.le_refl _) (by simp) ?_; (case hd => rfl); (case hg => rfl); (case hr => first | (go_simp; done) | (go_simp; rfl)); (case hp => exact (Reps.c2 (show Kd.M k23 _ _ _ (⟨t323, t324⟩ : S23) [.int .i64 t323, .bool t324] from (k23_mkM _ _ _ (⟨t323, t324⟩ : S23) )) (Reps.c2 (show Kd.M k23 _ _ _ (⟨t325, t326⟩ : S23) [.int .i64 t325, .bool t326] from (k23_mkM _ _ _ (⟨t325, t326⟩ : S23) )) (Reps.c2 (show Kd.M k23 _ _ _ (⟨t327, t328⟩ : S23) [.int .i64 t327, .bool t328] from (k23_mkM _ _ _ (⟨t327, t328⟩ : S23) )) (Reps.c2 (show Kd.M k23 _ _ _ (⟨t329, t330⟩ : S23) [.int .i64 t329, .bool t330] from (k23_mkM _ _ _ (⟨t329, t330⟩ : S23) )) (Reps.none _ _))))))
      intro v344 w35 ho36 hb hg_ hnew_
      clear hg_ hnew_
      (first | rw [← Ny343.out] at ho36 | (simp only [Int.reduceToNat] at ho36; rw [← Ny343.out] at ho36))
      have n0_ := Aside0.mk (Kd.R_lower (Kd.R_newB (Kd.R_newB (Kd.R_newB (Kd.R_newB (Kd.R_newB ho36 (g := gb318) (o := .cells #[.int .i64 t323, .bool t324] 23 (0, 0)) (by (with_reducible repeat (first | refine blk_drewN ?_ _ | refine blk_drew ?_ | refine blk_alloc ?_ _)); exact BK318.out)) (g := gb319) (o := .cells #[.int .i64 t325, .bool t326] 23 (0, 0)) (by (with_reducible repeat (first | refine blk_drewN ?_ _ | refine blk_drew ?_ | refine blk_alloc ?_ _)); exact BK319.out)) (g := gb320) (o := .cells #[.int .i64 t327, .bool t328] 23 (0, 0)) (by (with_reducible repeat (first | refine blk_drewN ?_ _ | refine blk_drew ?_ | refine blk_alloc ?_ _)); exact BK320.out)) (g := gb321) (o := .cells #[.int .i64 t329, .bool t330] 23 (0, 0)) (by (with_reducible repeat (first | refine blk_drewN ?_ _ | refine blk_drew ?_ | refine blk_alloc ?_ _)); exact BK321.out)) (g := gb322) (o := .cells #[.int .i64 0, .bool false] 23 (0, 0)) (by (with_reducible repeat (first | refine blk_drewN ?_ _ | refine blk_drew ?_ | refine blk_alloc ?_ _)); exact BK322.out)) (below_size (by repeat (first | (with_reducible first | exact HB.out | apply below_alloc | apply pw_below_drewN | apply below_drew1 | refine below_set ?_ GE318.out | refine below_set ?_ GE319.out | refine below_set ?_ GE320.out | refine below_set ?_ GE321.out | refine below_set ?_ GE322.out) | exact HB.out))))
      have n1_ := Aside0.mk (blk_below (g := gb318) (o := .cells #[.int .i64 t323, .bool t324] 23 (0, 0)) (by (with_reducible repeat (first | refine blk_drewN ?_ _ | refine blk_drew ?_ | refine blk_alloc ?_ _)); exact BK318.out) hb)
      have n2_ := Aside0.mk (blk_below (g := gb319) (o := .cells #[.int .i64 t325, .bool t326] 23 (0, 0)) (by (with_reducible repeat (first | refine blk_drewN ?_ _ | refine blk_drew ?_ | refine blk_alloc ?_ _)); exact BK319.out) hb)
      have n3_ := Aside0.mk (blk_below (g := gb320) (o := .cells #[.int .i64 t327, .bool t328] 23 (0, 0)) (by (with_reducible repeat (first | refine blk_drewN ?_ _ | refine blk_drew ?_ | refine blk_alloc ?_ _)); exact BK320.out) hb)
      have n4_ := Aside0.mk (blk_below (g := gb321) (o := .cells #[.int .i64 t329, .bool t330] 23 (0, 0)) (by (with_reducible repeat (first | refine blk_drewN ?_ _ | refine blk_drew ?_ | refine blk_alloc ?_ _)); exact BK321.out) hb)
      have n5_ := Aside0.mk (blk_below (g := gb322) (o := .cells #[.int .i64 0, .bool false] 23 (0, 0)) (by (with_reducible repeat (first | refine blk_drewN ?_ _ | refine blk_drew ?_ | refine blk_alloc ?_ _)); exact BK322.out) hb)
      have n6_ := Aside0.mk (below_step (by repeat (first | (with_reducible first | exact HB.out | apply below_alloc | apply pw_below_drewN | apply below_drew1 | refine below_set ?_ GE318.out | refine below_set ?_ GE319.out | refine below_set ?_ GE320.out | refine below_set ?_ GE321.out | refine below_set ?_ GE322.out) | exact HB.out)) hb)
      clear BK318
      clear BK319
      clear BK320
      clear BK321
      clear BK322
      clear HB
      have HO345 := n0_
      have BK318 := n1_
      have BK319 := n2_
      have BK320 := n3_
      have BK321 := n4_
      have BK322 := n5_
      have HB := n6_
      clear n0_ n1_ n2_ n3_ n4_ n5_ n6_
      clear hb ho36
      refine hK.out _ _ ⟨v344, (by rw [ha.out]; exact putSel_upk 12 hb_ rfl rfl rfl), (by (with_reducible repeat (first | refine blk_drewN ?_ _ | refine blk_drew ?_ | refine blk_alloc ?_ _)); exact BK318.out), (by (with_reducible repeat (first | refine blk_drewN ?_ _ | refine blk_drew ?_ | refine blk_alloc ?_ _)); exact BK319.out), (by (with_reducible repeat (first | refine blk_drewN ?_ _ | refine blk_drew ?_ | refine blk_alloc ?_ _)); exact BK320.out), (by (with_reducible repeat (first | refine blk_drewN ?_ _ | refine blk_drew ?_ | refine blk_alloc ?_ _)); exact BK321.out), fun _ => (by (with_reducible repeat (first | refine blk_drewN ?_ _ | refine blk_drew ?_ | refine blk_alloc ?_ _)); exact BK322.out), (by repeat (first | (with_reducible first | exact HB.out | apply below_alloc | apply pw_below_drewN | apply below_drew1 | refine below_set ?_ GE318.out | refine below_set ?_ GE319.out | refine below_set ?_ GE320.out | refine below_set ?_ GE321.out | refine below_set ?_ GE322.out) | exact HB.out)), fun _ => (by (with_reducible repeat (first | apply Kd.R_alloc | apply Kd.R_drewN | apply Kd.R_drew)); exact Kd.R_mono HO345.out (fun _ hk => ⟨hk.1.1.1.1.2, ⟨hk.1.1.1.2, ⟨hk.1.1.2, ⟨hk.1.2, hk.2⟩⟩⟩⟩)), fun h0_ => absurd ((hoff 19 (by kernel_rfl)).symm.trans h0_) (by decide)⟩
    refine steps_cons ?_ ?_
    · rintro b a w' ⟨v344, ha, Q_BK318, Q_BK319, Q_BK320, Q_BK321, Q_BK322, Q_HB, Q_HO345, Q_BK322_e19⟩ hb_ hon hoff
      refine ⟨_, rfl, fun K hK => ?_⟩
      have e33 : a.tmps[33]? = some (v344) := by rw [ha]; exact putSel_on (e := (16, 33, v344)) 12 rfl rfl (hon 16 (by kernel_rfl)) rfl
      replace ha := Aside0.mk ha
      have BK318 := Aside0.mk Q_BK318
      have BK319 := Aside0.mk Q_BK319
      have BK320 := Aside0.mk Q_BK320
      have BK321 := Aside0.mk Q_BK321
      have BK322 := Aside0.mk (Q_BK322 (hoff 19 (by kernel_rfl)))
      have HB := Aside0.mk Q_HB
      have HO345 := Aside0.mk (Q_HO345 (hon 16 (by kernel_rfl)))
      obtain ⟨Ao42, co42, eo42⟩ := Kd.R_slice HO345.out
      (first | subst eo42 | (injection eo42 with f1_ f2_ f3_; have f4_ := f1_.symm; have f5_ := f3_.symm; clear f1_ f2_ f3_; subst f4_; subst f5_))
      refine goes_ Try.func88 (by kernel_rfl) rfl #[.slice Ao42 y343.length co42] (by rfl) rfl rfl (by first | (simp only [List.map_toArray, List.map_cons, List.map_nil, Act.eval, Array.getD_eq_getD_getElem?, Option.getD_some, e33]; done) | (simp only [List.map_toArray, List.map_cons, List.map_nil, Act.eval, Array.getD_eq_getD_getElem?, Option.getD_some, e33]; rfl)) ?_
      with_reducible refine (fixed_flags.calls k _ _ y343 t346 _ ?side1 ?side2 A13.out).mono ?_
      (case side1 => repeat (first | exact (Kd.R_reads' HO345.out).2.2 | (with_reducible refine Kd.C_alloc ?_ _) | (with_reducible refine Kd.C_drewN ?_ _) | (with_reducible refine Kd.C_drew ?_)))
      (case side2 => exact (Kd.R_reads' HO345.out).2.1)
      rintro e w43 ⟨rfl, hb⟩
      refine ⟨_, rfl, ?_⟩
      have n0_ := Aside0.mk (Kd.R_below (by (with_reducible repeat (first | apply Kd.R_alloc | apply Kd.R_drewN | apply Kd.R_drew)); exact HO345.out) hb)
      have n1_ := Aside0.mk (blk_below (g := gb318) (o := .cells #[.int .i64 t323, .bool t324] 23 (0, 0)) (by (with_reducible repeat (first | refine blk_drewN ?_ _ | refine blk_drew ?_ | refine blk_alloc ?_ _)); exact BK318.out) hb)
      have n2_ := Aside0.mk (blk_below (g := gb319) (o := .cells #[.int .i64 t325, .bool t326] 23 (0, 0)) (by (with_reducible repeat (first | refine blk_drewN ?_ _ | refine blk_drew ?_ | refine blk_alloc ?_ _)); exact BK319.out) hb)
      have n3_ := Aside0.mk (blk_below (g := gb320) (o := .cells #[.int .i64 t327, .bool t328] 23 (0, 0)) (by (with_reducible repeat (first | refine blk_drewN ?_ _ | refine blk_drew ?_ | refine blk_alloc ?_ _)); exact BK320.out) hb)
      have n4_ := Aside0.mk (blk_below (g := gb321) (o := .cells #[.int .i64 t329, .bool t330] 23 (0, 0)) (by (with_reducible repeat (first | refine blk_drewN ?_ _ | refine blk_drew ?_ | refine blk_alloc ?_ _)); exact BK321.out) hb)
      have n5_ := Aside0.mk (blk_below (g := gb322) (o := .cells #[.int .i64 0, .bool false] 23 (0, 0)) (by (with_reducible repeat (first | refine blk_drewN ?_ _ | refine blk_drew ?_ | refine blk_alloc ?_ _)); exact BK322.out) hb)
      have n6_ := Aside0.mk (below_step (by repeat (first | (with_reducible first | exact HB.out | apply below_alloc | apply pw_below_drewN | apply below_drew1 | refine below_set ?_ GE318.out | refine below_set ?_ GE319.out | refine below_set ?_ GE320.out | refine below_set ?_ GE321.out | refine below_set ?_ GE322.out) | exact HB.out)) hb)
      clear HO345
      clear BK318
      clear BK319
      clear BK320
      clear BK321
      clear BK322
      clear HB
      have HO345 := n0_
      have BK318 := n1_
      have BK319 := n2_
      have BK320 := n3_
      have BK321 := n4_
      have BK322 := n5_
      have HB := n6_
      clear n0_ n1_ n2_ n3_ n4_ n5_ n6_
      (try clear hb)
      (try clear hb2)
      (try clear hk)
      (try clear hi)
      refine hK.out _ _ ⟨.slice Ao42 y343.length co42, (by rw [ha.out]; exact putSel_upk 13 hb_ rfl rfl rfl), (by (with_reducible repeat (first | refine blk_drewN ?_ _ | refine blk_drew ?_ | refine blk_alloc ?_ _)); exact BK318.out), (by (with_reducible repeat (first | refine blk_drewN ?_ _ | refine blk_drew ?_ | refine blk_alloc ?_ _)); exact BK319.out), (by (with_reducible repeat (first | refine blk_drewN ?_ _ | refine blk_drew ?_ | refine blk_alloc ?_ _)); exact BK320.out), (by (with_reducible repeat (first | refine blk_drewN ?_ _ | refine blk_drew ?_ | refine blk_alloc ?_ _)); exact BK321.out), fun _ => (by (with_reducible repeat (first | refine blk_drewN ?_ _ | refine blk_drew ?_ | refine blk_alloc ?_ _)); exact BK322.out), (by repeat (first | (with_reducible first | exact HB.out | apply below_alloc | apply pw_below_drewN | apply below_drew1 | refine below_set ?_ GE318.out | refine below_set ?_ GE319.out | refine below_set ?_ GE320.out | refine below_set ?_ GE321.out | refine below_set ?_ GE322.out) | exact HB.out)), fun _ => (by (with_reducible repeat (first | apply Kd.R_alloc | apply Kd.R_drewN | apply Kd.R_drew)); exact HO345.out), fun h0_ => absurd ((hoff 19 (by kernel_rfl)).symm.trans h0_) (by decide)⟩
    refine steps_cons ?_ ?_
    · rintro b a w' ⟨v344, ha, Q_BK318, Q_BK319, Q_BK320, Q_BK321, Q_BK322, Q_HB, Q_HO345, Q_BK322_e19⟩ hb_ hon hoff
      refine ⟨_, rfl, fun K hK => ?_⟩
      have e28 : a.tmps[28]? = some (.agg #[.bool t340, .int .u64 t341, .int .u64 t342]) := by rw [ha]; exact putSel_on (e := (11, 28, .agg #[.bool t340, .int .u64 t341, .int .u64 t342])) 7 rfl rfl (hon 11 (by kernel_rfl)) rfl
      have e34 : a.tmps[34]? = some (.bool t346) := by rw [ha]; exact putSel_on (e := (17, 34, .bool t346)) 13 rfl rfl (hon 17 (by kernel_rfl)) rfl
      replace ha := Aside0.mk ha
      have BK318 := Aside0.mk Q_BK318
      have BK319 := Aside0.mk Q_BK319
      have BK320 := Aside0.mk Q_BK320
      have BK321 := Aside0.mk Q_BK321
      have BK322 := Aside0.mk (Q_BK322 (hoff 19 (by kernel_rfl)))
      have HB := Aside0.mk Q_HB
      have HO345 := Aside0.mk (Q_HO345 (hon 16 (by kernel_rfl)))
      refine goes_ Try.func83 (by kernel_rfl) rfl #[.agg #[.bool t340, .int .u64 t341, .int .u64 t342], .bool t346] (by rfl) rfl rfl (by first | (simp only [List.map_toArray, List.map_cons, List.map_nil, Act.eval, Array.getD_eq_getD_getElem?, Option.getD_some, e28, e34]; done) | (simp only [List.map_toArray, List.map_cons, List.map_nil, Act.eval, Array.getD_eq_getD_getElem?, Option.getD_some, e28, e34]; rfl)) ?_
      with_reducible refine (fixed_exact_fit.calls k t340 t341 t342 t346 t347 t348 _ A14.out).mono ?_
      rintro e w44 ⟨rfl, hb⟩
      refine ⟨_, rfl, ?_⟩
      have n0_ := Aside0.mk (Kd.R_below (by (with_reducible repeat (first | apply Kd.R_alloc | apply Kd.R_drewN | apply Kd.R_drew)); exact HO345.out) hb)
      have n1_ := Aside0.mk (blk_below (g := gb318) (o := .cells #[.int .i64 t323, .bool t324] 23 (0, 0)) (by (with_reducible repeat (first | refine blk_drewN ?_ _ | refine blk_drew ?_ | refine blk_alloc ?_ _)); exact BK318.out) hb)
      have n2_ := Aside0.mk (blk_below (g := gb319) (o := .cells #[.int .i64 t325, .bool t326] 23 (0, 0)) (by (with_reducible repeat (first | refine blk_drewN ?_ _ | refine blk_drew ?_ | refine blk_alloc ?_ _)); exact BK319.out) hb)
      have n3_ := Aside0.mk (blk_below (g := gb320) (o := .cells #[.int .i64 t327, .bool t328] 23 (0, 0)) (by (with_reducible repeat (first | refine blk_drewN ?_ _ | refine blk_drew ?_ | refine blk_alloc ?_ _)); exact BK320.out) hb)
      have n4_ := Aside0.mk (blk_below (g := gb321) (o := .cells #[.int .i64 t329, .bool t330] 23 (0, 0)) (by (with_reducible repeat (first | refine blk_drewN ?_ _ | refine blk_drew ?_ | refine blk_alloc ?_ _)); exact BK321.out) hb)
      have n5_ := Aside0.mk (blk_below (g := gb322) (o := .cells #[.int .i64 0, .bool false] 23 (0, 0)) (by (with_reducible repeat (first | refine blk_drewN ?_ _ | refine blk_drew ?_ | refine blk_alloc ?_ _)); exact BK322.out) hb)
      have n6_ := Aside0.mk (below_step (by repeat (first | (with_reducible first | exact HB.out | apply below_alloc | apply pw_below_drewN | apply below_drew1 | refine below_set ?_ GE318.out | refine below_set ?_ GE319.out | refine below_set ?_ GE320.out | refine below_set ?_ GE321.out | refine below_set ?_ GE322.out) | exact HB.out)) hb)
      clear HO345
      clear BK318
      clear BK319
      clear BK320
      clear BK321
      clear BK322
      clear HB
      have HO345 := n0_
      have BK318 := n1_
      have BK319 := n2_
      have BK320 := n3_
      have BK321 := n4_
      have BK322 := n5_
      have HB := n6_
      clear n0_ n1_ n2_ n3_ n4_ n5_ n6_
      (try clear hb)
      (try clear hb2)
      (try clear hk)
      (try clear hi)
      refine hK.out _ _ ⟨v344, (by rw [ha.out]; exact putSel_upk 14 hb_ rfl rfl rfl), (by (with_reducible repeat (first | refine blk_drewN ?_ _ | refine blk_drew ?_ | refine blk_alloc ?_ _)); exact BK318.out), (by (with_reducible repeat (first | refine blk_drewN ?_ _ | refine blk_drew ?_ | refine blk_alloc ?_ _)); exact BK319.out), (by (with_reducible repeat (first | refine blk_drewN ?_ _ | refine blk_drew ?_ | refine blk_alloc ?_ _)); exact BK320.out), (by (with_reducible repeat (first | refine blk_drewN ?_ _ | refine blk_drew ?_ | refine blk_alloc ?_ _)); exact BK321.out), fun _ => (by (with_reducible repeat (first | refine blk_drewN ?_ _ | refine blk_drew ?_ | refine blk_alloc ?_ _)); exact BK322.out), (by repeat (first | (with_reducible first | exact HB.out | apply below_alloc | apply pw_below_drewN | apply below_drew1 | refine below_set ?_ GE318.out | refine below_set ?_ GE319.out | refine below_set ?_ GE320.out | refine below_set ?_ GE321.out | refine below_set ?_ GE322.out) | exact HB.out)), fun _ => (by (with_reducible repeat (first | apply Kd.R_alloc | apply Kd.R_drewN | apply Kd.R_drew)); exact HO345.out), fun h0_ => absurd ((hoff 19 (by kernel_rfl)).symm.trans h0_) (by decide)⟩
    refine steps_cons ?_ ?_
    · rintro b a w' ⟨v344, ha, Q_BK318, Q_BK319, Q_BK320, Q_BK321, Q_BK322, Q_HB, Q_HO345, Q_BK322_e19⟩ hb_ hon hoff
      refine ⟨_, rfl, fun K hK => ?_⟩
      have e8 : a.tmps[8]? = some (.pointer (some ⟨gb322, 0, none⟩)) := by rw [ha]; exact (putSel_off rfl).trans rfl
      have e35 : a.tmps[35]? = some (.agg #[.int .i64 t347, .bool t348]) := by rw [ha]; exact putSel_on (e := (18, 35, .agg #[.int .i64 t347, .bool t348])) 14 rfl rfl (hon 18 (by kernel_rfl)) rfl
      replace ha := Aside0.mk ha
      have BK318 := Aside0.mk Q_BK318
      have BK319 := Aside0.mk Q_BK319
      have BK320 := Aside0.mk Q_BK320
      have BK321 := Aside0.mk Q_BK321
      have BK322 := Aside0.mk (Q_BK322 hb_)
      have HB := Aside0.mk Q_HB
      have HO345 := Aside0.mk (Q_HO345 (hon 16 (by kernel_rfl)))
      have hs45 : w'.cell? ⟨gb322, 0, none⟩ = some (.int .i64 0) := (blk_cell BK322.out 0).trans rfl
      have hfs45 := blk_frozen BK322.out 0
      have hns45_0 := NB318_322.out
      have hns45_1 := NB319_322.out
      have hns45_2 := NB320_322.out
      have hns45_3 := NB321_322.out
      have hms45_0 := NB322_318.out
      have hms45_1 := NB322_319.out
      have hms45_2 := NB322_320.out
      have hms45_3 := NB322_321.out
      have hs46 : w'.cell? ⟨gb322, 1, none⟩ = some (.bool false) := (blk_cell BK322.out 1).trans rfl
      have hfs46 := blk_frozen BK322.out 1
      have hns46_0 := NB318_322.out
      have hns46_1 := NB319_322.out
      have hns46_2 := NB320_322.out
      have hns46_3 := NB321_322.out
      have hms46_0 := NB322_318.out
      have hms46_1 := NB322_319.out
      have hms46_2 := NB322_320.out
      have hms46_3 := NB322_321.out
      refine skip_ (w1 := ?_) (by rfl) rfl ?_ ?_
      rotate_left
      · go_simp
        rfl
      refine hK.out _ _ ⟨v344, (by rw [ha.out]; exact putSel_none (v := undef) rfl), (by (with_reducible repeat (first | refine blk_drewN ?_ _ | refine blk_drew ?_ | refine blk_alloc ?_ _)); refine blk_far ?_ NB318_322.out _; (with_reducible repeat (first | refine blk_drewN ?_ _ | refine blk_drew ?_ | refine blk_alloc ?_ _)); refine blk_far ?_ NB318_322.out _; (with_reducible repeat (first | refine blk_drewN ?_ _ | refine blk_drew ?_ | refine blk_alloc ?_ _)); exact BK318.out), (by (with_reducible repeat (first | refine blk_drewN ?_ _ | refine blk_drew ?_ | refine blk_alloc ?_ _)); refine blk_far ?_ NB319_322.out _; (with_reducible repeat (first | refine blk_drewN ?_ _ | refine blk_drew ?_ | refine blk_alloc ?_ _)); refine blk_far ?_ NB319_322.out _; (with_reducible repeat (first | refine blk_drewN ?_ _ | refine blk_drew ?_ | refine blk_alloc ?_ _)); exact BK319.out), (by (with_reducible repeat (first | refine blk_drewN ?_ _ | refine blk_drew ?_ | refine blk_alloc ?_ _)); refine blk_far ?_ NB320_322.out _; (with_reducible repeat (first | refine blk_drewN ?_ _ | refine blk_drew ?_ | refine blk_alloc ?_ _)); refine blk_far ?_ NB320_322.out _; (with_reducible repeat (first | refine blk_drewN ?_ _ | refine blk_drew ?_ | refine blk_alloc ?_ _)); exact BK320.out), (by (with_reducible repeat (first | refine blk_drewN ?_ _ | refine blk_drew ?_ | refine blk_alloc ?_ _)); refine blk_far ?_ NB321_322.out _; (with_reducible repeat (first | refine blk_drewN ?_ _ | refine blk_drew ?_ | refine blk_alloc ?_ _)); refine blk_far ?_ NB321_322.out _; (with_reducible repeat (first | refine blk_drewN ?_ _ | refine blk_drew ?_ | refine blk_alloc ?_ _)); exact BK321.out), fun h0_ => absurd ((up_self b 19).symm.trans h0_) (by decide), (by repeat (first | (with_reducible first | exact HB.out | apply below_alloc | apply pw_below_drewN | apply below_drew1 | refine below_set ?_ GE318.out | refine below_set ?_ GE319.out | refine below_set ?_ GE320.out | refine below_set ?_ GE321.out | refine below_set ?_ GE322.out) | exact HB.out)), fun _ => (by (with_reducible repeat (first | apply Kd.R_alloc | apply Kd.R_drewN | apply Kd.R_drew)); exact Kd.R_mono (Kd.R_far (p := ⟨gb322, 1, none⟩) (Kd.R_far (p := ⟨gb322, 0, none⟩) (Kd.R_mono HO345.out (fun k_ hk => (⟨hk, hk.2.2.2.2⟩ : _ ∧ k_ ≠ gb322))) (fun _ hk => hk.2) (.int .i64 t347)) (fun _ hk => hk.2) (.bool t348)) (fun _ hk => ⟨hk.1.1, ⟨hk.1.2.1, ⟨hk.1.2.2.1, ⟨hk.1.2.2.2.1, hk.1.2.2.2.2⟩⟩⟩⟩)), fun _ => (by (with_reducible repeat (first | refine blk_drewN ?_ _ | refine blk_drew ?_ | refine blk_alloc ?_ _)); refine blk_put (cs := #[.int .i64 t347, .bool false]) ?_ 1 _ rfl; (with_reducible repeat (first | refine blk_drewN ?_ _ | refine blk_drew ?_ | refine blk_alloc ?_ _)); refine blk_put (cs := #[.int .i64 0, .bool false]) ?_ 0 _ rfl; (with_reducible repeat (first | refine blk_drewN ?_ _ | refine blk_drew ?_ | refine blk_alloc ?_ _)); exact BK322.out)⟩
    exact steps_nil
  rintro b a w46 hall ⟨v344, ha, Q_BK318, Q_BK319, Q_BK320, Q_BK321, Q_BK322, Q_HB, Q_HO345, Q_BK322_e19⟩
  clear BK318 BK319 BK320 BK321 BK322 HB
  have hb1_ := hall 1 (by kernel_rfl)
  have hb3_ := hall 3 (by kernel_rfl)
  have hb4_ := hall 4 (by kernel_rfl)
  have hb6_ := hall 6 (by kernel_rfl)
  have hb8_ := hall 8 (by kernel_rfl)
  have hb9_ := hall 9 (by kernel_rfl)
  have hb10_ := hall 10 (by kernel_rfl)
  have hb11_ := hall 11 (by kernel_rfl)
  have hb12_ := hall 12 (by kernel_rfl)
  have hb13_ := hall 13 (by kernel_rfl)
  have hb14_ := hall 14 (by kernel_rfl)
  have hb15_ := hall 15 (by kernel_rfl)
  have hb16_ := hall 16 (by kernel_rfl)
  have hb17_ := hall 17 (by kernel_rfl)
  have hb18_ := hall 18 (by kernel_rfl)
  have hb19_ := hall 19 (by kernel_rfl)
  subst ha
  simp only [putSel, hb1_, hb3_, hb4_, hb6_, hb8_, hb9_, hb10_, hb11_, hb12_, hb13_, hb14_, hb15_, hb16_, hb17_, hb18_, hb19_, if_true, Act.put, List.setIfInBounds_toArray, List.set_cons_zero, List.set_cons_succ]
  have BK318 := Aside0.mk Q_BK318
  clear Q_BK318
  have BK319 := Aside0.mk Q_BK319
  clear Q_BK319
  have BK320 := Aside0.mk Q_BK320
  clear Q_BK320
  have BK321 := Aside0.mk Q_BK321
  clear Q_BK321
  clear Q_BK322
  have HB := Aside0.mk Q_HB
  clear Q_HB
  have HO345 := Aside0.mk (Q_HO345 hb16_)
  clear Q_HO345
  have BK322 := Aside0.mk (Q_BK322_e19 hb19_)
  clear Q_BK322_e19
  clear hall hb1_ hb3_ hb4_ hb6_ hb8_ hb9_ hb10_ hb11_ hb12_ hb13_ hb14_ hb15_ hb16_ hb17_ hb18_ hb19_
  try go_wp2
  refine bodyPost_ret (results_cell_row rfl _ _ gb322 23 #[.int .i64 t347, .bool t348] (0, 0) _ rfl (by (with_reducible repeat (first | refine blk_drewN ?_ _ | refine blk_drew ?_ | refine blk_alloc ?_ _)); exact BK322.out) Try.underlying23 rfl (by kernel_rfl)) rfl ?_
  exact ⟨by first | rfl | (simp [errW_none, errW_some] <;> rfl) | (simp [*, errW_none, errW_some] <;> rfl), by repeat (first | (with_reducible first | exact HB.out | apply below_alloc | apply pw_below_drewN | apply below_drew1 | refine below_set ?_ GE318.out | refine below_set ?_ GE319.out | refine below_set ?_ GE320.out | refine below_set ?_ GE321.out | refine below_set ?_ GE322.out) | exact HB.out)⟩
end Go.Proofs.Ytenpiaafkmfjfaa.B

end
section
namespace Go.Proofs.Ytenpiaafkmfjfaa.B
open Go.RowKit Go.Proofs.YtenpiaafkmfjfaaW.PrintWords Go.Proofs.YtenpiaafkmfjfaaW.PrintLast Go.Proofs.YtenpiaafkmfjfaaW.PrintMore
theorem or63 (a c : Nat) (ha : a < 9223372036854775808) (hc : c ≤ 1) : bits .or .u64 (a : Int) (IntKind.u64.wrap ((c : Int) * 9223372036854775808)) = ((a + c * 9223372036854775808 : Nat) : Int) := by
  rw [u64_id (x := (c : Int) * 9223372036854775808) (by omega) (by omega), show (c : Int) * 9223372036854775808 = ((c * 9223372036854775808 : Nat) : Int) by omega, bits_or_u64_nat _ _ (by omega) (by omega), Nat.or_comm]
  have := Nat.two_pow_add_eq_or_of_lt (i := 63) (b := a) (by simpa using ha) c
  rw [show c * 9223372036854775808 = 2 ^ 63 * c by rw [Nat.mul_comm], ← this]
  congr 1; omega
theorem newton (n x r : Nat) (hx : 0 < x) (hr : r * r ≤ n) : r ≤ (x + n / x) / 2 := by
  rcases Nat.lt_or_ge ((x + n / x) / 2) r with h | h
  · exfalso
    have h1 : x + n / x + 1 ≤ 2 * r := by omega
    have h2 : n < x * (n / x + 1) := by
      have := Nat.div_add_mod n x
      have := Nat.mod_lt n hx
      rw [Nat.mul_add]; omega
    have h3 : x * (n / x + 1) ≤ x * (2 * r - x) := Nat.mul_le_mul_left x (by omega)
    have hxr : x ≤ 2 * r := by generalize n / x = t at *; omega
    clear h h1
    have h4 : x * (2 * r - x) ≤ r * r := by
      rcases Nat.le_total x r with hl | hl
      · obtain ⟨d, rfl⟩ := Nat.exists_eq_add_of_le hl
        rw [show 2 * (x + d) - x = x + 2 * d by omega, Nat.mul_add, Nat.add_mul, Nat.mul_add, Nat.mul_add, Nat.mul_comm d x, Nat.mul_left_comm x 2 d]
        omega
      · obtain ⟨d, rfl⟩ := Nat.exists_eq_add_of_le hl
        have hd : d ≤ r := by omega
        rw [show 2 * r - (r + d) = r - d by omega, Nat.add_mul, Nat.mul_sub, Nat.mul_sub, Nat.mul_comm d r]
        have : r * d ≤ r * r := Nat.mul_le_mul_left r hd
        omega
    omega
  · exact h
theorem root_loop (lo hi : Nat) (hl : lo < 18446744073709551616) (hh : hi < 18446744073709551616) (hn : 0 < hi * 18446744073709551616 + lo) : ∀ (x k : Nat), 0 < x → x < 18446744073709551616 → x + 15 ≤ k → isq (hi * 18446744073709551616 + lo) ≤ x →
    fixed_words_root.l0 k (x : Int) (lo : Int) (hi : Int) = some ((isq (hi * 18446744073709551616 + lo) : Nat) : Int) := by
  have hN : hi * 18446744073709551616 + lo < 340282366920938463463374607431768211456 := by omega
  obtain ⟨i1, i2⟩ := isq_spec _ hN
  intro x
  induction x using Nat.strongRecOn with
  | _ x ih =>
    intro k hx hx2 hk hr
    obtain ⟨k, rfl⟩ : ∃ z, k = z + 1 := ⟨k - 1, by omega⟩
    have done : x * x ≤ hi * 18446744073709551616 + lo → x = isq (hi * 18446744073709551616 + lo) := by
      intro h
      rcases Nat.lt_or_ge (isq (hi * 18446744073709551616 + lo)) x with hlt | hge
      · have := sq_lt hlt; omega
      · omega
    rw [fixed_words_root.l0]
    by_cases h1 : x ≤ hi
    · rw [if_pos (by omega)]
      have h3 : x * x ≤ hi * 18446744073709551616 := Nat.mul_le_mul h1 (Nat.le_of_lt hx2)
      have hd := done (Nat.le_trans h3 (Nat.le_add_right _ _))
      rw [← hd]
    · rw [if_neg (by omega)]
      obtain ⟨r, e⟩ := div64_f k (by omega) hi lo x (by omega) hl hx2
      rw [e, Option.bind_some]
      dsimp only
      have hq : (hi * 18446744073709551616 + lo) / x < 18446744073709551616 := two_lt hi x lo (by omega) hl
      have hnw := newton (hi * 18446744073709551616 + lo) x (isq (hi * 18446744073709551616 + lo)) hx i1
      by_cases h2 : x ≤ (hi * 18446744073709551616 + lo) / x
      · rw [if_pos (by omega)]
        have : x * x ≤ hi * 18446744073709551616 + lo := by
          rw [Nat.le_div_iff_mul_le hx] at h2; exact h2
        rw [← done this]
      · rw [if_neg (by omega)]
        have hpos : 0 < isq (hi * 18446744073709551616 + lo) := by
          rcases Nat.eq_zero_or_pos (isq (hi * 18446744073709551616 + lo)) with h0 | hp
          · rw [h0] at i2; omega
          · exact hp
        generalize (hi * 18446744073709551616 + lo) / x = q at *
        have e1 : add64s (x : Int) (q : Int) 0 / 2 = (((x + q) % 18446744073709551616 / 2 : Nat) : Int) := by rw [add64s_i (by omega) (by omega) (by omega)]; omega
        have e2 : add64c (x : Int) (q : Int) 0 = (((x + q) / 18446744073709551616 : Nat) : Int) := by rw [add64c_i (by omega) (by omega) (by omega)]; omega
        rw [e1, e2, or63 _ _ (by omega) (by omega), show (x + q) % 18446744073709551616 / 2 + (x + q) / 18446744073709551616 * 9223372036854775808 = (x + q) / 2 by omega]
        exact ih ((x + q) / 2) (by omega) k (by omega) (by omega) (by omega) hnw
theorem isq_lt (n : Nat) (h : n < 340282366920938463463374607431768211456) : isq n < 18446744073709551616 := by
  obtain ⟨h1, _⟩ := isq_spec n h
  rcases Nat.lt_or_ge (isq n) 18446744073709551616 with hl | hg
  · exact hl
  · have := Nat.mul_le_mul hg hg; omega
theorem isq_le_pow (n s : Nat) (h : n < 340282366920938463463374607431768211456) (hn : n < 2 ^ s * 2 ^ s) : isq n ≤ 2 ^ s := by
  obtain ⟨h1, _⟩ := isq_spec n h
  rcases Nat.lt_or_ge (2 ^ s) (isq n) with hl | hg
  · have := Nat.mul_le_mul (Nat.le_of_lt hl) (Nat.le_of_lt hl); omega
  · exact hg
theorem len_f (x : Nat) (h : x < 18446744073709551616) : bits_Len64.f (x : Int) = some ((Lib.bitLen x : Nat) : Int) := by
  unfold bits_Len64.f
  rw [if_pos (by omega), if_pos (by omega), Int.toNat_natCast]
theorem blen_le (x : Nat) (h : x < 18446744073709551616) : Lib.bitLen x ≤ 64 := Lib.bitLen_le x 64 (by decide) h
theorem root_j1 (k : Nat) (hk : 18446744073709551650 ≤ k) (L lo hi : Nat) (hl : lo < 18446744073709551616) (hh : hi < 18446744073709551616) (hn : 0 < hi * 18446744073709551616 + lo) (hL : L ≤ 128) (hlt : hi * 18446744073709551616 + lo < 2 ^ L) :
    fixed_words_root.j1 k (L : Int) (lo : Int) (hi : Int) = some ((isq (hi * 18446744073709551616 + lo) : Nat) : Int) := by
  obtain ⟨k, rfl⟩ : ∃ z, k = z + 2 := ⟨k - 2, by omega⟩
  have e : wrap64 (Int.tdiv (wrap64 ((L : Int) + 1)) 2) = (((L + 1) / 2 : Nat) : Int) := by
    rw [wrap64_id (x := (L : Int) + 1) (by omega) (by omega), Int.tdiv_eq_ediv_of_nonneg (by omega), wrap64_id (by omega) (by omega)]; omega
  have hN : hi * 18446744073709551616 + lo < 340282366920938463463374607431768211456 := by omega
  rw [fixed_words_root.j1, e]
  by_cases h : (L + 1) / 2 < 64
  · have hp : 1 * 2 ^ ((L + 1) / 2) < 18446744073709551616 := by
      rw [Nat.one_mul]
      exact Nat.pow_lt_pow_right (a := 2) (by decide) (show (L + 1) / 2 < 64 from h)
    have h1 := shl_nat 1 ((L + 1) / 2) (by omega) hp
    rw [show ((1 : Nat) : Int) = 1 from rfl, Nat.one_mul] at h1
    rw [if_pos (by omega), if_pos (by omega), h1, fixed_words_root.j2]
    rw [Nat.one_mul] at hp
    refine root_loop lo hi hl hh hn _ k (Nat.two_pow_pos _) hp (by omega) (isq_le_pow _ _ hN ?_)
    rw [← Nat.pow_add]
    exact Nat.lt_of_lt_of_le hlt (Nat.pow_le_pow_right (by decide) (by omega))
  · rw [if_neg (by omega), fixed_words_root.j2]
    have := isq_lt _ hN
    exact root_loop lo hi hl hh hn 18446744073709551615 k (by omega) (by omega) (by omega) (by omega)
theorem root_f (k : Nat) (hk : 18446744073709551660 ≤ k) (lo hi : Nat) (hl : lo < 18446744073709551616) (hh : hi < 18446744073709551616) :
    fixed_words_root.f k (lo : Int) (hi : Int) = some ((isq (hi * 18446744073709551616 + lo) : Nat) : Int) := by
  obtain ⟨k, rfl⟩ : ∃ z, k = z + 1 := ⟨k - 1, by omega⟩
  unfold fixed_words_root.f
  by_cases h0 : hi = 0
  · subst h0
    rw [if_pos (show ((0 : Nat) : Int) = 0 from rfl), fixed_words_root.j0]
    by_cases h1 : lo = 0
    · subst h1
      rw [if_pos (show (((0 : Nat) : Int) == 0) = true from rfl)]
      have : isq (0 * 18446744073709551616 + 0) = 0 := isq_unique _ 0 (by omega) (by omega) (by omega)
      rw [this]; rfl
    · rw [if_neg (by simp; omega), len_f lo hl, Option.bind_some, if_pos (show ((0 : Nat) : Int) = 0 from rfl)]
      obtain ⟨b1, _⟩ := blen lo hl
      have := blen_le lo hl
      exact root_j1 k (by omega) _ lo 0 hl hh (by omega) (by omega) (by omega)
  · rw [if_neg (by omega), fixed_words_root.j0, if_neg (by decide), len_f lo hl, Option.bind_some, if_neg (by omega), len_f hi hh, Option.bind_some]
    obtain ⟨b1, _⟩ := blen hi hh
    have hb := blen_le hi hh
    rw [wrap64_id (by omega) (by omega), show (64 : Int) + ((Lib.bitLen hi : Nat) : Int) = ((64 + Lib.bitLen hi : Nat) : Int) by omega]
    refine root_j1 k (by omega) _ lo hi hl hh (by omega) (by omega) ?_
    rw [Nat.pow_add]
    omega
end Go.Proofs.Ytenpiaafkmfjfaa.B

end
section
namespace Go.Proofs.Ytenpiaafkmfjfaa.B
open Go.RowKit Go.Proofs.YtenpiaafkmfjfaaW.PrintWords Go.Proofs.YtenpiaafkmfjfaaW.PrintLast Go.Proofs.YtenpiaafkmfjfaaW.PrintMore
theorem root_ex {n : Bool} {lo hi x : Int} (k : Nat) (hk : 18446744073709551660 ≤ k) (h : Ex n lo hi x) : fixed_words_root.f k lo hi = some ((isq x.natAbs : Nat) : Int) := by
  have ha := h.abs
  obtain ⟨h1, h2, h3, h4, _, _⟩ := h
  have := root_f k hk lo.toNat hi.toNat (by omega) (by omega)
  rw [show hi.toNat * 18446744073709551616 + lo.toNat = x.natAbs by omega, Int.toNat_of_nonneg h1, Int.toNat_of_nonneg h3] at this
  exact this
theorem fit_root (k : Nat) (hk : 1 ≤ k) (r : Nat) (hr : r < 18446744073709551616) (f : Bool) : fixed_exact_fit.f k false (r : Int) 0 f = some (fitV (r : Int), fitF (r : Int) f) :=
  fit_ex ⟨by omega, by omega, by omega, by omega, fun _ => by omega, fun h => absurd h (by decide)⟩ f k hk
theorem sqrt_neg (k : Nat) {v : Int} (f : Bool) (h : sv v < 0) : fixed_Sqrt.f k v f = some (0, true) := by
  unfold fixed_Sqrt.f
  rw [sound_f, Option.bind_some]
  dsimp only
  rw [if_pos h]
theorem sqrt_f (k : Nat) (hk : 18446744073709551660 ≤ k) {v : Int} (f : Bool) (hv : I64 v) (h : ¬ sv v < 0) : fixed_Sqrt.f k v f = some (fitV ((isq (sv v * 4294967296).natAbs : Nat) : Int), fitF ((isq (sv v * 4294967296).natAbs : Nat) : Int) (sf v f)) := by
  have hs := sv_i64 hv
  unfold fixed_Sqrt.f
  rw [sound_f, Option.bind_some]
  dsimp only
  rw [if_neg h, of_f hs.i64, Option.bind_some]
  dsimp only
  unfold Snd at hs
  rw [up_f (by omega) (by omega), Option.bind_some]
  dsimp only
  have x : Ex (decide (sv v < 0)) (((sv v).natAbs : Int) % 4294967296 * 4294967296) (((sv v).natAbs : Int) / 4294967296) (sv v * 4294967296) := by
    refine ⟨by omega, by omega, by omega, by omega, fun e => ?_, fun e => ?_⟩
    · have := of_decide_eq_false e; omega
    · have := of_decide_eq_true e; omega
  rw [root_ex k hk x, Option.bind_some, fit_root k (by omega) _ (isq_lt _ (by omega)), Option.bind_some]
theorem snd_mul {a b : Int} (ha : Snd a) (hb : Snd b) : -85070591730234615847396907784232501249 ≤ a * b ∧ a * b ≤ 85070591730234615847396907784232501249 := by
  have h : a.natAbs * b.natAbs ≤ 9223372036854775807 * 9223372036854775807 := by unfold Snd at *; exact Nat.mul_le_mul (by omega) (by omega)
  rw [← Int.natAbs_mul] at h
  omega
theorem hypot_f (k : Nat) (hk : 18446744073709551660 ≤ k) {a b : Int} (fa fb : Bool) (ha : I64 a) (hb : I64 b) :
    fixed_Hypot.f k a fa b fb = some (fitV ((isq (sv a * sv a + sv b * sv b).natAbs : Nat) : Int), fitF ((isq (sv a * sv a + sv b * sv b).natAbs : Nat) : Int) (sf a fa || sf b fb)) := by
  have sa := sv_i64 ha
  have sb := sv_i64 hb
  have ma := snd_mul sa sa
  have mb := snd_mul sb sb
  obtain ⟨n1, lo1, hi1, e1, x1⟩ := product_ex sa.i64 sa.i64
  obtain ⟨n2, lo2, hi2, e2, x2⟩ := product_ex sb.i64 sb.i64
  have hb : (sv a * sv a + sv b * sv b).natAbs < 170141183460469231731687303715884105728 := by omega
  obtain ⟨n, lo, hi, e, x⟩ := plus_ex k (by omega) x1 x2 hb
  have hfl : fixed_flags.f k [(⟨sv a, sf a fa⟩ : S23), ⟨sv b, sf b fb⟩] = some (sf a fa || sf b fb) := by
    rw [flags_f _ (by simp) k (by simp; omega)]
    simp
  unfold fixed_Hypot.f
  rw [sound_f, Option.bind_some, sound_f, Option.bind_some]
  dsimp only
  rw [e1, Option.bind_some, e2, Option.bind_some]
  dsimp only
  rw [e, Option.bind_some]
  dsimp only
  rw [root_ex k hk x, Option.bind_some, hfl, Option.bind_some, fit_root k (by omega) _ (isq_lt _ (by omega)), Option.bind_some]
theorem dot_f (k : Nat) (hk : 5 ≤ k) {a b c d : Int} (fa fb fc fd : Bool) (ha : I64 a) (hb : I64 b) (hc : I64 c) (hd : I64 d) :
    fixed_Dot.f k a fa b fb c fc d fd = some (fitV ((sv a * sv b + sv c * sv d).tdiv 4294967296), fitF ((sv a * sv b + sv c * sv d).tdiv 4294967296) (sf a fa || (sf b fb || (sf c fc || sf d fd)))) := by
  have ma := snd_mul (sv_i64 ha) (sv_i64 hb)
  have mb := snd_mul (sv_i64 hc) (sv_i64 hd)
  obtain ⟨n1, lo1, hi1, e1, x1⟩ := product_ex (sv_i64 ha).i64 (sv_i64 hb).i64
  obtain ⟨n2, lo2, hi2, e2, x2⟩ := product_ex (sv_i64 hc).i64 (sv_i64 hd).i64
  obtain ⟨n, lo, hi, e, x⟩ := plus_ex k (by omega) x1 x2 (by omega)
  obtain ⟨lo', hi', e', x'⟩ := down_ex x
  have hfl : fixed_flags.f k [(⟨sv a, sf a fa⟩ : S23), ⟨sv b, sf b fb⟩, ⟨sv c, sf c fc⟩, ⟨sv d, sf d fd⟩] = some (sf a fa || (sf b fb || (sf c fc || sf d fd))) := by
    rw [flags_f _ (by simp) k (by simp; omega)]
    simp
  unfold fixed_Dot.f
  rw [sound_f, Option.bind_some, sound_f, Option.bind_some, sound_f, Option.bind_some, sound_f, Option.bind_some]
  dsimp only
  rw [e1, Option.bind_some, e2, Option.bind_some]
  dsimp only
  rw [e, Option.bind_some]
  dsimp only
  rw [e', Option.bind_some]
  dsimp only
  rw [hfl, Option.bind_some, fit_ex x' _ k (by omega), Option.bind_some]
end Go.Proofs.Ytenpiaafkmfjfaa.B

end
section
namespace Go.Proofs.Ytenpiaafkmfjfaa.B
open Go.RowKit Go.Proofs.YtenpiaafkmfjfaaW.PrintWords Go.Proofs.YtenpiaafkmfjfaaW.PrintLast Go.Proofs.YtenpiaafkmfjfaaW.PrintMore
theorem rroot_loop (N hi lo : Nat) (n : Bool) (hN : N = hi * 18446744073709551616 + lo) (hl : lo < 18446744073709551616) (hh : hi < 18446744073709551616) :
    ∀ (m k c : Nat), m ≤ 64 → m + 1 ≤ k → c * 2 ^ m + 2 ^ m ≤ 18446744073709551616 → c * 2 ^ m * (c * 2 ^ m) ≤ N → N < (c * 2 ^ m + 2 ^ m) * (c * 2 ^ m + 2 ^ m) →
      bagatelleref01_root.l0 k ((c * 2 ^ m : Nat) : Int) ((m : Int) - 1) n (hi : Int) (lo : Int) = some (false, 0, ((isq N : Nat) : Int)) := by
  intro m
  induction m with
  | zero =>
    intro k c hm hk hc h1 h2
    obtain ⟨k, rfl⟩ : ∃ z, k = z + 1 := ⟨k - 1, by omega⟩
    rw [bagatelleref01_root.l0, if_neg (by omega)]
    simp only [Nat.pow_zero, Nat.mul_one] at h1 h2 ⊢
    rw [isq_unique N c (by omega) h1 h2]
  | succ m ih =>
    intro k c hm hk hc h1 h2
    obtain ⟨k, rfl⟩ : ∃ z, k = z + 1 := ⟨k - 1, by omega⟩
    have hp := Nat.two_pow_pos m
    have e2 : 2 ^ (m + 1) = 2 * 2 ^ m := Nat.pow_succ'
    have ec : c * 2 ^ (m + 1) = 2 * c * 2 ^ m := by rw [e2, Nat.mul_left_comm, Nat.mul_assoc]
    have ec1 : (2 * c + 1) * 2 ^ m = 2 * c * 2 ^ m + 2 ^ m := by rw [Nat.add_mul]; omega
    have hor := or_add (m + 1) c (2 ^ m) (by omega) (by rw [Nat.mul_comm]; omega)
    rw [Nat.mul_comm (2 ^ (m + 1)) c] at hor
    have hsh := shl_nat 1 m (by omega) (by rw [Nat.one_mul]; omega)
    rw [show ((1 : Nat) : Int) = 1 from rfl, Nat.one_mul] at hsh
    rw [bagatelleref01_root.l0, show ((m + 1 : Nat) : Int) - 1 = (m : Int) by omega, if_pos (by omega), u64_id (x := (m : Int)) (by omega) (by omega), if_pos (by omega), hsh, hor, ec, mul64_f _ _ (by omega) (by omega), Option.bind_some]
    dsimp only
    rw [less_f n false (by omega) (by omega) (by omega) (by omega), Option.bind_some, wrap64_id (x := (m : Int) - 1) (by omega) (by omega)]
    rw [ec] at h1 h2 hc
    rw [e2] at h2 hc
    have ht : (2 * c * 2 ^ m + 2 ^ m) * (2 * c * 2 ^ m + 2 ^ m) < 340282366920938463463374607431768211456 := by
      have := Nat.mul_le_mul (show 2 * c * 2 ^ m + 2 ^ m ≤ 18446744073709551615 by omega) (show 2 * c * 2 ^ m + 2 ^ m ≤ 18446744073709551615 by omega)
      omega
    by_cases hlt : N < (2 * c * 2 ^ m + 2 ^ m) * (2 * c * 2 ^ m + 2 ^ m)
    · rw [decide_eq_true (by omega), if_pos rfl]
      exact ih k (2 * c) (by omega) (by omega) (by omega) h1 hlt
    · rw [decide_eq_false (by omega), if_neg (by decide)]
      have := ih k (2 * c + 1) (by omega) (by omega) (by rw [ec1]; omega) (by rw [ec1]; omega) (by rw [ec1, show 2 * c * 2 ^ m + 2 ^ m + 2 ^ m = 2 * c * 2 ^ m + 2 * 2 ^ m by omega]; exact h2)
      rw [ec1] at this
      exact this
theorem rroot_f (k : Nat) (hk : 65 ≤ k) {n : Bool} {hi lo x : Int} (h : Ex n lo hi x) : bagatelleref01_root.f k n hi lo = some (false, 0, ((isq x.natAbs : Nat) : Int)) := by
  have ha := h.abs
  obtain ⟨h1, h2, h3, h4, _, _⟩ := h
  unfold bagatelleref01_root.f
  have := rroot_loop x.natAbs hi.toNat lo.toNat n (by omega) (by omega) (by omega) 64 k 0 (by omega) (by omega) (by omega) (by omega) (by omega)
  rw [Int.toNat_of_nonneg h1, Int.toNat_of_nonneg h3] at this
  exact this
theorem fitr_root (k : Nat) (hk : 1 ≤ k) (r : Nat) (hr : r < 18446744073709551616) (f : Bool) : bagatelleref01_fit.f k false 0 (r : Int) f = some (fitV (r : Int), fitF (r : Int) f) :=
  fit_r ⟨by omega, by omega, by omega, by omega, fun _ => by omega, fun h => absurd h (by decide)⟩ f k hk
theorem sqrt_negr (k : Nat) {v : Int} (f : Bool) (h : sv v < 0) : bagatelleref01_Sqrt.f k v f = some (0, true) := by
  unfold bagatelleref01_Sqrt.f
  rw [whole_f, Option.bind_some]
  dsimp only
  rw [if_pos h]
theorem sqrt_r (k : Nat) (hk : 65 ≤ k) {v : Int} (f : Bool) (hv : I64 v) (h : ¬ sv v < 0) : bagatelleref01_Sqrt.f k v f = some (fitV ((isq (sv v * 4294967296).natAbs : Nat) : Int), fitF ((isq (sv v * 4294967296).natAbs : Nat) : Int) (sf v f)) := by
  have hs := sv_i64 hv
  unfold bagatelleref01_Sqrt.f
  rw [whole_f, Option.bind_some]
  dsimp only
  rw [if_neg h, exact_rf hs.i64, Option.bind_some]
  dsimp only
  unfold Snd at hs
  rw [up_r (by omega) (by omega), Option.bind_some]
  dsimp only
  have x : Ex (decide (sv v < 0)) (((sv v).natAbs : Int) % 4294967296 * 4294967296) (((sv v).natAbs : Int) / 4294967296) (sv v * 4294967296) := by
    refine ⟨by omega, by omega, by omega, by omega, fun e => ?_, fun e => ?_⟩
    · have := of_decide_eq_false e; omega
    · have := of_decide_eq_true e; omega
  rw [rroot_f k hk x, Option.bind_some]
  dsimp only
  rw [fitr_root k (by omega) _ (isq_lt _ (by omega)), Option.bind_some]
theorem hypot_r (k : Nat) (hk : 65 ≤ k) {a b : Int} (fa fb : Bool) (ha : I64 a) (hb : I64 b) :
    bagatelleref01_Hypot.f k a fa b fb = some (fitV ((isq (sv a * sv a + sv b * sv b).natAbs : Nat) : Int), fitF ((isq (sv a * sv a + sv b * sv b).natAbs : Nat) : Int) (sf a fa || sf b fb)) := by
  have sa := sv_i64 ha
  have sb := sv_i64 hb
  have ma := snd_mul sa sa
  have mb := snd_mul sb sb
  obtain ⟨n1, hi1, lo1, e1, x1⟩ := times_ex sa.i64 sa.i64
  obtain ⟨n2, hi2, lo2, e2, x2⟩ := times_ex sb.i64 sb.i64
  have hb : (sv a * sv a + sv b * sv b).natAbs < 170141183460469231731687303715884105728 := by omega
  obtain ⟨n, hi, lo, e, x⟩ := plus_r x1 x2 hb
  unfold bagatelleref01_Hypot.f
  rw [whole_f, Option.bind_some, whole_f, Option.bind_some]
  dsimp only
  rw [e1, Option.bind_some, e2, Option.bind_some]
  dsimp only
  rw [e, Option.bind_some]
  dsimp only
  rw [rroot_f k hk x.ex, Option.bind_some]
  dsimp only
  rw [fitr_root k (by omega) _ (isq_lt _ (by omega)), fitr_root k (by omega) _ (isq_lt _ (by omega))]
  by_cases h : sf a fa = true
  · rw [if_pos h, h]; rfl
  · rw [if_neg h, show sf a fa = false by simpa using h]; rfl
theorem dot_r (k : Nat) (hk : 5 ≤ k) {a b c d : Int} (fa fb fc fd : Bool) (ha : I64 a) (hb : I64 b) (hc : I64 c) (hd : I64 d) :
    bagatelleref01_Dot.f k a fa b fb c fc d fd = some (fitV ((sv a * sv b + sv c * sv d).tdiv 4294967296), fitF ((sv a * sv b + sv c * sv d).tdiv 4294967296) (sf a fa || (sf b fb || (sf c fc || sf d fd)))) := by
  have ma := snd_mul (sv_i64 ha) (sv_i64 hb)
  have mb := snd_mul (sv_i64 hc) (sv_i64 hd)
  obtain ⟨n1, hi1, lo1, e1, x1⟩ := times_ex (sv_i64 ha).i64 (sv_i64 hb).i64
  obtain ⟨n2, hi2, lo2, e2, x2⟩ := times_ex (sv_i64 hc).i64 (sv_i64 hd).i64
  obtain ⟨n, hi, lo, e, x⟩ := plus_r x1 x2 (by omega)
  obtain ⟨hi', lo', e', x'⟩ := down_r x.ex
  unfold bagatelleref01_Dot.f
  rw [whole_f, Option.bind_some, whole_f, Option.bind_some, whole_f, Option.bind_some, whole_f, Option.bind_some]
  dsimp only
  rw [e1, Option.bind_some, e2, Option.bind_some]
  dsimp only
  rw [e, Option.bind_some]
  dsimp only
  rw [e', Option.bind_some]
  dsimp only
  rw [fit_r x' true k (by omega), fit_r x' _ k (by omega)]
  by_cases h1 : sf a fa = true
  · rw [if_pos h1, h1]; rfl
  · rw [if_neg h1, show sf a fa = false by simpa using h1]
    by_cases h2 : sf b fb = true
    · rw [if_pos h2, h2]; rfl
    · rw [if_neg h2, show sf b fb = false by simpa using h2]
      by_cases h3 : sf c fc = true
      · rw [if_pos h3, h3]; rfl
      · rw [if_neg h3, show sf c fc = false by simpa using h3]; rfl
end Go.Proofs.Ytenpiaafkmfjfaa.B

end
section
namespace Go.Proofs.Ytenpiaafkmfjfaa.B
open Go.RowKit Go.Proofs.YtenpiaafkmfjfaaW.PrintWords Go.Proofs.YtenpiaafkmfjfaaW.PrintLast Go.Proofs.YtenpiaafkmfjfaaW.PrintMore
attribute [local go_sem] max2_int min2_int max_two min_two max_three min_three max_four min_four
set_option linter.unusedVariables false
set_option linter.unusedSimpArgs false
attribute [local go_sem high] eqA23
def bagatellelaw01_FixedRoots.f (k : Nat) (a0_0 : Int) (a0_1 : Bool) (a1_0 : Int) (a1_1 : Bool) (a2_0 : Int) (a2_1 : Bool) (a3_0 : Int) (a3_1 : Bool) : Option (Bool) := (fixed_Sqrt.f k a0_0 a0_1).bind fun bt369 => ((bagatelleref01_Sqrt.f k a0_0 a0_1).bind fun bt371 => (if (bt369.1 == bt371.1 && (bt369.2 == bt371.2)) = true then ((fixed_Hypot.f k a0_0 a0_1 a1_0 a1_1).bind fun bt373 => ((bagatelleref01_Hypot.f k a0_0 a0_1 a1_0 a1_1).bind fun bt375 => (if (bt373.1 == bt375.1 && (bt373.2 == bt375.2)) = true then ((fixed_Dot.f k a0_0 a0_1 a1_0 a1_1 a2_0 a2_1 a3_0 a3_1).bind fun bt377 => ((bagatelleref01_Dot.f k a0_0 a0_1 a1_0 a1_1 a2_0 a2_1 a3_0 a3_1).bind fun bt379 => (if (bt377.1 == bt379.1 && (bt377.2 == bt379.2)) = true then ((bagatellelaw01_awake.f k).bind fun t381 => (some t381)) else (none)))) else (none)))) else (none)))
def bagatellelaw01_FixedRoots.T1 : Bool × List (List Nat × List Nat) := (true, [([], []), ([0], [0]), ([], []), ([2, 1], [2]), ([1, 3], [1, 3]), ([4, 3], [4]), ([5], [5]), ([5], [5]), ([6, 7, 5, 5], [5, 6, 7]), ([5], [5]), ([5], [5]), ([9, 10, 8, 5], [5, 9, 10]), ([8, 11, 5], [5, 8, 11]), ([5, 12], [5, 12]), ([13, 11], [13]), ([14], [14]), ([14], [14]), ([14], [14]), ([14], [14]), ([15, 16, 17, 18, 14, 14], [14, 15, 16, 17, 18]), ([14], [14]), ([14], [14]), ([14], [14]), ([14], [14]), ([20, 21, 22, 23, 19, 14], [14, 20, 21, 22, 23]), ([19, 24, 14], [14, 19, 24]), ([14, 25], [14, 25]), ([26, 24], [26]), ([27, 27], [27]), ([27, 28], [27, 28]), ([29, 28, 0, 1, 2, 3, 4, 5, 6, 7, 8, 9, 10, 11, 12, 13, 14, 15, 16, 17, 18, 19, 20, 21, 22, 23, 24, 25, 26, 27, 28, 29], [29])])
def bagatellelaw01_FixedRoots.B1 : List Nat := [0, 1, 0, 7, 15, 31, 63, 63, 255, 63, 63, 2047, 4095, 8191, 16383, 32767, 32767, 32767, 32767, 524287, 32767, 32767, 32767, 32767, 16777215, 33554431, 67108863, 134217727, 268435455, 536870911, 1073741823]
theorem bagatellelaw01_FixedRoots.tab1 : rtab .any (opsOf Try.f10 1) = bagatellelaw01_FixedRoots.T1 := by kernel_rfl
theorem bagatellelaw01_FixedRoots.bits1 : waitsOk bagatellelaw01_FixedRoots.T1.2 bagatellelaw01_FixedRoots.B1 = true := by kernel_rfl
set_option maxHeartbeats 8000000 in
set_option maxRecDepth 100000 in
theorem bagatellelaw01_FixedRoots.calls (k : Nat) (a0_0 : Int) (a0_1 : Bool) (a1_0 : Int) (a1_1 : Bool) (a2_0 : Int) (a2_1 : Bool) (a3_0 : Int) (a3_1 : Bool) (r : Bool) (w : World) (h : bagatellelaw01_FixedRoots.f k a0_0 a0_1 a1_0 a1_1 a2_0 a2_1 a3_0 a3_1 = some r) :
    Calls Try.prog 10 #[.agg #[.int .i64 a0_0, .bool a0_1], .agg #[.int .i64 a1_0, .bool a1_1], .agg #[.int .i64 a2_0, .bool a2_1], .agg #[.int .i64 a3_0, .bool a3_1]] w fun e w' => e = .returned (.bool r) ∧ Below w.heap.size w w' := by
  have hu23 := Try.underlying23
  have HB := Aside0.mk (Below.refl w.heap.size w)
  have H : ((fixed_Sqrt.f k a0_0 a0_1).bind fun bt369 => ((bagatelleref01_Sqrt.f k a0_0 a0_1).bind fun bt371 => (if (bt369.1 == bt371.1 && (bt369.2 == bt371.2)) = true then ((fixed_Hypot.f k a0_0 a0_1 a1_0 a1_1).bind fun bt373 => ((bagatelleref01_Hypot.f k a0_0 a0_1 a1_0 a1_1).bind fun bt375 => (if (bt373.1 == bt375.1 && (bt373.2 == bt375.2)) = true then ((fixed_Dot.f k a0_0 a0_1 a1_0 a1_1 a2_0 a2_1 a3_0 a3_1).bind fun bt377 => ((bagatelleref01_Dot.f k a0_0 a0_1 a1_0 a1_1 a2_0 a2_1 a3_0 a3_1).bind fun bt379 => (if (bt377.1 == bt379.1 && (bt377.2 == bt379.2)) = true then ((bagatellelaw01_awake.f k).bind fun t381 => (some t381)) else (none)))) else (none)))) else (none)))) = some r := h
  clear h
  replace H := Option.bind_eq_some_iff.mp H
  obtain ⟨⟨t369, t370⟩, A50, H⟩ := H
  replace H : ((bagatelleref01_Sqrt.f k a0_0 a0_1).bind fun bt371 => (if (t369 == bt371.1 && (t370 == bt371.2)) = true then ((fixed_Hypot.f k a0_0 a0_1 a1_0 a1_1).bind fun bt373 => ((bagatelleref01_Hypot.f k a0_0 a0_1 a1_0 a1_1).bind fun bt375 => (if (bt373.1 == bt375.1 && (bt373.2 == bt375.2)) = true then ((fixed_Dot.f k a0_0 a0_1 a1_0 a1_1 a2_0 a2_1 a3_0 a3_1).bind fun bt377 => ((bagatelleref01_Dot.f k a0_0 a0_1 a1_0 a1_1 a2_0 a2_1 a3_0 a3_1).bind fun bt379 => (if (bt377.1 == bt379.1 && (bt377.2 == bt379.2)) = true then ((bagatellelaw01_awake.f k).bind fun t381 => (some t381)) else (none)))) else (none)))) else (none))) = some r := H
  have A5 := Aside0.mk A50
  clear A50
  replace H := Option.bind_eq_some_iff.mp H
  obtain ⟨⟨t371, t372⟩, A60, H⟩ := H
  replace H : (if (t369 == t371 && (t370 == t372)) = true then ((fixed_Hypot.f k a0_0 a0_1 a1_0 a1_1).bind fun bt373 => ((bagatelleref01_Hypot.f k a0_0 a0_1 a1_0 a1_1).bind fun bt375 => (if (bt373.1 == bt375.1 && (bt373.2 == bt375.2)) = true then ((fixed_Dot.f k a0_0 a0_1 a1_0 a1_1 a2_0 a2_1 a3_0 a3_1).bind fun bt377 => ((bagatelleref01_Dot.f k a0_0 a0_1 a1_0 a1_1 a2_0 a2_1 a3_0 a3_1).bind fun bt379 => (if (bt377.1 == bt379.1 && (bt377.2 == bt379.2)) = true then ((bagatellelaw01_awake.f k).bind fun t381 => (some t381)) else (none)))) else (none)))) else (none)) = some r := H
  have A6 := Aside0.mk A60
  clear A60
  by_cases c7 : (t369 == t371 && (t370 == t372)) = true
  · rw [if_pos c7] at H
    have c7b0 : (t369 == t371 && (t370 == t372)) = true := c7
    (try (have c7b1 : decide (t369 = t371 && (t370 == t372)) = true := by simpa using c7))
    (try (have c7b2 : (t369 == t371 && (t370 == t372)) = true := by simpa using c7))
    clear c7
    replace H := Option.bind_eq_some_iff.mp H
    obtain ⟨⟨t373, t374⟩, A80, H⟩ := H
    replace H : ((bagatelleref01_Hypot.f k a0_0 a0_1 a1_0 a1_1).bind fun bt375 => (if (t373 == bt375.1 && (t374 == bt375.2)) = true then ((fixed_Dot.f k a0_0 a0_1 a1_0 a1_1 a2_0 a2_1 a3_0 a3_1).bind fun bt377 => ((bagatelleref01_Dot.f k a0_0 a0_1 a1_0 a1_1 a2_0 a2_1 a3_0 a3_1).bind fun bt379 => (if (bt377.1 == bt379.1 && (bt377.2 == bt379.2)) = true then ((bagatellelaw01_awake.f k).bind fun t381 => (some t381)) else (none)))) else (none))) = some r := H
    have A8 := Aside0.mk A80
    clear A80
    replace H := Option.bind_eq_some_iff.mp H
    obtain ⟨⟨t375, t376⟩, A90, H⟩ := H
    replace H : (if (t373 == t375 && (t374 == t376)) = true then ((fixed_Dot.f k a0_0 a0_1 a1_0 a1_1 a2_0 a2_1 a3_0 a3_1).bind fun bt377 => ((bagatelleref01_Dot.f k a0_0 a0_1 a1_0 a1_1 a2_0 a2_1 a3_0 a3_1).bind fun bt379 => (if (bt377.1 == bt379.1 && (bt377.2 == bt379.2)) = true then ((bagatellelaw01_awake.f k).bind fun t381 => (some t381)) else (none)))) else (none)) = some r := H
    have A9 := Aside0.mk A90
    clear A90
    by_cases c10 : (t373 == t375 && (t374 == t376)) = true
    · rw [if_pos c10] at H
      have c10b0 : (t373 == t375 && (t374 == t376)) = true := c10
      (try (have c10b1 : decide (t373 = t375 && (t374 == t376)) = true := by simpa using c10))
      (try (have c10b2 : (t373 == t375 && (t374 == t376)) = true := by simpa using c10))
      clear c10
      replace H := Option.bind_eq_some_iff.mp H
      obtain ⟨⟨t377, t378⟩, A110, H⟩ := H
      replace H : ((bagatelleref01_Dot.f k a0_0 a0_1 a1_0 a1_1 a2_0 a2_1 a3_0 a3_1).bind fun bt379 => (if (t377 == bt379.1 && (t378 == bt379.2)) = true then ((bagatellelaw01_awake.f k).bind fun t381 => (some t381)) else (none))) = some r := H
      have A11 := Aside0.mk A110
      clear A110
      replace H := Option.bind_eq_some_iff.mp H
      obtain ⟨⟨t379, t380⟩, A120, H⟩ := H
      replace H : (if (t377 == t379 && (t378 == t380)) = true then ((bagatellelaw01_awake.f k).bind fun t381 => (some t381)) else (none)) = some r := H
      have A12 := Aside0.mk A120
      clear A120
      by_cases c13 : (t377 == t379 && (t378 == t380)) = true
      · rw [if_pos c13] at H
        have c13b0 : (t377 == t379 && (t378 == t380)) = true := c13
        (try (have c13b1 : decide (t377 = t379 && (t378 == t380)) = true := by simpa using c13))
        (try (have c13b2 : (t377 == t379 && (t378 == t380)) = true := by simpa using c13))
        clear c13
        replace H := Option.bind_eq_some_iff.mp H
        obtain ⟨t381, A140, H⟩ := H
        replace H : (some t381) = some r := H
        have A14 := Aside0.mk A140
        clear A140
        obtain rfl := Option.some.inj H
        go_enter Try.func10, Try.ntmps10
        try go_wp2_with (first | ((with_reducible refine gate_dst (N := 4) rfl ?_); refine box_event ?hg (N := 4) ?hd (cs := #[.int .i64 a0_0, .bool a0_1]) (t := 23) ?hr ?_; (case hd => rfl); (case hg => rfl); (case hr => first | (go_simp; done) | (go_simp; rfl)); intro gb365 hg w15 hbox hb; have n0_ := Aside0.mk (below_step (by repeat (first | (with_reducible first | exact HB.out | apply below_alloc | apply pw_below_drewN | apply below_drew1) | exact HB.out)) hb); have n1_ := Aside0.mk (hbox); have n2_ := Aside0.mk ((by rw [hg]; exact (below_size (by repeat (first | (with_reducible first | exact HB.out | apply below_alloc | apply pw_below_drewN | apply below_drew1) | exact HB.out))) : w.heap.size ≤ gb365)); have n3_ := Aside0.mk ((by rw [hg]; exact (below_size (by repeat (first | (with_reducible first | exact HB.out | apply below_alloc | apply pw_below_drewN | apply below_drew1) | exact HB.out))) : w.heap.size ≤ gb365)); clear HB; have HB := n0_; have BK365 := n1_; have GW365 := n2_; have GE365 := n3_; clear n0_ n1_ n2_ n3_; clear hb hbox hg) | ((with_reducible refine gate_dst (N := 5) rfl ?_); refine box_event ?hg (N := 5) ?hd (cs := #[.int .i64 a1_0, .bool a1_1]) (t := 23) ?hr ?_; (case hd => rfl); (case hg => rfl); (case hr => first | (go_simp; done) | (go_simp; rfl)); intro gb366 hg w16 hbox hb; have n0_ := Aside0.mk (blk_below (g := gb365) (o := .cells #[.int .i64 a0_0, .bool a0_1] 23 (0, 0)) (by (with_reducible repeat (first | refine blk_drewN ?_ _ | refine blk_drew ?_ | refine blk_alloc ?_ _)); exact BK365.out) hb); have n1_ := Aside0.mk (below_step (by repeat (first | (with_reducible first | exact HB.out | apply below_alloc | apply pw_below_drewN | apply below_drew1 | refine below_set ?_ GE365.out) | exact HB.out)) hb); have n2_ := Aside0.mk (hbox); have n3_ := Aside0.mk ((by rw [hg]; exact (below_size (by repeat (first | (with_reducible first | exact HB.out | apply below_alloc | apply pw_below_drewN | apply below_drew1 | refine below_set ?_ GE365.out) | exact HB.out))) : w.heap.size ≤ gb366)); have n4_ := Aside0.mk ((by rw [hg]; exact (below_size (by repeat (first | (with_reducible first | exact HB.out | apply below_alloc | apply pw_below_drewN | apply below_drew1 | refine below_set ?_ GE365.out) | exact HB.out))) : w.heap.size ≤ gb366)); have n5_ := Aside0.mk ((by rw [hg]; exact Nat.ne_of_lt (blk_lt (g := gb365) (o := .cells #[.int .i64 a0_0, .bool a0_1] 23 (0, 0)) (by (with_reducible repeat (first | refine blk_drewN ?_ _ | refine blk_drew ?_ | refine blk_alloc ?_ _)); exact BK365.out)) : gb365 ≠ gb366)); have n6_ := Aside0.mk ((by rw [hg]; exact Nat.ne_of_gt (blk_lt (g := gb365) (o := .cells #[.int .i64 a0_0, .bool a0_1] 23 (0, 0)) (by (with_reducible repeat (first | refine blk_drewN ?_ _ | refine blk_drew ?_ | refine blk_alloc ?_ _)); exact BK365.out)) : gb366 ≠ gb365)); clear BK365; clear HB; have BK365 := n0_; have HB := n1_; have BK366 := n2_; have GW366 := n3_; have GE366 := n4_; have NB365_366 := n5_; have NB366_365 := n6_; clear n0_ n1_ n2_ n3_ n4_ n5_ n6_; clear hb hbox hg) | ((with_reducible refine gate_dst (N := 6) rfl ?_); refine box_event ?hg (N := 6) ?hd (cs := #[.int .i64 a2_0, .bool a2_1]) (t := 23) ?hr ?_; (case hd => rfl); (case hg => rfl); (case hr => first | (go_simp; done) | (go_simp; rfl)); intro gb367 hg w17 hbox hb; have n0_ := Aside0.mk (blk_below (g := gb365) (o := .cells #[.int .i64 a0_0, .bool a0_1] 23 (0, 0)) (by (with_reducible repeat (first | refine blk_drewN ?_ _ | refine blk_drew ?_ | refine blk_alloc ?_ _)); exact BK365.out) hb); have n1_ := Aside0.mk (blk_below (g := gb366) (o := .cells #[.int .i64 a1_0, .bool a1_1] 23 (0, 0)) (by (with_reducible repeat (first | refine blk_drewN ?_ _ | refine blk_drew ?_ | refine blk_alloc ?_ _)); exact BK366.out) hb); have n2_ := Aside0.mk (below_step (by repeat (first | (with_reducible first | exact HB.out | apply below_alloc | apply pw_below_drewN | apply below_drew1 | refine below_set ?_ GE365.out | refine below_set ?_ GE366.out) | exact HB.out)) hb); have n3_ := Aside0.mk (hbox); have n4_ := Aside0.mk ((by rw [hg]; exact (below_size (by repeat (first | (with_reducible first | exact HB.out | apply below_alloc | apply pw_below_drewN | apply below_drew1 | refine below_set ?_ GE365.out | refine below_set ?_ GE366.out) | exact HB.out))) : w.heap.size ≤ gb367)); have n5_ := Aside0.mk ((by rw [hg]; exact (below_size (by repeat (first | (with_reducible first | exact HB.out | apply below_alloc | apply pw_below_drewN | apply below_drew1 | refine below_set ?_ GE365.out | refine below_set ?_ GE366.out) | exact HB.out))) : w.heap.size ≤ gb367)); have n6_ := Aside0.mk ((by rw [hg]; exact Nat.ne_of_lt (blk_lt (g := gb365) (o := .cells #[.int .i64 a0_0, .bool a0_1] 23 (0, 0)) (by (with_reducible repeat (first | refine blk_drewN ?_ _ | refine blk_drew ?_ | refine blk_alloc ?_ _)); exact BK365.out)) : gb365 ≠ gb367)); have n7_ := Aside0.mk ((by rw [hg]; exact Nat.ne_of_gt (blk_lt (g := gb365) (o := .cells #[.int .i64 a0_0, .bool a0_1] 23 (0, 0)) (by (with_reducible repeat (first | refine blk_drewN ?_ _ | refine blk_drew ?_ | refine blk_alloc ?_ _)); exact BK365.out)) : gb367 ≠ gb365)); have n8_ := Aside0.mk ((by rw [hg]; exact Nat.ne_of_lt (blk_lt (g := gb366) (o := .cells #[.int .i64 a1_0, .bool a1_1] 23 (0, 0)) (by (with_reducible repeat (first | refine blk_drewN ?_ _ | refine blk_drew ?_ | refine blk_alloc ?_ _)); exact BK366.out)) : gb366 ≠ gb367)); have n9_ := Aside0.mk ((by rw [hg]; exact Nat.ne_of_gt (blk_lt (g := gb366) (o := .cells #[.int .i64 a1_0, .bool a1_1] 23 (0, 0)) (by (with_reducible repeat (first | refine blk_drewN ?_ _ | refine blk_drew ?_ | refine blk_alloc ?_ _)); exact BK366.out)) : gb367 ≠ gb366)); clear BK365; clear BK366; clear HB; have BK365 := n0_; have BK366 := n1_; have HB := n2_; have BK367 := n3_; have GW367 := n4_; have GE367 := n5_; have NB365_367 := n6_; have NB367_365 := n7_; have NB366_367 := n8_; have NB367_366 := n9_; clear n0_ n1_ n2_ n3_ n4_ n5_ n6_ n7_ n8_ n9_; clear hb hbox hg) | ((with_reducible refine gate_dst (N := 7) rfl ?_); refine box_event ?hg (N := 7) ?hd (cs := #[.int .i64 a3_0, .bool a3_1]) (t := 23) ?hr ?_; (case hd => rfl); (case hg => rfl); (case hr => first | (go_simp; done) | (go_simp; rfl)); intro gb368 hg w18 hbox hb; have n0_ := Aside0.mk (blk_below (g := gb365) (o := .cells #[.int .i64 a0_0, .bool a0_1] 23 (0, 0)) (by (with_reducible repeat (first | refine blk_drewN ?_ _ | refine blk_drew ?_ | refine blk_alloc ?_ _)); exact BK365.out) hb); have n1_ := Aside0.mk (blk_below (g := gb366) (o := .cells #[.int .i64 a1_0, .bool a1_1] 23 (0, 0)) (by (with_reducible repeat (first | refine blk_drewN ?_ _ | refine blk_drew ?_ | refine blk_alloc ?_ _)); exact BK366.out) hb); have n2_ := Aside0.mk (blk_below (g := gb367) (o := .cells #[.int .i64 a2_0, .bool a2_1] 23 (0, 0)) (by (with_reducible repeat (first | refine blk_drewN ?_ _ | refine blk_drew ?_ | refine blk_alloc ?_ _)); exact BK367.out) hb); have n3_ := Aside0.mk (below_step (by repeat (first | (with_reducible first | exact HB.out | apply below_alloc | apply pw_below_drewN | apply below_drew1 | refine below_set ?_ GE365.out | refine below_set ?_ GE366.out | refine below_set ?_ GE367.out) | exact HB.out)) hb); have n4_ := Aside0.mk (hbox); have n5_ := Aside0.mk ((by rw [hg]; exact (below_size (by repeat (first | (with_reducible first | exact HB.out | apply below_alloc | apply pw_below_drewN | apply below_drew1 | refine below_set ?_ GE365.out | refine below_set ?_ GE366.out | refine below_set ?_ GE367.out) | exact HB.out))) : w.heap.size ≤ gb368)); have n6_ := Aside0.mk ((by rw [hg]; exact (below_size (by repeat (first | (with_reducible first | exact HB.out | apply below_alloc | apply pw_below_drewN | apply below_drew1 | refine below_set ?_ GE365.out | refine below_set ?_ GE366.out | refine below_set ?_ GE367.out) | exact HB.out))) : w.heap.size ≤ gb368)); have n7_ := Aside0.mk ((by rw [hg]; exact Nat.ne_of_lt (blk_lt (g := gb365) (o := .cells #[.int .i64 a0_0, .bool a0_1] 23 (0, 0)) (by (with_reducible repeat (first | refine blk_drewN ?_ _ | refine blk_drew ?_ | refine blk_alloc ?_ _)); exact BK365.out)) : gb365 ≠ gb368)); have n8_ := Aside0.mk ((by rw [hg]; exact Nat.ne_of_gt (blk_lt (g := gb365) (o := .cells #[.int .i64 a0_0, .bool a0_1] 23 (0, 0)) (by (with_reducible repeat (first | refine blk_drewN ?_ _ | refine blk_drew ?_ | refine blk_alloc ?_ _)); exact BK365.out)) : gb368 ≠ gb365)); have n9_ := Aside0.mk ((by rw [hg]; exact Nat.ne_of_lt (blk_lt (g := gb366) (o := .cells #[.int .i64 a1_0, .bool a1_1] 23 (0, 0)) (by (with_reducible repeat (first | refine blk_drewN ?_ _ | refine blk_drew ?_ | refine blk_alloc ?_ _)); exact BK366.out)) : gb366 ≠ gb368)); have n10_ := Aside0.mk ((by rw [hg]; exact Nat.ne_of_gt (blk_lt (g := gb366) (o := .cells #[.int .i64 a1_0, .bool a1_1] 23 (0, 0)) (by (with_reducible repeat (first | refine blk_drewN ?_ _ | refine blk_drew ?_ | refine blk_alloc ?_ _)); exact BK366.out)) : gb368 ≠ gb366)); have n11_ := Aside0.mk ((by rw [hg]; exact Nat.ne_of_lt (blk_lt (g := gb367) (o := .cells #[.int .i64 a2_0, .bool a2_1] 23 (0, 0)) (by (with_reducible repeat (first | refine blk_drewN ?_ _ | refine blk_drew ?_ | refine blk_alloc ?_ _)); exact BK367.out)) : gb367 ≠ gb368)); have n12_ := Aside0.mk ((by rw [hg]; exact Nat.ne_of_gt (blk_lt (g := gb367) (o := .cells #[.int .i64 a2_0, .bool a2_1] 23 (0, 0)) (by (with_reducible repeat (first | refine blk_drewN ?_ _ | refine blk_drew ?_ | refine blk_alloc ?_ _)); exact BK367.out)) : gb368 ≠ gb367)); clear BK365; clear BK366; clear BK367; clear HB; have BK365 := n0_; have BK366 := n1_; have BK367 := n2_; have HB := n3_; have BK368 := n4_; have GW368 := n5_; have GE368 := n6_; have NB365_368 := n7_; have NB368_365 := n8_; have NB366_368 := n9_; have NB368_366 := n10_; have NB367_368 := n11_; have NB368_367 := n12_; clear n0_ n1_ n2_ n3_ n4_ n5_ n6_ n7_ n8_ n9_ n10_ n11_ n12_; clear hb hbox hg))
        have n0_ := Aside0.mk (blk_drew BK365.out)
        have n1_ := Aside0.mk (blk_drew BK366.out)
        have n2_ := Aside0.mk (blk_drew BK367.out)
        have n3_ := Aside0.mk (blk_drew BK368.out)
        have n4_ := Aside0.mk (below_drew1 HB.out)
        clear BK365
        clear BK366
        clear BK367
        clear BK368
        clear HB
        have BK365 := n0_
        have BK366 := n1_
        have BK367 := n2_
        have BK368 := n3_
        have HB := n4_
        clear n0_ n1_ n2_ n3_ n4_
        refine start_ (n := 31) (S := fun w' => w'.cell? ⟨gb365, 0, none⟩ = some (.int .i64 a0_0) ∧ w'.cell? ⟨gb365, 1, none⟩ = some (.bool a0_1) ∧ w'.cell? ⟨gb366, 0, none⟩ = some (.int .i64 a1_0) ∧ w'.cell? ⟨gb366, 1, none⟩ = some (.bool a1_1) ∧ w'.cell? ⟨gb367, 0, none⟩ = some (.int .i64 a2_0) ∧ w'.cell? ⟨gb367, 1, none⟩ = some (.bool a2_1) ∧ w'.cell? ⟨gb368, 0, none⟩ = some (.int .i64 a3_0) ∧ w'.cell? ⟨gb368, 1, none⟩ = some (.bool a3_1)) (ds := []) #[false, false, false, false, false, false, false, false, false, false, false, false, false, false, false, false, false, false, false, false, false, false, false, false, false, false, false, false, false, false, false] (by kernel_rfl) rfl rfl ⟨(blk_cell BK365.out 0).trans rfl, (blk_cell BK365.out 1).trans rfl, (blk_cell BK366.out 0).trans rfl, (blk_cell BK366.out 1).trans rfl, (blk_cell BK367.out 0).trans rfl, (blk_cell BK367.out 1).trans rfl, (blk_cell BK368.out 0).trans rfl, (blk_cell BK368.out 1).trans rfl⟩ (fun hHeld => ?_); refine with_tabW bagatellelaw01_FixedRoots.tab1 bagatellelaw01_FixedRoots.bits1 (fun HT_ HW_ => ?_)
        generalize w18.drew = w19 at BK365 BK366 BK367 BK368 HB hHeld ⊢
        refine take_ (i := 0) (N := some 9) (v := ?_) (a' := ?_) #[true, false, false, false, false, false, false, false, false, false, false, false, false, false, false, false, false, false, false, false, false, false, false, false, false, false, false, false, false, false, false] rfl rfl (take_ofW HT_.out HW_.out (by kernel_rfl)) (fun _ _ _ h => h) (Or.inl ⟨by rfl, ?_⟩) hHeld ?_ ?_
        rotate_left
        · rintro w' ⟨s0, s1, s2, s3, s4, s5, s6, s7⟩
          go_simp
          with_reducible rfl
        rotate_left
        · simp only [Act.put, List.setIfInBounds_toArray, List.set_cons_zero, List.set_cons_succ, i64_w, i32_w]
          rfl
        refine take_ (i := 2) (N := some 11) (v := ?_) (a' := ?_) #[true, false, true, false, false, false, false, false, false, false, false, false, false, false, false, false, false, false, false, false, false, false, false, false, false, false, false, false, false, false, false] rfl rfl (take_ofW HT_.out HW_.out (by kernel_rfl)) (fun _ _ _ h => h) (Or.inl ⟨by rfl, ?_⟩) hHeld ?_ ?_
        rotate_left
        · rintro w' ⟨s0, s1, s2, s3, s4, s5, s6, s7⟩
          go_simp
          with_reducible rfl
        rotate_left
        · simp only [Act.put, List.setIfInBounds_toArray, List.set_cons_zero, List.set_cons_succ, i64_w, i32_w]
          rfl
        refine one_ (i := 1) (N := some 10) #[true, true, true, false, false, false, false, false, false, false, false, false, false, false, false, false, false, false, false, false, false, false, false, false, false, false, false, false, false, false, false] rfl rfl (one_of HT_.out (by kernel_rfl)) (by decide) (fun K hK => ?_)
        refine goes_ Try.func42 (by kernel_rfl) rfl #[.agg #[.int .i64 a0_0, .bool a0_1]] (by rfl) rfl rfl (by (try simp only [List.map_toArray, List.map_cons, List.map_nil]); first | done | rfl | (simp only [List.length_drop, List.length_take]; rfl)) ?_
        with_reducible refine (fixed_Sqrt.calls k a0_0 a0_1 t369 t370 _ A5.out).mono ?_
        rintro e w20 ⟨rfl, hb⟩
        refine ⟨_, rfl, ?_⟩
        have n0_ := Aside0.mk (blk_below (g := gb365) (o := .cells #[.int .i64 a0_0, .bool a0_1] 23 (0, 0)) (by (with_reducible repeat (first | refine blk_drewN ?_ _ | refine blk_drew ?_ | refine blk_alloc ?_ _)); exact BK365.out) hb)
        have n1_ := Aside0.mk (blk_below (g := gb366) (o := .cells #[.int .i64 a1_0, .bool a1_1] 23 (0, 0)) (by (with_reducible repeat (first | refine blk_drewN ?_ _ | refine blk_drew ?_ | refine blk_alloc ?_ _)); exact BK366.out) hb)
        have n2_ := Aside0.mk (blk_below (g := gb367) (o := .cells #[.int .i64 a2_0, .bool a2_1] 23 (0, 0)) (by (with_reducible repeat (first | refine blk_drewN ?_ _ | refine blk_drew ?_ | refine blk_alloc ?_ _)); exact BK367.out) hb)
        have n3_ := Aside0.mk (blk_below (g := gb368) (o := .cells #[.int .i64 a3_0, .bool a3_1] 23 (0, 0)) (by (with_reducible repeat (first | refine blk_drewN ?_ _ | refine blk_drew ?_ | refine blk_alloc ?_ _)); exact BK368.out) hb)
        have n4_ := Aside0.mk (below_step (by repeat (first | (with_reducible first | exact HB.out | apply below_alloc | apply pw_below_drewN | apply below_drew1 | refine below_set ?_ GE365.out | refine below_set ?_ GE366.out | refine below_set ?_ GE367.out | refine below_set ?_ GE368.out) | exact HB.out)) hb)
        clear BK365
        clear BK366
        clear BK367
        clear BK368
        clear HB
        have BK365 := n0_
        have BK366 := n1_
        have BK367 := n2_
        have BK368 := n3_
        have HB := n4_
        clear n0_ n1_ n2_ n3_ n4_
        (try clear hb)
        (try clear hb2)
        (try clear hk)
        (try clear hi)
        refine hK.out _ _ ⟨(blk_cell BK365.out 0).trans rfl, (blk_cell BK365.out 1).trans rfl, (blk_cell BK366.out 0).trans rfl, (blk_cell BK366.out 1).trans rfl, (blk_cell BK367.out 0).trans rfl, (blk_cell BK367.out 1).trans rfl, (blk_cell BK368.out 0).trans rfl, (blk_cell BK368.out 1).trans rfl⟩ (fun hHeld => ?_)
        clear hK K
        refine norm_ (a' := ?_) ?_ ?_
        rotate_left
        · show Act.put _ (some 10) _ = _
          simp only [Act.put, List.setIfInBounds_toArray, List.set_cons_zero, List.set_cons_succ, i64_w, i32_w]
          rfl
        refine one_ (i := 3) (N := some 12) #[true, true, true, true, false, false, false, false, false, false, false, false, false, false, false, false, false, false, false, false, false, false, false, false, false, false, false, false, false, false, false] rfl rfl (one_of HT_.out (by kernel_rfl)) (by decide) (fun K hK => ?_)
        refine goes_ Try.func63 (by kernel_rfl) rfl #[.agg #[.int .i64 a0_0, .bool a0_1]] (by rfl) rfl rfl (by (try simp only [List.map_toArray, List.map_cons, List.map_nil]); first | done | rfl | (simp only [List.length_drop, List.length_take]; rfl)) ?_
        with_reducible refine (bagatelleref01_Sqrt.calls k a0_0 a0_1 t371 t372 _ A6.out).mono ?_
        rintro e w21 ⟨rfl, hb⟩
        refine ⟨_, rfl, ?_⟩
        have n0_ := Aside0.mk (blk_below (g := gb365) (o := .cells #[.int .i64 a0_0, .bool a0_1] 23 (0, 0)) (by (with_reducible repeat (first | refine blk_drewN ?_ _ | refine blk_drew ?_ | refine blk_alloc ?_ _)); exact BK365.out) hb)
        have n1_ := Aside0.mk (blk_below (g := gb366) (o := .cells #[.int .i64 a1_0, .bool a1_1] 23 (0, 0)) (by (with_reducible repeat (first | refine blk_drewN ?_ _ | refine blk_drew ?_ | refine blk_alloc ?_ _)); exact BK366.out) hb)
        have n2_ := Aside0.mk (blk_below (g := gb367) (o := .cells #[.int .i64 a2_0, .bool a2_1] 23 (0, 0)) (by (with_reducible repeat (first | refine blk_drewN ?_ _ | refine blk_drew ?_ | refine blk_alloc ?_ _)); exact BK367.out) hb)
        have n3_ := Aside0.mk (blk_below (g := gb368) (o := .cells #[.int .i64 a3_0, .bool a3_1] 23 (0, 0)) (by (with_reducible repeat (first | refine blk_drewN ?_ _ | refine blk_drew ?_ | refine blk_alloc ?_ _)); exact BK368.out) hb)
        have n4_ := Aside0.mk (below_step (by repeat (first | (with_reducible first | exact HB.out | apply below_alloc | apply pw_below_drewN | apply below_drew1 | refine below_set ?_ GE365.out | refine below_set ?_ GE366.out | refine below_set ?_ GE367.out | refine below_set ?_ GE368.out) | exact HB.out)) hb)
        clear BK365
        clear BK366
        clear BK367
        clear BK368
        clear HB
        have BK365 := n0_
        have BK366 := n1_
        have BK367 := n2_
        have BK368 := n3_
        have HB := n4_
        clear n0_ n1_ n2_ n3_ n4_
        (try clear hb)
        (try clear hb2)
        (try clear hk)
        (try clear hi)
        refine hK.out _ _ ⟨(blk_cell BK365.out 0).trans rfl, (blk_cell BK365.out 1).trans rfl, (blk_cell BK366.out 0).trans rfl, (blk_cell BK366.out 1).trans rfl, (blk_cell BK367.out 0).trans rfl, (blk_cell BK367.out 1).trans rfl, (blk_cell BK368.out 0).trans rfl, (blk_cell BK368.out 1).trans rfl⟩ (fun hHeld => ?_)
        clear hK K
        refine norm_ (a' := ?_) ?_ ?_
        rotate_left
        · show Act.put _ (some 12) _ = _
          simp only [Act.put, List.setIfInBounds_toArray, List.set_cons_zero, List.set_cons_succ, i64_w, i32_w]
          rfl
        refine pure_ (i := 4) (N := some 13) (v := ?_) (a' := ?_) #[true, true, true, true, true, false, false, false, false, false, false, false, false, false, false, false, false, false, false, false, false, false, false, false, false, false, false, false, false, false, false] rfl rfl (any_of HT_.out (by kernel_rfl)) (fun _ _ _ h => h) (Or.inl ⟨by rfl, ?_⟩) ?_ ?_
        rotate_left
        · intro w'
          go_simp
          with_reducible rfl
        rotate_left
        · simp only [Act.put, List.setIfInBounds_toArray, List.set_cons_zero, List.set_cons_succ, i64_w, i32_w]
          rfl
        refine pure_ (i := 5) (N := some 14) (v := ?_) (a' := ?_) #[true, true, true, true, true, true, false, false, false, false, false, false, false, false, false, false, false, false, false, false, false, false, false, false, false, false, false, false, false, false, false] rfl rfl (any_of HT_.out (by kernel_rfl)) (fun _ _ _ h => h) (Or.inl ⟨by rfl, ?_⟩) ?_ ?_
        rotate_left
        · intro w'
          go_simp
          with_reducible rfl
        rotate_left
        · simp only [Act.put, List.setIfInBounds_toArray, List.set_cons_zero, List.set_cons_succ, i64_w, i32_w]
          rfl
        refine take_ (i := 6) (N := some 15) (v := ?_) (a' := ?_) #[true, true, true, true, true, true, true, false, false, false, false, false, false, false, false, false, false, false, false, false, false, false, false, false, false, false, false, false, false, false, false] rfl rfl (take_ofW HT_.out HW_.out (by kernel_rfl)) (fun _ _ _ h => h) (Or.inl ⟨by rfl, ?_⟩) hHeld ?_ ?_
        rotate_left
        · rintro w' ⟨s0, s1, s2, s3, s4, s5, s6, s7⟩
          go_simp
          with_reducible rfl
        rotate_left
        · simp only [Act.put, List.setIfInBounds_toArray, List.set_cons_zero, List.set_cons_succ, i64_w, i32_w]
          rfl
        refine take_ (i := 7) (N := some 16) (v := ?_) (a' := ?_) #[true, true, true, true, true, true, true, true, false, false, false, false, false, false, false, false, false, false, false, false, false, false, false, false, false, false, false, false, false, false, false] rfl rfl (take_ofW HT_.out HW_.out (by kernel_rfl)) (fun _ _ _ h => h) (Or.inl ⟨by rfl, ?_⟩) hHeld ?_ ?_
        rotate_left
        · rintro w' ⟨s0, s1, s2, s3, s4, s5, s6, s7⟩
          go_simp
          with_reducible rfl
        rotate_left
        · simp only [Act.put, List.setIfInBounds_toArray, List.set_cons_zero, List.set_cons_succ, i64_w, i32_w]
          rfl
        refine take_ (i := 9) (N := some 18) (v := ?_) (a' := ?_) #[true, true, true, true, true, true, true, true, false, true, false, false, false, false, false, false, false, false, false, false, false, false, false, false, false, false, false, false, false, false, false] rfl rfl (take_ofW HT_.out HW_.out (by kernel_rfl)) (fun _ _ _ h => h) (Or.inl ⟨by rfl, ?_⟩) hHeld ?_ ?_
        rotate_left
        · rintro w' ⟨s0, s1, s2, s3, s4, s5, s6, s7⟩
          go_simp
          with_reducible rfl
        rotate_left
        · simp only [Act.put, List.setIfInBounds_toArray, List.set_cons_zero, List.set_cons_succ, i64_w, i32_w]
          rfl
        refine take_ (i := 10) (N := some 19) (v := ?_) (a' := ?_) #[true, true, true, true, true, true, true, true, false, true, true, false, false, false, false, false, false, false, false, false, false, false, false, false, false, false, false, false, false, false, false] rfl rfl (take_ofW HT_.out HW_.out (by kernel_rfl)) (fun _ _ _ h => h) (Or.inl ⟨by rfl, ?_⟩) hHeld ?_ ?_
        rotate_left
        · rintro w' ⟨s0, s1, s2, s3, s4, s5, s6, s7⟩
          go_simp
          with_reducible rfl
        rotate_left
        · simp only [Act.put, List.setIfInBounds_toArray, List.set_cons_zero, List.set_cons_succ, i64_w, i32_w]
          rfl
        refine one_ (i := 8) (N := some 17) #[true, true, true, true, true, true, true, true, true, true, true, false, false, false, false, false, false, false, false, false, false, false, false, false, false, false, false, false, false, false, false] rfl rfl (one_of HT_.out (by kernel_rfl)) (by decide) (fun K hK => ?_)
        refine goes_ Try.func44 (by kernel_rfl) rfl #[.agg #[.int .i64 a0_0, .bool a0_1], .agg #[.int .i64 a1_0, .bool a1_1]] (by rfl) rfl rfl (by (try simp only [List.map_toArray, List.map_cons, List.map_nil]); first | done | rfl | (simp only [List.length_drop, List.length_take]; rfl)) ?_
        with_reducible refine (fixed_Hypot.calls k a0_0 a0_1 a1_0 a1_1 t373 t374 _ A8.out).mono ?_
        rintro e w22 ⟨rfl, hb⟩
        refine ⟨_, rfl, ?_⟩
        have n0_ := Aside0.mk (blk_below (g := gb365) (o := .cells #[.int .i64 a0_0, .bool a0_1] 23 (0, 0)) (by (with_reducible repeat (first | refine blk_drewN ?_ _ | refine blk_drew ?_ | refine blk_alloc ?_ _)); exact BK365.out) hb)
        have n1_ := Aside0.mk (blk_below (g := gb366) (o := .cells #[.int .i64 a1_0, .bool a1_1] 23 (0, 0)) (by (with_reducible repeat (first | refine blk_drewN ?_ _ | refine blk_drew ?_ | refine blk_alloc ?_ _)); exact BK366.out) hb)
        have n2_ := Aside0.mk (blk_below (g := gb367) (o := .cells #[.int .i64 a2_0, .bool a2_1] 23 (0, 0)) (by (with_reducible repeat (first | refine blk_drewN ?_ _ | refine blk_drew ?_ | refine blk_alloc ?_ _)); exact BK367.out) hb)
        have n3_ := Aside0.mk (blk_below (g := gb368) (o := .cells #[.int .i64 a3_0, .bool a3_1] 23 (0, 0)) (by (with_reducible repeat (first | refine blk_drewN ?_ _ | refine blk_drew ?_ | refine blk_alloc ?_ _)); exact BK368.out) hb)
        have n4_ := Aside0.mk (below_step (by repeat (first | (with_reducible first | exact HB.out | apply below_alloc | apply pw_below_drewN | apply below_drew1 | refine below_set ?_ GE365.out | refine below_set ?_ GE366.out | refine below_set ?_ GE367.out | refine below_set ?_ GE368.out) | exact HB.out)) hb)
        clear BK365
        clear BK366
        clear BK367
        clear BK368
        clear HB
        have BK365 := n0_
        have BK366 := n1_
        have BK367 := n2_
        have BK368 := n3_
        have HB := n4_
        clear n0_ n1_ n2_ n3_ n4_
        (try clear hb)
        (try clear hb2)
        (try clear hk)
        (try clear hi)
        refine hK.out _ _ ⟨(blk_cell BK365.out 0).trans rfl, (blk_cell BK365.out 1).trans rfl, (blk_cell BK366.out 0).trans rfl, (blk_cell BK366.out 1).trans rfl, (blk_cell BK367.out 0).trans rfl, (blk_cell BK367.out 1).trans rfl, (blk_cell BK368.out 0).trans rfl, (blk_cell BK368.out 1).trans rfl⟩ (fun hHeld => ?_)
        clear hK K
        refine norm_ (a' := ?_) ?_ ?_
        rotate_left
        · show Act.put _ (some 17) _ = _
          simp only [Act.put, List.setIfInBounds_toArray, List.set_cons_zero, List.set_cons_succ, i64_w, i32_w]
          rfl
        refine one_ (i := 11) (N := some 20) #[true, true, true, true, true, true, true, true, true, true, true, true, false, false, false, false, false, false, false, false, false, false, false, false, false, false, false, false, false, false, false] rfl rfl (one_of HT_.out (by kernel_rfl)) (by decide) (fun K hK => ?_)
        refine goes_ Try.func64 (by kernel_rfl) rfl #[.agg #[.int .i64 a0_0, .bool a0_1], .agg #[.int .i64 a1_0, .bool a1_1]] (by rfl) rfl rfl (by (try simp only [List.map_toArray, List.map_cons, List.map_nil]); first | done | rfl | (simp only [List.length_drop, List.length_take]; rfl)) ?_
        with_reducible refine (bagatelleref01_Hypot.calls k a0_0 a0_1 a1_0 a1_1 t375 t376 _ A9.out).mono ?_
        rintro e w23 ⟨rfl, hb⟩
        refine ⟨_, rfl, ?_⟩
        have n0_ := Aside0.mk (blk_below (g := gb365) (o := .cells #[.int .i64 a0_0, .bool a0_1] 23 (0, 0)) (by (with_reducible repeat (first | refine blk_drewN ?_ _ | refine blk_drew ?_ | refine blk_alloc ?_ _)); exact BK365.out) hb)
        have n1_ := Aside0.mk (blk_below (g := gb366) (o := .cells #[.int .i64 a1_0, .bool a1_1] 23 (0, 0)) (by (with_reducible repeat (first | refine blk_drewN ?_ _ | refine blk_drew ?_ | refine blk_alloc ?_ _)); exact BK366.out) hb)
        have n2_ := Aside0.mk (blk_below (g := gb367) (o := .cells #[.int .i64 a2_0, .bool a2_1] 23 (0, 0)) (by (with_reducible repeat (first | refine blk_drewN ?_ _ | refine blk_drew ?_ | refine blk_alloc ?_ _)); exact BK367.out) hb)
        have n3_ := Aside0.mk (blk_below (g := gb368) (o := .cells #[.int .i64 a3_0, .bool a3_1] 23 (0, 0)) (by (with_reducible repeat (first | refine blk_drewN ?_ _ | refine blk_drew ?_ | refine blk_alloc ?_ _)); exact BK368.out) hb)
        have n4_ := Aside0.mk (below_step (by repeat (first | (with_reducible first | exact HB.out | apply below_alloc | apply pw_below_drewN | apply below_drew1 | refine below_set ?_ GE365.out | refine below_set ?_ GE366.out | refine below_set ?_ GE367.out | refine below_set ?_ GE368.out) | exact HB.out)) hb)
        clear BK365
        clear BK366
        clear BK367
        clear BK368
        clear HB
        have BK365 := n0_
        have BK366 := n1_
        have BK367 := n2_
        have BK368 := n3_
        have HB := n4_
        clear n0_ n1_ n2_ n3_ n4_
        (try clear hb)
        (try clear hb2)
        (try clear hk)
        (try clear hi)
        refine hK.out _ _ ⟨(blk_cell BK365.out 0).trans rfl, (blk_cell BK365.out 1).trans rfl, (blk_cell BK366.out 0).trans rfl, (blk_cell BK366.out 1).trans rfl, (blk_cell BK367.out 0).trans rfl, (blk_cell BK367.out 1).trans rfl, (blk_cell BK368.out 0).trans rfl, (blk_cell BK368.out 1).trans rfl⟩ (fun hHeld => ?_)
        clear hK K
        refine norm_ (a' := ?_) ?_ ?_
        rotate_left
        · show Act.put _ (some 20) _ = _
          simp only [Act.put, List.setIfInBounds_toArray, List.set_cons_zero, List.set_cons_succ, i64_w, i32_w]
          rfl
        refine pure_ (i := 12) (N := some 21) (v := ?_) (a' := ?_) #[true, true, true, true, true, true, true, true, true, true, true, true, true, false, false, false, false, false, false, false, false, false, false, false, false, false, false, false, false, false, false] rfl rfl (any_of HT_.out (by kernel_rfl)) (fun _ _ _ h => h) (Or.inl ⟨by rfl, ?_⟩) ?_ ?_
        rotate_left
        · intro w'
          go_simp
          with_reducible rfl
        rotate_left
        · simp only [Act.put, List.setIfInBounds_toArray, List.set_cons_zero, List.set_cons_succ, i64_w, i32_w]
          rfl
        refine pure_ (i := 13) (N := some 22) (v := ?_) (a' := ?_) #[true, true, true, true, true, true, true, true, true, true, true, true, true, true, false, false, false, false, false, false, false, false, false, false, false, false, false, false, false, false, false] rfl rfl (any_of HT_.out (by kernel_rfl)) (fun _ _ _ h => h) (Or.inl ⟨by rfl, ?_⟩) ?_ ?_
        rotate_left
        · intro w'
          go_simp
          with_reducible rfl
        rotate_left
        · simp only [Act.put, List.setIfInBounds_toArray, List.set_cons_zero, List.set_cons_succ, i64_w, i32_w]
          rfl
        refine pure_ (i := 14) (N := some 23) (v := ?_) (a' := ?_) #[true, true, true, true, true, true, true, true, true, true, true, true, true, true, true, false, false, false, false, false, false, false, false, false, false, false, false, false, false, false, false] rfl rfl (any_of HT_.out (by kernel_rfl)) (fun _ _ _ h => h) (Or.inl ⟨by rfl, ?_⟩) ?_ ?_
        rotate_left
        · intro w'
          go_simp
          with_reducible rfl
        rotate_left
        · simp only [Act.put, List.setIfInBounds_toArray, List.set_cons_zero, List.set_cons_succ, i64_w, i32_w]
          rfl
        refine take_ (i := 15) (N := some 24) (v := ?_) (a' := ?_) #[true, true, true, true, true, true, true, true, true, true, true, true, true, true, true, true, false, false, false, false, false, false, false, false, false, false, false, false, false, false, false] rfl rfl (take_ofW HT_.out HW_.out (by kernel_rfl)) (fun _ _ _ h => h) (Or.inl ⟨by rfl, ?_⟩) hHeld ?_ ?_
        rotate_left
        · rintro w' ⟨s0, s1, s2, s3, s4, s5, s6, s7⟩
          go_simp
          with_reducible rfl
        rotate_left
        · simp only [Act.put, List.setIfInBounds_toArray, List.set_cons_zero, List.set_cons_succ, i64_w, i32_w]
          rfl
        refine take_ (i := 16) (N := some 25) (v := ?_) (a' := ?_) #[true, true, true, true, true, true, true, true, true, true, true, true, true, true, true, true, true, false, false, false, false, false, false, false, false, false, false, false, false, false, false] rfl rfl (take_ofW HT_.out HW_.out (by kernel_rfl)) (fun _ _ _ h => h) (Or.inl ⟨by rfl, ?_⟩) hHeld ?_ ?_
        rotate_left
        · rintro w' ⟨s0, s1, s2, s3, s4, s5, s6, s7⟩
          go_simp
          with_reducible rfl
        rotate_left
        · simp only [Act.put, List.setIfInBounds_toArray, List.set_cons_zero, List.set_cons_succ, i64_w, i32_w]
          rfl
        refine take_ (i := 17) (N := some 26) (v := ?_) (a' := ?_) #[true, true, true, true, true, true, true, true, true, true, true, true, true, true, true, true, true, true, false, false, false, false, false, false, false, false, false, false, false, false, false] rfl rfl (take_ofW HT_.out HW_.out (by kernel_rfl)) (fun _ _ _ h => h) (Or.inl ⟨by rfl, ?_⟩) hHeld ?_ ?_
        rotate_left
        · rintro w' ⟨s0, s1, s2, s3, s4, s5, s6, s7⟩
          go_simp
          with_reducible rfl
        rotate_left
        · simp only [Act.put, List.setIfInBounds_toArray, List.set_cons_zero, List.set_cons_succ, i64_w, i32_w]
          rfl
        refine take_ (i := 18) (N := some 27) (v := ?_) (a' := ?_) #[true, true, true, true, true, true, true, true, true, true, true, true, true, true, true, true, true, true, true, false, false, false, false, false, false, false, false, false, false, false, false] rfl rfl (take_ofW HT_.out HW_.out (by kernel_rfl)) (fun _ _ _ h => h) (Or.inl ⟨by rfl, ?_⟩) hHeld ?_ ?_
        rotate_left
        · rintro w' ⟨s0, s1, s2, s3, s4, s5, s6, s7⟩
          go_simp
          with_reducible rfl
        rotate_left
        · simp only [Act.put, List.setIfInBounds_toArray, List.set_cons_zero, List.set_cons_succ, i64_w, i32_w]
          rfl
        refine take_ (i := 20) (N := some 29) (v := ?_) (a' := ?_) #[true, true, true, true, true, true, true, true, true, true, true, true, true, true, true, true, true, true, true, false, true, false, false, false, false, false, false, false, false, false, false] rfl rfl (take_ofW HT_.out HW_.out (by kernel_rfl)) (fun _ _ _ h => h) (Or.inl ⟨by rfl, ?_⟩) hHeld ?_ ?_
        rotate_left
        · rintro w' ⟨s0, s1, s2, s3, s4, s5, s6, s7⟩
          go_simp
          with_reducible rfl
        rotate_left
        · simp only [Act.put, List.setIfInBounds_toArray, List.set_cons_zero, List.set_cons_succ, i64_w, i32_w]
          rfl
        refine take_ (i := 21) (N := some 30) (v := ?_) (a' := ?_) #[true, true, true, true, true, true, true, true, true, true, true, true, true, true, true, true, true, true, true, false, true, true, false, false, false, false, false, false, false, false, false] rfl rfl (take_ofW HT_.out HW_.out (by kernel_rfl)) (fun _ _ _ h => h) (Or.inl ⟨by rfl, ?_⟩) hHeld ?_ ?_
        rotate_left
        · rintro w' ⟨s0, s1, s2, s3, s4, s5, s6, s7⟩
          go_simp
          with_reducible rfl
        rotate_left
        · simp only [Act.put, List.setIfInBounds_toArray, List.set_cons_zero, List.set_cons_succ, i64_w, i32_w]
          rfl
        refine take_ (i := 22) (N := some 31) (v := ?_) (a' := ?_) #[true, true, true, true, true, true, true, true, true, true, true, true, true, true, true, true, true, true, true, false, true, true, true, false, false, false, false, false, false, false, false] rfl rfl (take_ofW HT_.out HW_.out (by kernel_rfl)) (fun _ _ _ h => h) (Or.inl ⟨by rfl, ?_⟩) hHeld ?_ ?_
        rotate_left
        · rintro w' ⟨s0, s1, s2, s3, s4, s5, s6, s7⟩
          go_simp
          with_reducible rfl
        rotate_left
        · simp only [Act.put, List.setIfInBounds_toArray, List.set_cons_zero, List.set_cons_succ, i64_w, i32_w]
          rfl
        refine take_ (i := 23) (N := some 32) (v := ?_) (a' := ?_) #[true, true, true, true, true, true, true, true, true, true, true, true, true, true, true, true, true, true, true, false, true, true, true, true, false, false, false, false, false, false, false] rfl rfl (take_ofW HT_.out HW_.out (by kernel_rfl)) (fun _ _ _ h => h) (Or.inl ⟨by rfl, ?_⟩) hHeld ?_ ?_
        rotate_left
        · rintro w' ⟨s0, s1, s2, s3, s4, s5, s6, s7⟩
          go_simp
          with_reducible rfl
        rotate_left
        · simp only [Act.put, List.setIfInBounds_toArray, List.set_cons_zero, List.set_cons_succ, i64_w, i32_w]
          rfl
        refine one_ (i := 19) (N := some 28) #[true, true, true, true, true, true, true, true, true, true, true, true, true, true, true, true, true, true, true, true, true, true, true, true, false, false, false, false, false, false, false] rfl rfl (one_of HT_.out (by kernel_rfl)) (by decide) (fun K hK => ?_)
        refine goes_ Try.func43 (by kernel_rfl) rfl #[.agg #[.int .i64 a0_0, .bool a0_1], .agg #[.int .i64 a1_0, .bool a1_1], .agg #[.int .i64 a2_0, .bool a2_1], .agg #[.int .i64 a3_0, .bool a3_1]] (by rfl) rfl rfl (by (try simp only [List.map_toArray, List.map_cons, List.map_nil]); first | done | rfl | (simp only [List.length_drop, List.length_take]; rfl)) ?_
        with_reducible refine (fixed_Dot.calls k a0_0 a0_1 a1_0 a1_1 a2_0 a2_1 a3_0 a3_1 t377 t378 _ A11.out).mono ?_
        rintro e w24 ⟨rfl, hb⟩
        refine ⟨_, rfl, ?_⟩
        have n0_ := Aside0.mk (blk_below (g := gb365) (o := .cells #[.int .i64 a0_0, .bool a0_1] 23 (0, 0)) (by (with_reducible repeat (first | refine blk_drewN ?_ _ | refine blk_drew ?_ | refine blk_alloc ?_ _)); exact BK365.out) hb)
        have n1_ := Aside0.mk (blk_below (g := gb366) (o := .cells #[.int .i64 a1_0, .bool a1_1] 23 (0, 0)) (by (with_reducible repeat (first | refine blk_drewN ?_ _ | refine blk_drew ?_ | refine blk_alloc ?_ _)); exact BK366.out) hb)
        have n2_ := Aside0.mk (blk_below (g := gb367) (o := .cells #[.int .i64 a2_0, .bool a2_1] 23 (0, 0)) (by (with_reducible repeat (first | refine blk_drewN ?_ _ | refine blk_drew ?_ | refine blk_alloc ?_ _)); exact BK367.out) hb)
        have n3_ := Aside0.mk (blk_below (g := gb368) (o := .cells #[.int .i64 a3_0, .bool a3_1] 23 (0, 0)) (by (with_reducible repeat (first | refine blk_drewN ?_ _ | refine blk_drew ?_ | refine blk_alloc ?_ _)); exact BK368.out) hb)
        have n4_ := Aside0.mk (below_step (by repeat (first | (with_reducible first | exact HB.out | apply below_alloc | apply pw_below_drewN | apply below_drew1 | refine below_set ?_ GE365.out | refine below_set ?_ GE366.out | refine below_set ?_ GE367.out | refine below_set ?_ GE368.out) | exact HB.out)) hb)
        clear BK365
        clear BK366
        clear BK367
        clear BK368
        clear HB
        have BK365 := n0_
        have BK366 := n1_
        have BK367 := n2_
        have BK368 := n3_
        have HB := n4_
        clear n0_ n1_ n2_ n3_ n4_
        (try clear hb)
        (try clear hb2)
        (try clear hk)
        (try clear hi)
        refine hK.out _ _ ⟨(blk_cell BK365.out 0).trans rfl, (blk_cell BK365.out 1).trans rfl, (blk_cell BK366.out 0).trans rfl, (blk_cell BK366.out 1).trans rfl, (blk_cell BK367.out 0).trans rfl, (blk_cell BK367.out 1).trans rfl, (blk_cell BK368.out 0).trans rfl, (blk_cell BK368.out 1).trans rfl⟩ (fun hHeld => ?_)
        clear hK K
        refine norm_ (a' := ?_) ?_ ?_
        rotate_left
        · show Act.put _ (some 28) _ = _
          simp only [Act.put, List.setIfInBounds_toArray, List.set_cons_zero, List.set_cons_succ, i64_w, i32_w]
          rfl
        refine one_ (i := 24) (N := some 33) #[true, true, true, true, true, true, true, true, true, true, true, true, true, true, true, true, true, true, true, true, true, true, true, true, true, false, false, false, false, false, false] rfl rfl (one_of HT_.out (by kernel_rfl)) (by decide) (fun K hK => ?_)
        refine goes_ Try.func65 (by kernel_rfl) rfl #[.agg #[.int .i64 a0_0, .bool a0_1], .agg #[.int .i64 a1_0, .bool a1_1], .agg #[.int .i64 a2_0, .bool a2_1], .agg #[.int .i64 a3_0, .bool a3_1]] (by rfl) rfl rfl (by (try simp only [List.map_toArray, List.map_cons, List.map_nil]); first | done | rfl | (simp only [List.length_drop, List.length_take]; rfl)) ?_
        with_reducible refine (bagatelleref01_Dot.calls k a0_0 a0_1 a1_0 a1_1 a2_0 a2_1 a3_0 a3_1 t379 t380 _ A12.out).mono ?_
        rintro e w25 ⟨rfl, hb⟩
        refine ⟨_, rfl, ?_⟩
        have n0_ := Aside0.mk (blk_below (g := gb365) (o := .cells #[.int .i64 a0_0, .bool a0_1] 23 (0, 0)) (by (with_reducible repeat (first | refine blk_drewN ?_ _ | refine blk_drew ?_ | refine blk_alloc ?_ _)); exact BK365.out) hb)
        have n1_ := Aside0.mk (blk_below (g := gb366) (o := .cells #[.int .i64 a1_0, .bool a1_1] 23 (0, 0)) (by (with_reducible repeat (first | refine blk_drewN ?_ _ | refine blk_drew ?_ | refine blk_alloc ?_ _)); exact BK366.out) hb)
        have n2_ := Aside0.mk (blk_below (g := gb367) (o := .cells #[.int .i64 a2_0, .bool a2_1] 23 (0, 0)) (by (with_reducible repeat (first | refine blk_drewN ?_ _ | refine blk_drew ?_ | refine blk_alloc ?_ _)); exact BK367.out) hb)
        have n3_ := Aside0.mk (blk_below (g := gb368) (o := .cells #[.int .i64 a3_0, .bool a3_1] 23 (0, 0)) (by (with_reducible repeat (first | refine blk_drewN ?_ _ | refine blk_drew ?_ | refine blk_alloc ?_ _)); exact BK368.out) hb)
        have n4_ := Aside0.mk (below_step (by repeat (first | (with_reducible first | exact HB.out | apply below_alloc | apply pw_below_drewN | apply below_drew1 | refine below_set ?_ GE365.out | refine below_set ?_ GE366.out | refine below_set ?_ GE367.out | refine below_set ?_ GE368.out) | exact HB.out)) hb)
        clear BK365
        clear BK366
        clear BK367
        clear BK368
        clear HB
        have BK365 := n0_
        have BK366 := n1_
        have BK367 := n2_
        have BK368 := n3_
        have HB := n4_
        clear n0_ n1_ n2_ n3_ n4_
        (try clear hb)
        (try clear hb2)
        (try clear hk)
        (try clear hi)
        refine hK.out _ _ ⟨(blk_cell BK365.out 0).trans rfl, (blk_cell BK365.out 1).trans rfl, (blk_cell BK366.out 0).trans rfl, (blk_cell BK366.out 1).trans rfl, (blk_cell BK367.out 0).trans rfl, (blk_cell BK367.out 1).trans rfl, (blk_cell BK368.out 0).trans rfl, (blk_cell BK368.out 1).trans rfl⟩ (fun hHeld => ?_)
        clear hK K
        refine norm_ (a' := ?_) ?_ ?_
        rotate_left
        · show Act.put _ (some 33) _ = _
          simp only [Act.put, List.setIfInBounds_toArray, List.set_cons_zero, List.set_cons_succ, i64_w, i32_w]
          rfl
        refine pure_ (i := 25) (N := some 34) (v := ?_) (a' := ?_) #[true, true, true, true, true, true, true, true, true, true, true, true, true, true, true, true, true, true, true, true, true, true, true, true, true, true, false, false, false, false, false] rfl rfl (any_of HT_.out (by kernel_rfl)) (fun _ _ _ h => h) (Or.inl ⟨by rfl, ?_⟩) ?_ ?_
        rotate_left
        · intro w'
          go_simp
          with_reducible rfl
        rotate_left
        · simp only [Act.put, List.setIfInBounds_toArray, List.set_cons_zero, List.set_cons_succ, i64_w, i32_w]
          rfl
        refine pure_ (i := 26) (N := some 35) (v := ?_) (a' := ?_) #[true, true, true, true, true, true, true, true, true, true, true, true, true, true, true, true, true, true, true, true, true, true, true, true, true, true, true, false, false, false, false] rfl rfl (any_of HT_.out (by kernel_rfl)) (fun _ _ _ h => h) (Or.inl ⟨by rfl, ?_⟩) ?_ ?_
        rotate_left
        · intro w'
          go_simp
          with_reducible rfl
        rotate_left
        · simp only [Act.put, List.setIfInBounds_toArray, List.set_cons_zero, List.set_cons_succ, i64_w, i32_w]
          rfl
        refine pure_ (i := 27) (N := some 36) (v := ?_) (a' := ?_) #[true, true, true, true, true, true, true, true, true, true, true, true, true, true, true, true, true, true, true, true, true, true, true, true, true, true, true, true, false, false, false] rfl rfl (any_of HT_.out (by kernel_rfl)) (fun _ _ _ h => h) (Or.inl ⟨by rfl, ?_⟩) ?_ ?_
        rotate_left
        · intro w'
          go_simp
          with_reducible rfl
        rotate_left
        · simp only [Act.put, List.setIfInBounds_toArray, List.set_cons_zero, List.set_cons_succ, i64_w, i32_w]
          rfl
        refine one_ (i := 28) (N := some 37) #[true, true, true, true, true, true, true, true, true, true, true, true, true, true, true, true, true, true, true, true, true, true, true, true, true, true, true, true, true, false, false] rfl rfl (one_of HT_.out (by kernel_rfl)) (by decide) (fun K hK => ?_)
        refine goes_ Try.func23 (by kernel_rfl) rfl #[] (by rfl) rfl rfl (by (try simp only [List.map_toArray, List.map_cons, List.map_nil]); first | done | rfl | (simp only [List.length_drop, List.length_take]; rfl)) ?_
        with_reducible refine (bagatellelaw01_awake.calls k  t381 _ A14.out).mono ?_
        rintro e w26 ⟨rfl, hb⟩
        refine ⟨_, rfl, ?_⟩
        have n0_ := Aside0.mk (blk_below (g := gb365) (o := .cells #[.int .i64 a0_0, .bool a0_1] 23 (0, 0)) (by (with_reducible repeat (first | refine blk_drewN ?_ _ | refine blk_drew ?_ | refine blk_alloc ?_ _)); exact BK365.out) hb)
        have n1_ := Aside0.mk (blk_below (g := gb366) (o := .cells #[.int .i64 a1_0, .bool a1_1] 23 (0, 0)) (by (with_reducible repeat (first | refine blk_drewN ?_ _ | refine blk_drew ?_ | refine blk_alloc ?_ _)); exact BK366.out) hb)
        have n2_ := Aside0.mk (blk_below (g := gb367) (o := .cells #[.int .i64 a2_0, .bool a2_1] 23 (0, 0)) (by (with_reducible repeat (first | refine blk_drewN ?_ _ | refine blk_drew ?_ | refine blk_alloc ?_ _)); exact BK367.out) hb)
        have n3_ := Aside0.mk (blk_below (g := gb368) (o := .cells #[.int .i64 a3_0, .bool a3_1] 23 (0, 0)) (by (with_reducible repeat (first | refine blk_drewN ?_ _ | refine blk_drew ?_ | refine blk_alloc ?_ _)); exact BK368.out) hb)
        have n4_ := Aside0.mk (below_step (by repeat (first | (with_reducible first | exact HB.out | apply below_alloc | apply pw_below_drewN | apply below_drew1 | refine below_set ?_ GE365.out | refine below_set ?_ GE366.out | refine below_set ?_ GE367.out | refine below_set ?_ GE368.out) | exact HB.out)) hb)
        clear BK365
        clear BK366
        clear BK367
        clear BK368
        clear HB
        have BK365 := n0_
        have BK366 := n1_
        have BK367 := n2_
        have BK368 := n3_
        have HB := n4_
        clear n0_ n1_ n2_ n3_ n4_
        (try clear hb)
        (try clear hb2)
        (try clear hk)
        (try clear hi)
        refine hK.out _ _ ⟨(blk_cell BK365.out 0).trans rfl, (blk_cell BK365.out 1).trans rfl, (blk_cell BK366.out 0).trans rfl, (blk_cell BK366.out 1).trans rfl, (blk_cell BK367.out 0).trans rfl, (blk_cell BK367.out 1).trans rfl, (blk_cell BK368.out 0).trans rfl, (blk_cell BK368.out 1).trans rfl⟩ (fun hHeld => ?_)
        clear hK K
        refine norm_ (a' := ?_) ?_ ?_
        rotate_left
        · show Act.put _ (some 37) _ = _
          simp only [Act.put, List.setIfInBounds_toArray, List.set_cons_zero, List.set_cons_succ, i64_w, i32_w]
          rfl
        refine pure_ (i := 29) (N := some 38) (v := ?_) (a' := ?_) #[true, true, true, true, true, true, true, true, true, true, true, true, true, true, true, true, true, true, true, true, true, true, true, true, true, true, true, true, true, true, false] rfl rfl (any_of HT_.out (by kernel_rfl)) (fun _ _ _ h => h) (Or.inl ⟨by rfl, ?_⟩) ?_ ?_
        rotate_left
        · intro w'
          go_simp
          with_reducible rfl
        rotate_left
        · simp only [Act.put, List.setIfInBounds_toArray, List.set_cons_zero, List.set_cons_succ, i64_w, i32_w]
          rfl
        refine pure_ (i := 30) (N := some 8) (v := ?_) (a' := ?_) #[true, true, true, true, true, true, true, true, true, true, true, true, true, true, true, true, true, true, true, true, true, true, true, true, true, true, true, true, true, true, true] rfl rfl (any_of HT_.out (by kernel_rfl)) (fun _ _ _ h => h) (Or.inl ⟨by rfl, ?_⟩) ?_ ?_
        rotate_left
        · intro w'
          go_simp
          with_reducible rfl
        rotate_left
        · simp only [Act.put, List.setIfInBounds_toArray, List.set_cons_zero, List.set_cons_succ, i64_w, i32_w]
          rfl
        refine done_ (done_of HT_.out (by kernel_rfl)) ?_
        try go_wp2
        go_ret
        exact ⟨by first | rfl | (simp [errW_none, errW_some] <;> rfl) | (simp [*, errW_none, errW_some] <;> rfl), by repeat (first | (with_reducible first | exact HB.out | apply below_alloc | apply pw_below_drewN | apply below_drew1 | refine below_set ?_ GE365.out | refine below_set ?_ GE366.out | refine below_set ?_ GE367.out | refine below_set ?_ GE368.out) | exact HB.out)⟩
      · rw [if_neg c13] at H
        have c13b0 : (t377 == t379 && (t378 == t380)) = false := by simpa using c13
        (try (have c13b1 : decide (t377 = t379 && (t378 == t380)) = false := by simpa using c13))
        (try (have c13b2 : (t377 == t379 && (t378 == t380)) = false := by simpa using c13))
        (try (have c13b3 : ¬ (t377 = t379 && (t378 == t380)) := by simpa using c13))
        clear c13
        exact absurd H (by simp)
    · rw [if_neg c10] at H
      have c10b0 : (t373 == t375 && (t374 == t376)) = false := by simpa using c10
      (try (have c10b1 : decide (t373 = t375 && (t374 == t376)) = false := by simpa using c10))
      (try (have c10b2 : (t373 == t375 && (t374 == t376)) = false := by simpa using c10))
      (try (have c10b3 : ¬ (t373 = t375 && (t374 == t376)) := by simpa using c10))
      clear c10
      exact absurd H (by simp)
  · rw [if_neg c7] at H
    have c7b0 : (t369 == t371 && (t370 == t372)) = false := by simpa using c7
    (try (have c7b1 : decide (t369 = t371 && (t370 == t372)) = false := by simpa using c7))
    (try (have c7b2 : (t369 == t371 && (t370 == t372)) = false := by simpa using c7))
    (try (have c7b3 : ¬ (t369 = t371 && (t370 == t372)) := by simpa using c7))
    clear c7
    exact absurd H (by simp)
end Go.Proofs.Ytenpiaafkmfjfaa.B

end
section
namespace Go.Proofs.Ytenpiaafkmfjfaa.B
open Go.RowKit
theorem sqrt_both (k : Nat) (hk : 18446744073709551660 ≤ k) {a : Int} (f : Bool) (ha : I64 a) : ∃ r, fixed_Sqrt.f k a f = some r ∧ bagatelleref01_Sqrt.f k a f = some r := by
  by_cases h : sv a < 0
  · exact ⟨_, sqrt_neg k f h, sqrt_negr k f h⟩
  · exact ⟨_, sqrt_f k hk f ha h, sqrt_r k (by omega) f ha h⟩
theorem fixedRoots_f (k : Nat) (hk : 18446744073709551660 ≤ k) {a b c d : Int} (fa fb fc fd : Bool) (ha : I64 a) (hb : I64 b) (hc : I64 c) (hd : I64 d) : bagatellelaw01_FixedRoots.f k a fa b fb c fc d fd = some true := by
  unfold bagatellelaw01_FixedRoots.f
  obtain ⟨r, e1, e2⟩ := sqrt_both k hk fa ha
  rw [e1, Option.bind_some, e2, Option.bind_some, if_pos (by simp), hypot_f k hk fa fb ha hb, Option.bind_some, hypot_r k (by omega) fa fb ha hb, Option.bind_some]
  dsimp only
  rw [if_pos (by simp), dot_f k (by omega) fa fb fc fd ha hb hc hd, Option.bind_some, dot_r k (by omega) fa fb fc fd ha hb hc hd, Option.bind_some]
  dsimp only
  rw [if_pos (by simp), awake_f k (by omega)]
  rfl
theorem fixedRoots_walk (a : Int) (fa : Bool) (b : Int) (fb : Bool) (c : Int) (fc : Bool) (d : Int) (fd : Bool) (w : World) (ha : I64 a) (hb : I64 b) (hc : I64 c) (hd : I64 d) :
    Calls Try.prog 10 #[.agg #[.int .i64 a, .bool fa], .agg #[.int .i64 b, .bool fb], .agg #[.int .i64 c, .bool fc], .agg #[.int .i64 d, .bool fd]] w fun e w' => e = .returned (.bool true) ∧ Below w.heap.size w w' :=
  bagatellelaw01_FixedRoots.calls 18446744073709551660 a fa b fb c fc d fd true w (fixedRoots_f 18446744073709551660 (Nat.le_refl _) fa fb fc fd ha hb hc hd)
end Go.Proofs.Ytenpiaafkmfjfaa.B

end
section
namespace Go.Proofs.Ytenpiaafkmfjfaa.B
open Go.ChangeShapes Go.WideShapes Go.ChangeAt Go.RowKit Go.Joins
open Go.ChangeMaps (open_string shut_string)
set_option linter.unusedVariables false
set_option maxRecDepth 100000 in
theorem fixedRoots_lifted (os : Os) (started : os.Started) (H : Type) (enc : TypeId × Value → H) :
    ReturnsInHanded {} Try.checked os 10 .any (Rows.fixedRootsSpec.pre6 enc Try.prog Try.f10 Rows.fixedRootsRow.domain false) (Rows.fixedRootsSpec.post enc Try.prog Try.f10 false true false false) := by
  refine returnsInHanded_of_change_sized (C := Try.checked) own started (by kernel_rfl) Try.func10
    (ChangeSpec.witness6 (enc := enc) (C := Try.checked) false ⟨#[], #[.agg #[.int .i64 0, .bool false], .agg #[.int .i64 0, .bool false], .agg #[.int .i64 0, .bool false], .agg #[.int .i64 0, .bool false]], []⟩ 8 (by kernel_rfl) (by kernel_rfl) (by kernel_rfl) (by kernel_rfl)) ?_
  intro W base args ds gs before hval0 hW hcnd hsz0 _
  have hsz : (DataW.weightsEach Try.prog (Try.f10.params.toList ++ Rows.fixedRootsSpec.plain.varTypes Try.prog) (ds ++ gs)).all (· ≤ reachBytes) = true := hsz0
  have hval : ∀ (j : Nat) t v, Try.f10.params[j]? = some t → args[j]? = some v → Value.okWide Try.prog W .any base t v := hval0
  have hW' := hW
  obtain ⟨p, q, hA0, hV, rfl, hfz, hnd⟩ := hW
  have hA : DataW.TrodAll enc Try.prog W 0 (fun _ => true) true Try.f10.params.toList args.toList ds p := hA0
  rw [Try.params10] at hA hval hsz
  obtain ⟨v0, vs0, d0, ds0, p0, q0, hargs, rfl, rfl, h0, r0⟩ := trodAll_cons hA
  obtain ⟨v1, vs1, d1, ds1, p1, q1, rfl, rfl, rfl, h1, r1⟩ := trodAll_cons r0
  obtain ⟨v2, vs2, d2, ds2, p2, q2, rfl, rfl, rfl, h2, r2⟩ := trodAll_cons r1
  obtain ⟨v3, vs3, d3, ds3, p3, q3, rfl, rfl, rfl, h3, r3⟩ := trodAll_cons r2
  obtain ⟨rfl, rfl, rfl⟩ := trodAll_nil r3
  obtain rfl : args = #[v0, v1, v2, v3] := by cases args; simp_all
  obtain ⟨rfl, rfl⟩ := trodVars_none hV
  obtain ⟨a0, f0, rfl, rfl, rfl, w0⟩ := open_num (hval 0 23 v0 rfl rfl) h0
  obtain ⟨a1, f1, rfl, rfl, rfl, w1⟩ := open_num (hval 1 23 v1 rfl rfl) h1
  obtain ⟨a2, f2, rfl, rfl, rfl, w2⟩ := open_num (hval 2 23 v2 rfl rfl) h2
  obtain ⟨a3, f3, rfl, rfl, rfl, w3⟩ := open_num (hval 3 23 v3 rfl rfl) h3
  clear hA0 hval0 hsz0 hsz
  refine (fixedRoots_walk a0 f0 a1 f1 a2 f2 a3 f3 W (wf_i64 w0) (wf_i64 w1) (wf_i64 w2) (wf_i64 w3)).mono fun e W' ⟨he, bel⟩ => ?_
  subst he
  exact ⟨_, rfl, _, _, _, [], _, [], hW', trodAll_mk1 (shut_bool Try.underlying4 _), (trodAll_cons_mk (shut_num a0 f0 w0) (trodAll_cons_mk (shut_num a1 f1 w1) (trodAll_cons_mk (shut_num a2 f2 w2) (trodAll_cons_mk (shut_num a3 f3 w3) trodAll_mk0)))), rfl, bel.frame _, fun h => by cases h⟩
theorem fixedRoots_over : Rows.fixedRootsRow.holds Try.pinned (OpenSpec.ofChange Rows.fixedRootsSpec) :=
  OpenClaim.holds_of_wide 10 Try.f10 rfl rfl rfl rfl rfl rfl rfl ⟨rfl, rfl, rfl, rfl, rfl⟩ rfl rfl rfl rfl rfl (by kernel_rfl) Try.func10 (by kernel_rfl)
    (of_decide_eq_true (by kernel_rfl)) (by unfold Func.isWrapper; first | (rw [if_pos (by decide +kernel)]; kernel_rfl) | (rw [if_neg (by decide +kernel)]; exact ⟨rfl, rfl⟩))
    (fun os started H enc _ => fixedRoots_lifted os started H enc)
end Go.Proofs.Ytenpiaafkmfjfaa.B
namespace Go.Proofs.Ytenpiaafkmfjfaa
theorem fixedRoots_holds : Rows.FixedRootsSaid := B.fixedRoots_over
end Go.Proofs.Ytenpiaafkmfjfaa

end
#print axioms Go.Proofs.Ytenpiaafkmfjfaa.fixedRoots_holds
