/- FixedRoots: part 4 of the proof. -/
import Derived.Test.YtenpiaafkmfjfaaQFixedRoots3
section
namespace Go.Proofs.Ytenpiaafkmfjfaa.B
open Go.RowKit Go.Proofs.YtenpiaafkmfjfaaW.PrintWords Go.Proofs.YtenpiaafkmfjfaaW.PrintLast Go.Proofs.YtenpiaafkmfjfaaW.PrintMore
attribute [local go_sem] max2_int min2_int max_two min_two max_three min_three max_four min_four
set_option linter.unusedVariables false
set_option linter.unusedSimpArgs false
attribute [local go_sem high] eqA64
def bagatelleref01_whole.f (a0_0 : Int) (a0_1 : Bool) : Option (Int × Bool) := if a0_0 = (-9223372036854775808) then (some ((-9223372036854775807), true)) else (some (a0_0, a0_1))
set_option maxHeartbeats 8000000 in
set_option maxRecDepth 100000 in
theorem bagatelleref01_whole.calls (a0_0 : Int) (a0_1 : Bool) (r1 : Int) (r2 : Bool) (w : World) (h : bagatelleref01_whole.f a0_0 a0_1 = some (r1, r2)) :
    Calls Try.prog 73 #[.agg #[.int .i64 a0_0, .bool a0_1]] w fun e w' => e = .returned (.tuple #[.int .i64 r1, .bool r2]) ∧ Below w.heap.size w w' := by
  have hu23 := Try.underlying23
  have HB := Aside0.mk (Below.refl w.heap.size w)
  have H : (if a0_0 = (-9223372036854775808) then (some ((-9223372036854775807), true)) else (some (a0_0, a0_1))) = some (r1, r2) := h
  clear h
  by_cases c2 : a0_0 = (-9223372036854775808)
  · rw [if_pos c2] at H
    have c2b0 : (a0_0 == (-9223372036854775808)) = true := beq_iff_eq.mpr c2
    have c2b1 : (a0_0 != (-9223372036854775808)) = false := bne_eq_false_iff_eq.mpr c2
    clear c2
    simp only [Option.some.injEq, Prod.mk.injEq] at H
    obtain ⟨rfl, rfl⟩ := H
    go_enter Try.func73, Try.ntmps73
    go_wp2_with (first | ((with_reducible refine gate_dst (N := 1) rfl ?_); refine box_event ?hg (N := 1) ?hd (cs := #[.int .i64 a0_0, .bool a0_1]) (t := 23) ?hr ?_; (case hd => rfl); (case hg => rfl); (case hr => first | (go_simp; done) | (go_simp; rfl)); intro gb443 hg w3 hbox hb; have n0_ := Aside0.mk (below_step (by repeat (first | (with_reducible first | exact HB.out | apply below_alloc | apply pw_below_drewN | apply below_drew1) | exact HB.out)) hb); have n1_ := Aside0.mk (hbox); have n2_ := Aside0.mk ((by rw [hg]; exact (below_size (by repeat (first | (with_reducible first | exact HB.out | apply below_alloc | apply pw_below_drewN | apply below_drew1) | exact HB.out))) : w.heap.size ≤ gb443)); have n3_ := Aside0.mk ((by rw [hg]; exact (below_size (by repeat (first | (with_reducible first | exact HB.out | apply below_alloc | apply pw_below_drewN | apply below_drew1) | exact HB.out))) : w.heap.size ≤ gb443)); clear HB; have HB := n0_; have BK443 := n1_; have GW443 := n2_; have GE443 := n3_; clear n0_ n1_ n2_ n3_; clear hb hbox hg; have hcz4_0 : w3.cell? ⟨gb443, 0, none⟩ = some (.int .i64 a0_0) := (blk_cell BK443.out 0).trans rfl; have hcz4_1 : w3.cell? ⟨gb443, 1, none⟩ = some (.bool a0_1) := (blk_cell BK443.out 1).trans rfl; have hfz4_0 := blk_frozen BK443.out 0; have hfz4_1 := blk_frozen BK443.out 1))
    repeat (go_quiet (first | ((with_reducible refine gate_dst (N := 1) rfl ?_); refine box_event ?hg (N := 1) ?hd (cs := #[.int .i64 a0_0, .bool a0_1]) (t := 23) ?hr ?_; (case hd => rfl); (case hg => rfl); (case hr => first | (go_simp; done) | (go_simp; rfl)); intro gb443 hg w3 hbox hb; have n0_ := Aside0.mk (below_step (by repeat (first | (with_reducible first | exact HB.out | apply below_alloc | apply pw_below_drewN | apply below_drew1) | exact HB.out)) hb); have n1_ := Aside0.mk (hbox); have n2_ := Aside0.mk ((by rw [hg]; exact (below_size (by repeat (first | (with_reducible first | exact HB.out | apply below_alloc | apply pw_below_drewN | apply below_drew1) | exact HB.out))) : w.heap.size ≤ gb443)); have n3_ := Aside0.mk ((by rw [hg]; exact (below_size (by repeat (first | (with_reducible first | exact HB.out | apply below_alloc | apply pw_below_drewN | apply below_drew1) | exact HB.out))) : w.heap.size ≤ gb443)); clear HB; have HB := n0_; have BK443 := n1_; have GW443 := n2_; have GE443 := n3_; clear n0_ n1_ n2_ n3_; clear hb hbox hg; have hcz4_0 : w3.cell? ⟨gb443, 0, none⟩ = some (.int .i64 a0_0) := (blk_cell BK443.out 0).trans rfl; have hcz4_1 : w3.cell? ⟨gb443, 1, none⟩ = some (.bool a0_1) := (blk_cell BK443.out 1).trans rfl; have hfz4_0 := blk_frozen BK443.out 0; have hfz4_1 := blk_frozen BK443.out 1)); try go_wp2_with (first | ((with_reducible refine gate_dst (N := 1) rfl ?_); refine box_event ?hg (N := 1) ?hd (cs := #[.int .i64 a0_0, .bool a0_1]) (t := 23) ?hr ?_; (case hd => rfl); (case hg => rfl); (case hr => first | (go_simp; done) | (go_simp; rfl)); intro gb443 hg w3 hbox hb; have n0_ := Aside0.mk (below_step (by repeat (first | (with_reducible first | exact HB.out | apply below_alloc | apply pw_below_drewN | apply below_drew1) | exact HB.out)) hb); have n1_ := Aside0.mk (hbox); have n2_ := Aside0.mk ((by rw [hg]; exact (below_size (by repeat (first | (with_reducible first | exact HB.out | apply below_alloc | apply pw_below_drewN | apply below_drew1) | exact HB.out))) : w.heap.size ≤ gb443)); have n3_ := Aside0.mk ((by rw [hg]; exact (below_size (by repeat (first | (with_reducible first | exact HB.out | apply below_alloc | apply pw_below_drewN | apply below_drew1) | exact HB.out))) : w.heap.size ≤ gb443)); clear HB; have HB := n0_; have BK443 := n1_; have GW443 := n2_; have GE443 := n3_; clear n0_ n1_ n2_ n3_; clear hb hbox hg; have hcz4_0 : w3.cell? ⟨gb443, 0, none⟩ = some (.int .i64 a0_0) := (blk_cell BK443.out 0).trans rfl; have hcz4_1 : w3.cell? ⟨gb443, 1, none⟩ = some (.bool a0_1) := (blk_cell BK443.out 1).trans rfl; have hfz4_0 := blk_frozen BK443.out 0; have hfz4_1 := blk_frozen BK443.out 1)))
    go_ret2
    exact ⟨by first | rfl | (simp [errW_none, errW_some] <;> rfl) | (simp [*, errW_none, errW_some] <;> rfl), by repeat (first | (with_reducible first | exact HB.out | apply below_alloc | apply pw_below_drewN | apply below_drew1 | refine below_set ?_ GE443.out) | exact HB.out)⟩
  · rw [if_neg c2] at H
    have c2b0 : (a0_0 == (-9223372036854775808)) = false := beq_eq_false_iff_ne.mpr c2
    have c2b1 : (a0_0 != (-9223372036854775808)) = true := bne_iff_ne.mpr c2
    simp only [Option.some.injEq, Prod.mk.injEq] at H
    obtain ⟨rfl, rfl⟩ := H
    go_enter Try.func73, Try.ntmps73
    go_wp2_with (first | ((with_reducible refine gate_dst (N := 1) rfl ?_); refine box_event ?hg (N := 1) ?hd (cs := #[.int .i64 a0_0, .bool a0_1]) (t := 23) ?hr ?_; (case hd => rfl); (case hg => rfl); (case hr => first | (go_simp; done) | (go_simp; rfl)); intro gb443 hg w5 hbox hb; have n0_ := Aside0.mk (below_step (by repeat (first | (with_reducible first | exact HB.out | apply below_alloc | apply pw_below_drewN | apply below_drew1) | exact HB.out)) hb); have n1_ := Aside0.mk (hbox); have n2_ := Aside0.mk ((by rw [hg]; exact (below_size (by repeat (first | (with_reducible first | exact HB.out | apply below_alloc | apply pw_below_drewN | apply below_drew1) | exact HB.out))) : w.heap.size ≤ gb443)); have n3_ := Aside0.mk ((by rw [hg]; exact (below_size (by repeat (first | (with_reducible first | exact HB.out | apply below_alloc | apply pw_below_drewN | apply below_drew1) | exact HB.out))) : w.heap.size ≤ gb443)); clear HB; have HB := n0_; have BK443 := n1_; have GW443 := n2_; have GE443 := n3_; clear n0_ n1_ n2_ n3_; clear hb hbox hg; have hcz6_0 : w5.cell? ⟨gb443, 0, none⟩ = some (.int .i64 a0_0) := (blk_cell BK443.out 0).trans rfl; have hcz6_1 : w5.cell? ⟨gb443, 1, none⟩ = some (.bool a0_1) := (blk_cell BK443.out 1).trans rfl; have hfz6_0 := blk_frozen BK443.out 0; have hfz6_1 := blk_frozen BK443.out 1))
    repeat (go_quiet (first | ((with_reducible refine gate_dst (N := 1) rfl ?_); refine box_event ?hg (N := 1) ?hd (cs := #[.int .i64 a0_0, .bool a0_1]) (t := 23) ?hr ?_; (case hd => rfl); (case hg => rfl); (case hr => first | (go_simp; done) | (go_simp; rfl)); intro gb443 hg w5 hbox hb; have n0_ := Aside0.mk (below_step (by repeat (first | (with_reducible first | exact HB.out | apply below_alloc | apply pw_below_drewN | apply below_drew1) | exact HB.out)) hb); have n1_ := Aside0.mk (hbox); have n2_ := Aside0.mk ((by rw [hg]; exact (below_size (by repeat (first | (with_reducible first | exact HB.out | apply below_alloc | apply pw_below_drewN | apply below_drew1) | exact HB.out))) : w.heap.size ≤ gb443)); have n3_ := Aside0.mk ((by rw [hg]; exact (below_size (by repeat (first | (with_reducible first | exact HB.out | apply below_alloc | apply pw_below_drewN | apply below_drew1) | exact HB.out))) : w.heap.size ≤ gb443)); clear HB; have HB := n0_; have BK443 := n1_; have GW443 := n2_; have GE443 := n3_; clear n0_ n1_ n2_ n3_; clear hb hbox hg; have hcz6_0 : w5.cell? ⟨gb443, 0, none⟩ = some (.int .i64 a0_0) := (blk_cell BK443.out 0).trans rfl; have hcz6_1 : w5.cell? ⟨gb443, 1, none⟩ = some (.bool a0_1) := (blk_cell BK443.out 1).trans rfl; have hfz6_0 := blk_frozen BK443.out 0; have hfz6_1 := blk_frozen BK443.out 1)); try go_wp2_with (first | ((with_reducible refine gate_dst (N := 1) rfl ?_); refine box_event ?hg (N := 1) ?hd (cs := #[.int .i64 a0_0, .bool a0_1]) (t := 23) ?hr ?_; (case hd => rfl); (case hg => rfl); (case hr => first | (go_simp; done) | (go_simp; rfl)); intro gb443 hg w5 hbox hb; have n0_ := Aside0.mk (below_step (by repeat (first | (with_reducible first | exact HB.out | apply below_alloc | apply pw_below_drewN | apply below_drew1) | exact HB.out)) hb); have n1_ := Aside0.mk (hbox); have n2_ := Aside0.mk ((by rw [hg]; exact (below_size (by repeat (first | (with_reducible first | exact HB.out | apply below_alloc | apply pw_below_drewN | apply below_drew1) | exact HB.out))) : w.heap.size ≤ gb443)); have n3_ := Aside0.mk ((by rw [hg]; exact (below_size (by repeat (first | (with_reducible first | exact HB.out | apply below_alloc | apply pw_below_drewN | apply below_drew1) | exact HB.out))) : w.heap.size ≤ gb443)); clear HB; have HB := n0_; have BK443 := n1_; have GW443 := n2_; have GE443 := n3_; clear n0_ n1_ n2_ n3_; clear hb hbox hg; have hcz6_0 : w5.cell? ⟨gb443, 0, none⟩ = some (.int .i64 a0_0) := (blk_cell BK443.out 0).trans rfl; have hcz6_1 : w5.cell? ⟨gb443, 1, none⟩ = some (.bool a0_1) := (blk_cell BK443.out 1).trans rfl; have hfz6_0 := blk_frozen BK443.out 0; have hfz6_1 := blk_frozen BK443.out 1)))
    go_ret2
    exact ⟨by first | rfl | (simp [errW_none, errW_some] <;> rfl) | (simp [*, errW_none, errW_some] <;> rfl), by repeat (first | (with_reducible first | exact HB.out | apply below_alloc | apply pw_below_drewN | apply below_drew1 | refine below_set ?_ GE443.out) | exact HB.out)⟩
def bagatelleref01_size.f (a0 : Int) : Option (Int) := if a0 < 0 then (some (IntKind.u64.wrap (wrap64 (-a0)))) else (some (IntKind.u64.wrap (a0)))
set_option maxHeartbeats 8000000 in
set_option maxRecDepth 100000 in
theorem bagatelleref01_size.calls (a0 : Int) (r : Int) (w : World) (h : bagatelleref01_size.f a0 = some r) :
    Calls Try.prog 98 #[.int .i64 a0] w fun e w' => e = .returned (.int .u64 r) ∧ Drawn0 w w' := by
  have H : (if a0 < 0 then (some (IntKind.u64.wrap (wrap64 (-a0)))) else (some (IntKind.u64.wrap (a0)))) = some r := h
  clear h
  by_cases c2 : a0 < 0
  · rw [if_pos c2] at H
    have c2b0 : decide (a0 < 0) = true := decide_eq_true c2
    clear c2
    obtain rfl := Option.some.inj H
    go_enter Try.func98, Try.ntmps98
    go_wp2
    go_ret
    exact ⟨by first | rfl | (simp; done) | (simp [*]; done), by repeat (first | exact Drawn0.refl _ | apply Drawn0.step)⟩
  · rw [if_neg c2] at H
    have c2b0 : decide (a0 < 0) = false := decide_eq_false c2
    clear c2
    obtain rfl := Option.some.inj H
    go_enter Try.func98, Try.ntmps98
    go_wp2
    go_ret
    exact ⟨by first | rfl | (simp; done) | (simp [*]; done), by repeat (first | exact Drawn0.refl _ | apply Drawn0.step)⟩
def bagatelleref01_times.f (a0 : Int) (a1 : Int) : Option (Bool × Int × Int) := (bagatelleref01_size.f a0).bind fun t451 => ((bagatelleref01_size.f a1).bind fun t452 => ((bits_Mul64.f t451 t452).bind fun bt453 => (if ((decide (a0 < 0)) != (decide (a1 < 0))) = true then (if a0 = 0 then (some (false, bt453.1, bt453.2)) else (some ((a1 != 0), bt453.1, bt453.2))) else (some (false, bt453.1, bt453.2)))))
set_option maxHeartbeats 8000000 in
set_option maxRecDepth 100000 in
theorem bagatelleref01_times.calls (a0 : Int) (a1 : Int) (r1 : Bool) (r2 : Int) (r3 : Int) (w : World) (h : bagatelleref01_times.f a0 a1 = some (r1, r2, r3)) :
    Calls Try.prog 76 #[.int .i64 a0, .int .i64 a1] w fun e w' => e = .returned (.agg #[.bool r1, .int .u64 r2, .int .u64 r3]) ∧ Below w.heap.size w w' := by
  have hu64 := Try.underlying64
  have HB := Aside0.mk (Below.refl w.heap.size w)
  have H : ((bagatelleref01_size.f a0).bind fun t451 => ((bagatelleref01_size.f a1).bind fun t452 => ((bits_Mul64.f t451 t452).bind fun bt453 => (if ((decide (a0 < 0)) != (decide (a1 < 0))) = true then (if a0 = 0 then (some (false, bt453.1, bt453.2)) else (some ((a1 != 0), bt453.1, bt453.2))) else (some (false, bt453.1, bt453.2)))))) = some (r1, r2, r3) := h
  clear h
  replace H := Option.bind_eq_some_iff.mp H
  obtain ⟨t451, A30, H⟩ := H
  replace H : ((bagatelleref01_size.f a1).bind fun t452 => ((bits_Mul64.f t451 t452).bind fun bt453 => (if ((decide (a0 < 0)) != (decide (a1 < 0))) = true then (if a0 = 0 then (some (false, bt453.1, bt453.2)) else (some ((a1 != 0), bt453.1, bt453.2))) else (some (false, bt453.1, bt453.2))))) = some (r1, r2, r3) := H
  have A3 := Aside0.mk A30
  clear A30
  replace H := Option.bind_eq_some_iff.mp H
  obtain ⟨t452, A40, H⟩ := H
  replace H : ((bits_Mul64.f t451 t452).bind fun bt453 => (if ((decide (a0 < 0)) != (decide (a1 < 0))) = true then (if a0 = 0 then (some (false, bt453.1, bt453.2)) else (some ((a1 != 0), bt453.1, bt453.2))) else (some (false, bt453.1, bt453.2)))) = some (r1, r2, r3) := H
  have A4 := Aside0.mk A40
  clear A40
  replace H := Option.bind_eq_some_iff.mp H
  obtain ⟨⟨t453, t454⟩, A50, H⟩ := H
  replace H : (if ((decide (a0 < 0)) != (decide (a1 < 0))) = true then (if a0 = 0 then (some (false, t453, t454)) else (some ((a1 != 0), t453, t454))) else (some (false, t453, t454))) = some (r1, r2, r3) := H
  have A5 := Aside0.mk A50
  clear A50
  by_cases c6 : ((decide (a0 < 0)) != (decide (a1 < 0))) = true
  · rw [if_pos c6] at H
    have c6b0 : ((decide (a0 < 0)) != (decide (a1 < 0))) = true := c6
    (try (have c6b1 : decide ((decide (a0 < 0)) = (decide (a1 < 0))) = false := by simpa using c6))
    (try (have c6b2 : ((decide (a0 < 0)) == (decide (a1 < 0))) = false := by simpa using c6))
    (try (have c6b3 : ¬ ((decide (a0 < 0)) = (decide (a1 < 0))) := by simpa using c6))
    clear c6
    by_cases c7 : a0 = 0
    · rw [if_pos c7] at H
      have c7b0 : (a0 == 0) = true := beq_iff_eq.mpr c7
      have c7b1 : (a0 != 0) = false := bne_eq_false_iff_eq.mpr c7
      clear c7
      simp only [Option.some.injEq, Prod.mk.injEq] at H
      obtain ⟨rfl, rfl, rfl⟩ := H
      go_enter Try.func76, Try.ntmps76
      go_wp2_with (first | ((with_reducible refine gate_dst (N := 4) rfl ?_); refine box_event ?hg (N := 4) ?hd (cs := #[.bool false, .int .u64 0, .int .u64 0]) (t := 64) ?hr ?_; (case hd => rfl); (case hg => rfl); (case hr => first | (go_simp; done) | (go_simp; rfl)); intro gb450 hg w8 hbox hb; have n0_ := Aside0.mk (below_step (by repeat (first | (with_reducible first | exact HB.out | apply below_alloc | apply pw_below_drewN | apply below_drew1) | exact HB.out)) hb); have n1_ := Aside0.mk (hbox); have n2_ := Aside0.mk ((by rw [hg]; exact (below_size (by repeat (first | (with_reducible first | exact HB.out | apply below_alloc | apply pw_below_drewN | apply below_drew1) | exact HB.out))) : w.heap.size ≤ gb450)); have n3_ := Aside0.mk ((by rw [hg]; exact (below_size (by repeat (first | (with_reducible first | exact HB.out | apply below_alloc | apply pw_below_drewN | apply below_drew1) | exact HB.out))) : w.heap.size ≤ gb450)); clear HB; have HB := n0_; have BK450 := n1_; have GW450 := n2_; have GE450 := n3_; clear n0_ n1_ n2_ n3_; clear hb hbox hg) | ((with_reducible refine gate_callee (f := 98) rfl ?_); refine goesL_ (some 9) rfl rfl Try.func98 (by kernel_rfl) rfl #[.int .i64 a0] rfl (by (try simp only [List.map_toArray, List.map_cons, List.map_nil]); first | done | rfl | (simp only [List.length_drop, List.length_take]; rfl)) ?_; (with_reducible refine (bagatelleref01_size.calls a0 t451 _ A3.out).mono ?_); rintro e w' ⟨rfl, ⟨nd, rfl⟩⟩; refine ⟨_, rfl, ?_⟩; (try (rw [drewN_self w8]; generalize hq_ : World.drewN w8 _ = w8; have n0_ : Aside0 (w8.heap[gb450]? = some (.cells #[.bool false, .int .u64 0, .int .u64 0] 64 (0, 0))) := ⟨by rw [← hq_]; exact (by (with_reducible repeat (first | refine blk_drewN ?_ _ | refine blk_drew ?_ | refine blk_alloc ?_ _)); exact BK450.out)⟩; have n1_ : Aside0 (Below w.heap.size w w8) := ⟨by rw [← hq_]; exact (by repeat (first | (with_reducible first | exact HB.out | apply below_alloc | apply pw_below_drewN | apply below_drew1 | refine below_set ?_ GE450.out) | exact HB.out))⟩; clear BK450 HB hq_; have BK450 := n0_; have HB := n1_; clear n0_ n1_))) | ((with_reducible refine gate_callee (f := 98) rfl ?_); refine goesL_ (some 11) rfl rfl Try.func98 (by kernel_rfl) rfl #[.int .i64 a1] rfl (by (try simp only [List.map_toArray, List.map_cons, List.map_nil]); first | done | rfl | (simp only [List.length_drop, List.length_take]; rfl)) ?_; (with_reducible refine (bagatelleref01_size.calls a1 t452 _ A4.out).mono ?_); rintro e w' ⟨rfl, ⟨nd, rfl⟩⟩; refine ⟨_, rfl, ?_⟩; (try (rw [drewN_self w8]; generalize hq_ : World.drewN w8 _ = w8; have n0_ : Aside0 (w8.heap[gb450]? = some (.cells #[.bool false, .int .u64 0, .int .u64 0] 64 (0, 0))) := ⟨by rw [← hq_]; exact (by (with_reducible repeat (first | refine blk_drewN ?_ _ | refine blk_drew ?_ | refine blk_alloc ?_ _)); exact BK450.out)⟩; have n1_ : Aside0 (Below w.heap.size w w8) := ⟨by rw [← hq_]; exact (by repeat (first | (with_reducible first | exact HB.out | apply below_alloc | apply pw_below_drewN | apply below_drew1 | refine below_set ?_ GE450.out) | exact HB.out))⟩; clear BK450 HB hq_; have BK450 := n0_; have HB := n1_; clear n0_ n1_))) | ((with_reducible refine gate_callee (f := 107) rfl ?_); refine goesL_ (some 12) rfl rfl Try.func107 (by kernel_rfl) rfl #[.int .u64 t451, .int .u64 t452] rfl (by (try simp only [List.map_toArray, List.map_cons, List.map_nil]); first | done | rfl | (simp only [List.length_drop, List.length_take]; rfl)) ?_; (with_reducible refine (bits_Mul64.calls t451 t452 t453 t454 _ A5.out).mono ?_); rintro e w' ⟨rfl, ⟨nd, rfl⟩⟩; refine ⟨_, rfl, ?_⟩; (try (rw [drewN_self w8]; generalize hq_ : World.drewN w8 _ = w8; have n0_ : Aside0 (w8.heap[gb450]? = some (.cells #[.bool false, .int .u64 0, .int .u64 0] 64 (0, 0))) := ⟨by rw [← hq_]; exact (by (with_reducible repeat (first | refine blk_drewN ?_ _ | refine blk_drew ?_ | refine blk_alloc ?_ _)); exact BK450.out)⟩; have n1_ : Aside0 (Below w.heap.size w w8) := ⟨by rw [← hq_]; exact (by repeat (first | (with_reducible first | exact HB.out | apply below_alloc | apply pw_below_drewN | apply below_drew1 | refine below_set ?_ GE450.out) | exact HB.out))⟩; clear BK450 HB hq_; have BK450 := n0_; have HB := n1_; clear n0_ n1_)); have hcz9_0 : w8.cell? ⟨gb450, 0, none⟩ = some (.bool false) := (blk_cell BK450.out 0).trans rfl; have hcz9_1 : w8.cell? ⟨gb450, 1, none⟩ = some (.int .u64 0) := (blk_cell BK450.out 1).trans rfl; have hcz9_2 : w8.cell? ⟨gb450, 2, none⟩ = some (.int .u64 0) := (blk_cell BK450.out 2).trans rfl; have hfz9_0 := blk_frozen BK450.out 0; have hfz9_1 := blk_frozen BK450.out 1; have hfz9_2 := blk_frozen BK450.out 2))
      refine bodyPost_ret (results_cell_row rfl _ _ gb450 64 #[.bool false, .int .u64 t453, .int .u64 t454] (0, 0) _ rfl (by (with_reducible repeat (first | refine blk_drewN ?_ _ | refine blk_drew ?_ | refine blk_alloc ?_ _)); refine blk_put (cs := #[.bool false, .int .u64 t453, .int .u64 0]) ?_ 2 _ rfl; (with_reducible repeat (first | refine blk_drewN ?_ _ | refine blk_drew ?_ | refine blk_alloc ?_ _)); refine blk_put (cs := #[.bool false, .int .u64 0, .int .u64 0]) ?_ 1 _ rfl; (with_reducible repeat (first | refine blk_drewN ?_ _ | refine blk_drew ?_ | refine blk_alloc ?_ _)); refine blk_put (cs := #[.bool false, .int .u64 0, .int .u64 0]) ?_ 0 _ rfl; (with_reducible repeat (first | refine blk_drewN ?_ _ | refine blk_drew ?_ | refine blk_alloc ?_ _)); exact BK450.out) Try.underlying64 rfl (by kernel_rfl)) rfl ?_
      exact ⟨by first | rfl | (simp [errW_none, errW_some] <;> rfl) | (simp [*, errW_none, errW_some] <;> rfl), by repeat (first | (with_reducible first | exact HB.out | apply below_alloc | apply pw_below_drewN | apply below_drew1 | refine below_set ?_ GE450.out) | exact HB.out)⟩
    · rw [if_neg c7] at H
      have c7b0 : (a0 == 0) = false := beq_eq_false_iff_ne.mpr c7
      have c7b1 : (a0 != 0) = true := bne_iff_ne.mpr c7
      simp only [Option.some.injEq, Prod.mk.injEq] at H
      obtain ⟨rfl, rfl, rfl⟩ := H
      go_enter Try.func76, Try.ntmps76
      go_wp2_with (first | ((with_reducible refine gate_dst (N := 4) rfl ?_); refine box_event ?hg (N := 4) ?hd (cs := #[.bool false, .int .u64 0, .int .u64 0]) (t := 64) ?hr ?_; (case hd => rfl); (case hg => rfl); (case hr => first | (go_simp; done) | (go_simp; rfl)); intro gb450 hg w10 hbox hb; have n0_ := Aside0.mk (below_step (by repeat (first | (with_reducible first | exact HB.out | apply below_alloc | apply pw_below_drewN | apply below_drew1) | exact HB.out)) hb); have n1_ := Aside0.mk (hbox); have n2_ := Aside0.mk ((by rw [hg]; exact (below_size (by repeat (first | (with_reducible first | exact HB.out | apply below_alloc | apply pw_below_drewN | apply below_drew1) | exact HB.out))) : w.heap.size ≤ gb450)); have n3_ := Aside0.mk ((by rw [hg]; exact (below_size (by repeat (first | (with_reducible first | exact HB.out | apply below_alloc | apply pw_below_drewN | apply below_drew1) | exact HB.out))) : w.heap.size ≤ gb450)); clear HB; have HB := n0_; have BK450 := n1_; have GW450 := n2_; have GE450 := n3_; clear n0_ n1_ n2_ n3_; clear hb hbox hg) | ((with_reducible refine gate_callee (f := 98) rfl ?_); refine goesL_ (some 9) rfl rfl Try.func98 (by kernel_rfl) rfl #[.int .i64 a0] rfl (by (try simp only [List.map_toArray, List.map_cons, List.map_nil]); first | done | rfl | (simp only [List.length_drop, List.length_take]; rfl)) ?_; (with_reducible refine (bagatelleref01_size.calls a0 t451 _ A3.out).mono ?_); rintro e w' ⟨rfl, ⟨nd, rfl⟩⟩; refine ⟨_, rfl, ?_⟩; (try (rw [drewN_self w10]; generalize hq_ : World.drewN w10 _ = w10; have n0_ : Aside0 (w10.heap[gb450]? = some (.cells #[.bool false, .int .u64 0, .int .u64 0] 64 (0, 0))) := ⟨by rw [← hq_]; exact (by (with_reducible repeat (first | refine blk_drewN ?_ _ | refine blk_drew ?_ | refine blk_alloc ?_ _)); exact BK450.out)⟩; have n1_ : Aside0 (Below w.heap.size w w10) := ⟨by rw [← hq_]; exact (by repeat (first | (with_reducible first | exact HB.out | apply below_alloc | apply pw_below_drewN | apply below_drew1 | refine below_set ?_ GE450.out) | exact HB.out))⟩; clear BK450 HB hq_; have BK450 := n0_; have HB := n1_; clear n0_ n1_))) | ((with_reducible refine gate_callee (f := 98) rfl ?_); refine goesL_ (some 11) rfl rfl Try.func98 (by kernel_rfl) rfl #[.int .i64 a1] rfl (by (try simp only [List.map_toArray, List.map_cons, List.map_nil]); first | done | rfl | (simp only [List.length_drop, List.length_take]; rfl)) ?_; (with_reducible refine (bagatelleref01_size.calls a1 t452 _ A4.out).mono ?_); rintro e w' ⟨rfl, ⟨nd, rfl⟩⟩; refine ⟨_, rfl, ?_⟩; (try (rw [drewN_self w10]; generalize hq_ : World.drewN w10 _ = w10; have n0_ : Aside0 (w10.heap[gb450]? = some (.cells #[.bool false, .int .u64 0, .int .u64 0] 64 (0, 0))) := ⟨by rw [← hq_]; exact (by (with_reducible repeat (first | refine blk_drewN ?_ _ | refine blk_drew ?_ | refine blk_alloc ?_ _)); exact BK450.out)⟩; have n1_ : Aside0 (Below w.heap.size w w10) := ⟨by rw [← hq_]; exact (by repeat (first | (with_reducible first | exact HB.out | apply below_alloc | apply pw_below_drewN | apply below_drew1 | refine below_set ?_ GE450.out) | exact HB.out))⟩; clear BK450 HB hq_; have BK450 := n0_; have HB := n1_; clear n0_ n1_))) | ((with_reducible refine gate_callee (f := 107) rfl ?_); refine goesL_ (some 12) rfl rfl Try.func107 (by kernel_rfl) rfl #[.int .u64 t451, .int .u64 t452] rfl (by (try simp only [List.map_toArray, List.map_cons, List.map_nil]); first | done | rfl | (simp only [List.length_drop, List.length_take]; rfl)) ?_; (with_reducible refine (bits_Mul64.calls t451 t452 t453 t454 _ A5.out).mono ?_); rintro e w' ⟨rfl, ⟨nd, rfl⟩⟩; refine ⟨_, rfl, ?_⟩; (try (rw [drewN_self w10]; generalize hq_ : World.drewN w10 _ = w10; have n0_ : Aside0 (w10.heap[gb450]? = some (.cells #[.bool false, .int .u64 0, .int .u64 0] 64 (0, 0))) := ⟨by rw [← hq_]; exact (by (with_reducible repeat (first | refine blk_drewN ?_ _ | refine blk_drew ?_ | refine blk_alloc ?_ _)); exact BK450.out)⟩; have n1_ : Aside0 (Below w.heap.size w w10) := ⟨by rw [← hq_]; exact (by repeat (first | (with_reducible first | exact HB.out | apply below_alloc | apply pw_below_drewN | apply below_drew1 | refine below_set ?_ GE450.out) | exact HB.out))⟩; clear BK450 HB hq_; have BK450 := n0_; have HB := n1_; clear n0_ n1_)); have hcz11_0 : w10.cell? ⟨gb450, 0, none⟩ = some (.bool false) := (blk_cell BK450.out 0).trans rfl; have hcz11_1 : w10.cell? ⟨gb450, 1, none⟩ = some (.int .u64 0) := (blk_cell BK450.out 1).trans rfl; have hcz11_2 : w10.cell? ⟨gb450, 2, none⟩ = some (.int .u64 0) := (blk_cell BK450.out 2).trans rfl; have hfz11_0 := blk_frozen BK450.out 0; have hfz11_1 := blk_frozen BK450.out 1; have hfz11_2 := blk_frozen BK450.out 2))
      refine bodyPost_ret (results_cell_row rfl _ _ gb450 64 #[.bool (a1 != 0), .int .u64 t453, .int .u64 t454] (0, 0) _ rfl (by (with_reducible repeat (first | refine blk_drewN ?_ _ | refine blk_drew ?_ | refine blk_alloc ?_ _)); refine blk_put (cs := #[.bool (a1 != 0), .int .u64 t453, .int .u64 0]) ?_ 2 _ rfl; (with_reducible repeat (first | refine blk_drewN ?_ _ | refine blk_drew ?_ | refine blk_alloc ?_ _)); refine blk_put (cs := #[.bool (a1 != 0), .int .u64 0, .int .u64 0]) ?_ 1 _ rfl; (with_reducible repeat (first | refine blk_drewN ?_ _ | refine blk_drew ?_ | refine blk_alloc ?_ _)); refine blk_put (cs := #[.bool false, .int .u64 0, .int .u64 0]) ?_ 0 _ rfl; (with_reducible repeat (first | refine blk_drewN ?_ _ | refine blk_drew ?_ | refine blk_alloc ?_ _)); exact BK450.out) Try.underlying64 rfl (by kernel_rfl)) rfl ?_
      exact ⟨by first | rfl | (simp [errW_none, errW_some] <;> rfl) | (simp [*, errW_none, errW_some] <;> rfl), by repeat (first | (with_reducible first | exact HB.out | apply below_alloc | apply pw_below_drewN | apply below_drew1 | refine below_set ?_ GE450.out) | exact HB.out)⟩
  · rw [if_neg c6] at H
    have c6b0 : ((decide (a0 < 0)) != (decide (a1 < 0))) = false := by simpa using c6
    (try (have c6b1 : decide ((decide (a0 < 0)) = (decide (a1 < 0))) = true := by simpa using c6))
    (try (have c6b2 : ((decide (a0 < 0)) == (decide (a1 < 0))) = true := by simpa using c6))
    clear c6
    simp only [Option.some.injEq, Prod.mk.injEq] at H
    obtain ⟨rfl, rfl, rfl⟩ := H
    go_enter Try.func76, Try.ntmps76
    go_wp2_with (first | ((with_reducible refine gate_dst (N := 4) rfl ?_); refine box_event ?hg (N := 4) ?hd (cs := #[.bool false, .int .u64 0, .int .u64 0]) (t := 64) ?hr ?_; (case hd => rfl); (case hg => rfl); (case hr => first | (go_simp; done) | (go_simp; rfl)); intro gb450 hg w12 hbox hb; have n0_ := Aside0.mk (below_step (by repeat (first | (with_reducible first | exact HB.out | apply below_alloc | apply pw_below_drewN | apply below_drew1) | exact HB.out)) hb); have n1_ := Aside0.mk (hbox); have n2_ := Aside0.mk ((by rw [hg]; exact (below_size (by repeat (first | (with_reducible first | exact HB.out | apply below_alloc | apply pw_below_drewN | apply below_drew1) | exact HB.out))) : w.heap.size ≤ gb450)); have n3_ := Aside0.mk ((by rw [hg]; exact (below_size (by repeat (first | (with_reducible first | exact HB.out | apply below_alloc | apply pw_below_drewN | apply below_drew1) | exact HB.out))) : w.heap.size ≤ gb450)); clear HB; have HB := n0_; have BK450 := n1_; have GW450 := n2_; have GE450 := n3_; clear n0_ n1_ n2_ n3_; clear hb hbox hg) | ((with_reducible refine gate_callee (f := 98) rfl ?_); refine goesL_ (some 9) rfl rfl Try.func98 (by kernel_rfl) rfl #[.int .i64 a0] rfl (by (try simp only [List.map_toArray, List.map_cons, List.map_nil]); first | done | rfl | (simp only [List.length_drop, List.length_take]; rfl)) ?_; (with_reducible refine (bagatelleref01_size.calls a0 t451 _ A3.out).mono ?_); rintro e w' ⟨rfl, ⟨nd, rfl⟩⟩; refine ⟨_, rfl, ?_⟩; (try (rw [drewN_self w12]; generalize hq_ : World.drewN w12 _ = w12; have n0_ : Aside0 (w12.heap[gb450]? = some (.cells #[.bool false, .int .u64 0, .int .u64 0] 64 (0, 0))) := ⟨by rw [← hq_]; exact (by (with_reducible repeat (first | refine blk_drewN ?_ _ | refine blk_drew ?_ | refine blk_alloc ?_ _)); exact BK450.out)⟩; have n1_ : Aside0 (Below w.heap.size w w12) := ⟨by rw [← hq_]; exact (by repeat (first | (with_reducible first | exact HB.out | apply below_alloc | apply pw_below_drewN | apply below_drew1 | refine below_set ?_ GE450.out) | exact HB.out))⟩; clear BK450 HB hq_; have BK450 := n0_; have HB := n1_; clear n0_ n1_))) | ((with_reducible refine gate_callee (f := 98) rfl ?_); refine goesL_ (some 11) rfl rfl Try.func98 (by kernel_rfl) rfl #[.int .i64 a1] rfl (by (try simp only [List.map_toArray, List.map_cons, List.map_nil]); first | done | rfl | (simp only [List.length_drop, List.length_take]; rfl)) ?_; (with_reducible refine (bagatelleref01_size.calls a1 t452 _ A4.out).mono ?_); rintro e w' ⟨rfl, ⟨nd, rfl⟩⟩; refine ⟨_, rfl, ?_⟩; (try (rw [drewN_self w12]; generalize hq_ : World.drewN w12 _ = w12; have n0_ : Aside0 (w12.heap[gb450]? = some (.cells #[.bool false, .int .u64 0, .int .u64 0] 64 (0, 0))) := ⟨by rw [← hq_]; exact (by (with_reducible repeat (first | refine blk_drewN ?_ _ | refine blk_drew ?_ | refine blk_alloc ?_ _)); exact BK450.out)⟩; have n1_ : Aside0 (Below w.heap.size w w12) := ⟨by rw [← hq_]; exact (by repeat (first | (with_reducible first | exact HB.out | apply below_alloc | apply pw_below_drewN | apply below_drew1 | refine below_set ?_ GE450.out) | exact HB.out))⟩; clear BK450 HB hq_; have BK450 := n0_; have HB := n1_; clear n0_ n1_))) | ((with_reducible refine gate_callee (f := 107) rfl ?_); refine goesL_ (some 12) rfl rfl Try.func107 (by kernel_rfl) rfl #[.int .u64 t451, .int .u64 t452] rfl (by (try simp only [List.map_toArray, List.map_cons, List.map_nil]); first | done | rfl | (simp only [List.length_drop, List.length_take]; rfl)) ?_; (with_reducible refine (bits_Mul64.calls t451 t452 t453 t454 _ A5.out).mono ?_); rintro e w' ⟨rfl, ⟨nd, rfl⟩⟩; refine ⟨_, rfl, ?_⟩; (try (rw [drewN_self w12]; generalize hq_ : World.drewN w12 _ = w12; have n0_ : Aside0 (w12.heap[gb450]? = some (.cells #[.bool false, .int .u64 0, .int .u64 0] 64 (0, 0))) := ⟨by rw [← hq_]; exact (by (with_reducible repeat (first | refine blk_drewN ?_ _ | refine blk_drew ?_ | refine blk_alloc ?_ _)); exact BK450.out)⟩; have n1_ : Aside0 (Below w.heap.size w w12) := ⟨by rw [← hq_]; exact (by repeat (first | (with_reducible first | exact HB.out | apply below_alloc | apply pw_below_drewN | apply below_drew1 | refine below_set ?_ GE450.out) | exact HB.out))⟩; clear BK450 HB hq_; have BK450 := n0_; have HB := n1_; clear n0_ n1_)); have hcz13_0 : w12.cell? ⟨gb450, 0, none⟩ = some (.bool false) := (blk_cell BK450.out 0).trans rfl; have hcz13_1 : w12.cell? ⟨gb450, 1, none⟩ = some (.int .u64 0) := (blk_cell BK450.out 1).trans rfl; have hcz13_2 : w12.cell? ⟨gb450, 2, none⟩ = some (.int .u64 0) := (blk_cell BK450.out 2).trans rfl; have hfz13_0 := blk_frozen BK450.out 0; have hfz13_1 := blk_frozen BK450.out 1; have hfz13_2 := blk_frozen BK450.out 2))
    refine bodyPost_ret (results_cell_row rfl _ _ gb450 64 #[.bool false, .int .u64 t453, .int .u64 t454] (0, 0) _ rfl (by (with_reducible repeat (first | refine blk_drewN ?_ _ | refine blk_drew ?_ | refine blk_alloc ?_ _)); refine blk_put (cs := #[.bool false, .int .u64 t453, .int .u64 0]) ?_ 2 _ rfl; (with_reducible repeat (first | refine blk_drewN ?_ _ | refine blk_drew ?_ | refine blk_alloc ?_ _)); refine blk_put (cs := #[.bool false, .int .u64 0, .int .u64 0]) ?_ 1 _ rfl; (with_reducible repeat (first | refine blk_drewN ?_ _ | refine blk_drew ?_ | refine blk_alloc ?_ _)); refine blk_put (cs := #[.bool false, .int .u64 0, .int .u64 0]) ?_ 0 _ rfl; (with_reducible repeat (first | refine blk_drewN ?_ _ | refine blk_drew ?_ | refine blk_alloc ?_ _)); exact BK450.out) Try.underlying64 rfl (by kernel_rfl)) rfl ?_
    exact ⟨by first | rfl | (simp [errW_none, errW_some] <;> rfl) | (simp [*, errW_none, errW_some] <;> rfl), by repeat (first | (with_reducible first | exact HB.out | apply below_alloc | apply pw_below_drewN | apply below_drew1 | refine below_set ?_ GE450.out) | exact HB.out)⟩
def bagatelleref01_less.f (a0_0 : Bool) (a0_1 : Int) (a0_2 : Int) (a1_0 : Bool) (a1_1 : Int) (a1_2 : Int) : Option (Bool) := if a0_1 < a1_1 then (some true) else (if a0_1 = a1_1 then (some (decide (a0_2 < a1_2))) else (some false))
set_option maxHeartbeats 8000000 in
set_option maxRecDepth 100000 in
theorem bagatelleref01_less.calls (a0_0 : Bool) (a0_1 : Int) (a0_2 : Int) (a1_0 : Bool) (a1_1 : Int) (a1_2 : Int) (r : Bool) (w : World) (h : bagatelleref01_less.f a0_0 a0_1 a0_2 a1_0 a1_1 a1_2 = some r) :
    Calls Try.prog 77 #[.agg #[.bool a0_0, .int .u64 a0_1, .int .u64 a0_2], .agg #[.bool a1_0, .int .u64 a1_1, .int .u64 a1_2]] w fun e w' => e = .returned (.bool r) ∧ Below w.heap.size w w' := by
  have hu64 := Try.underlying64
  have HB := Aside0.mk (Below.refl w.heap.size w)
  have H : (if a0_1 < a1_1 then (some true) else (if a0_1 = a1_1 then (some (decide (a0_2 < a1_2))) else (some false))) = some r := h
  clear h
  by_cases c3 : a0_1 < a1_1
  · rw [if_pos c3] at H
    have c3b0 : decide (a0_1 < a1_1) = true := decide_eq_true c3
    clear c3
    obtain rfl := Option.some.inj H
    go_enter Try.func77, Try.ntmps77
    go_wp2_with (first | ((with_reducible refine gate_dst (N := 2) rfl ?_); refine box_event ?hg (N := 2) ?hd (cs := #[.bool a0_0, .int .u64 a0_1, .int .u64 a0_2]) (t := 64) ?hr ?_; (case hd => rfl); (case hg => rfl); (case hr => first | (go_simp; done) | (go_simp; rfl)); intro gb455 hg w4 hbox hb; have n0_ := Aside0.mk (below_step (by repeat (first | (with_reducible first | exact HB.out | apply below_alloc | apply pw_below_drewN | apply below_drew1) | exact HB.out)) hb); have n1_ := Aside0.mk (hbox); have n2_ := Aside0.mk ((by rw [hg]; exact (below_size (by repeat (first | (with_reducible first | exact HB.out | apply below_alloc | apply pw_below_drewN | apply below_drew1) | exact HB.out))) : w.heap.size ≤ gb455)); have n3_ := Aside0.mk ((by rw [hg]; exact (below_size (by repeat (first | (with_reducible first | exact HB.out | apply below_alloc | apply pw_below_drewN | apply below_drew1) | exact HB.out))) : w.heap.size ≤ gb455)); clear HB; have HB := n0_; have BK455 := n1_; have GW455 := n2_; have GE455 := n3_; clear n0_ n1_ n2_ n3_; clear hb hbox hg) | ((with_reducible refine gate_dst (N := 3) rfl ?_); refine box_event ?hg (N := 3) ?hd (cs := #[.bool a1_0, .int .u64 a1_1, .int .u64 a1_2]) (t := 64) ?hr ?_; (case hd => rfl); (case hg => rfl); (case hr => first | (go_simp; done) | (go_simp; rfl)); intro gb456 hg w5 hbox hb; have n0_ := Aside0.mk (blk_below (g := gb455) (o := .cells #[.bool a0_0, .int .u64 a0_1, .int .u64 a0_2] 64 (0, 0)) (by (with_reducible repeat (first | refine blk_drewN ?_ _ | refine blk_drew ?_ | refine blk_alloc ?_ _)); exact BK455.out) hb); have n1_ := Aside0.mk (below_step (by repeat (first | (with_reducible first | exact HB.out | apply below_alloc | apply pw_below_drewN | apply below_drew1 | refine below_set ?_ GE455.out) | exact HB.out)) hb); have n2_ := Aside0.mk (hbox); have n3_ := Aside0.mk ((by rw [hg]; exact (below_size (by repeat (first | (with_reducible first | exact HB.out | apply below_alloc | apply pw_below_drewN | apply below_drew1 | refine below_set ?_ GE455.out) | exact HB.out))) : w.heap.size ≤ gb456)); have n4_ := Aside0.mk ((by rw [hg]; exact (below_size (by repeat (first | (with_reducible first | exact HB.out | apply below_alloc | apply pw_below_drewN | apply below_drew1 | refine below_set ?_ GE455.out) | exact HB.out))) : w.heap.size ≤ gb456)); have n5_ := Aside0.mk ((by rw [hg]; exact Nat.ne_of_lt (blk_lt (g := gb455) (o := .cells #[.bool a0_0, .int .u64 a0_1, .int .u64 a0_2] 64 (0, 0)) (by (with_reducible repeat (first | refine blk_drewN ?_ _ | refine blk_drew ?_ | refine blk_alloc ?_ _)); exact BK455.out)) : gb455 ≠ gb456)); have n6_ := Aside0.mk ((by rw [hg]; exact Nat.ne_of_gt (blk_lt (g := gb455) (o := .cells #[.bool a0_0, .int .u64 a0_1, .int .u64 a0_2] 64 (0, 0)) (by (with_reducible repeat (first | refine blk_drewN ?_ _ | refine blk_drew ?_ | refine blk_alloc ?_ _)); exact BK455.out)) : gb456 ≠ gb455)); clear BK455; clear HB; have BK455 := n0_; have HB := n1_; have BK456 := n2_; have GW456 := n3_; have GE456 := n4_; have NB455_456 := n5_; have NB456_455 := n6_; clear n0_ n1_ n2_ n3_ n4_ n5_ n6_; clear hb hbox hg; have hnb6 := NB455_456.out; have hnc6 := NB456_455.out; have hcz7_0 : w5.cell? ⟨gb455, 0, none⟩ = some (.bool a0_0) := (blk_cell BK455.out 0).trans rfl; have hcz7_1 : w5.cell? ⟨gb455, 1, none⟩ = some (.int .u64 a0_1) := (blk_cell BK455.out 1).trans rfl; have hcz7_2 : w5.cell? ⟨gb455, 2, none⟩ = some (.int .u64 a0_2) := (blk_cell BK455.out 2).trans rfl; have hfz7_0 := blk_frozen BK455.out 0; have hfz7_1 := blk_frozen BK455.out 1; have hfz7_2 := blk_frozen BK455.out 2; have hcz8_0 : w5.cell? ⟨gb456, 0, none⟩ = some (.bool a1_0) := (blk_cell BK456.out 0).trans rfl; have hcz8_1 : w5.cell? ⟨gb456, 1, none⟩ = some (.int .u64 a1_1) := (blk_cell BK456.out 1).trans rfl; have hcz8_2 : w5.cell? ⟨gb456, 2, none⟩ = some (.int .u64 a1_2) := (blk_cell BK456.out 2).trans rfl; have hfz8_0 := blk_frozen BK456.out 0; have hfz8_1 := blk_frozen BK456.out 1; have hfz8_2 := blk_frozen BK456.out 2))
    go_ret
    exact ⟨by first | rfl | (simp [errW_none, errW_some] <;> rfl) | (simp [*, errW_none, errW_some] <;> rfl), by repeat (first | (with_reducible first | exact HB.out | apply below_alloc | apply pw_below_drewN | apply below_drew1 | refine below_set ?_ GE455.out | refine below_set ?_ GE456.out) | exact HB.out)⟩
  · rw [if_neg c3] at H
    have c3b0 : decide (a0_1 < a1_1) = false := decide_eq_false c3
    clear c3
    by_cases c9 : a0_1 = a1_1
    · rw [if_pos c9] at H
      have c9b0 : (a0_1 == a1_1) = true := beq_iff_eq.mpr c9
      have c9b1 : (a0_1 != a1_1) = false := bne_eq_false_iff_eq.mpr c9
      clear c9
      obtain rfl := Option.some.inj H
      go_enter Try.func77, Try.ntmps77
      go_wp2_with (first | ((with_reducible refine gate_dst (N := 2) rfl ?_); refine box_event ?hg (N := 2) ?hd (cs := #[.bool a0_0, .int .u64 a0_1, .int .u64 a0_2]) (t := 64) ?hr ?_; (case hd => rfl); (case hg => rfl); (case hr => first | (go_simp; done) | (go_simp; rfl)); intro gb455 hg w10 hbox hb; have n0_ := Aside0.mk (below_step (by repeat (first | (with_reducible first | exact HB.out | apply below_alloc | apply pw_below_drewN | apply below_drew1) | exact HB.out)) hb); have n1_ := Aside0.mk (hbox); have n2_ := Aside0.mk ((by rw [hg]; exact (below_size (by repeat (first | (with_reducible first | exact HB.out | apply below_alloc | apply pw_below_drewN | apply below_drew1) | exact HB.out))) : w.heap.size ≤ gb455)); have n3_ := Aside0.mk ((by rw [hg]; exact (below_size (by repeat (first | (with_reducible first | exact HB.out | apply below_alloc | apply pw_below_drewN | apply below_drew1) | exact HB.out))) : w.heap.size ≤ gb455)); clear HB; have HB := n0_; have BK455 := n1_; have GW455 := n2_; have GE455 := n3_; clear n0_ n1_ n2_ n3_; clear hb hbox hg) | ((with_reducible refine gate_dst (N := 3) rfl ?_); refine box_event ?hg (N := 3) ?hd (cs := #[.bool a1_0, .int .u64 a1_1, .int .u64 a1_2]) (t := 64) ?hr ?_; (case hd => rfl); (case hg => rfl); (case hr => first | (go_simp; done) | (go_simp; rfl)); intro gb456 hg w11 hbox hb; have n0_ := Aside0.mk (blk_below (g := gb455) (o := .cells #[.bool a0_0, .int .u64 a0_1, .int .u64 a0_2] 64 (0, 0)) (by (with_reducible repeat (first | refine blk_drewN ?_ _ | refine blk_drew ?_ | refine blk_alloc ?_ _)); exact BK455.out) hb); have n1_ := Aside0.mk (below_step (by repeat (first | (with_reducible first | exact HB.out | apply below_alloc | apply pw_below_drewN | apply below_drew1 | refine below_set ?_ GE455.out) | exact HB.out)) hb); have n2_ := Aside0.mk (hbox); have n3_ := Aside0.mk ((by rw [hg]; exact (below_size (by repeat (first | (with_reducible first | exact HB.out | apply below_alloc | apply pw_below_drewN | apply below_drew1 | refine below_set ?_ GE455.out) | exact HB.out))) : w.heap.size ≤ gb456)); have n4_ := Aside0.mk ((by rw [hg]; exact (below_size (by repeat (first | (with_reducible first | exact HB.out | apply below_alloc | apply pw_below_drewN | apply below_drew1 | refine below_set ?_ GE455.out) | exact HB.out))) : w.heap.size ≤ gb456)); have n5_ := Aside0.mk ((by rw [hg]; exact Nat.ne_of_lt (blk_lt (g := gb455) (o := .cells #[.bool a0_0, .int .u64 a0_1, .int .u64 a0_2] 64 (0, 0)) (by (with_reducible repeat (first | refine blk_drewN ?_ _ | refine blk_drew ?_ | refine blk_alloc ?_ _)); exact BK455.out)) : gb455 ≠ gb456)); have n6_ := Aside0.mk ((by rw [hg]; exact Nat.ne_of_gt (blk_lt (g := gb455) (o := .cells #[.bool a0_0, .int .u64 a0_1, .int .u64 a0_2] 64 (0, 0)) (by (with_reducible repeat (first | refine blk_drewN ?_ _ | refine blk_drew ?_ | refine blk_alloc ?_ _)); exact BK455.out)) : gb456 ≠ gb455)); clear BK455; clear HB; have BK455 := n0_; have HB := n1_; have BK456 := n2_; have GW456 := n3_; have GE456 := n4_; have NB455_456 := n5_; have NB456_455 := n6_; clear n0_ n1_ n2_ n3_ n4_ n5_ n6_; clear hb hbox hg; have hnb12 := NB455_456.out; have hnc12 := NB456_455.out; have hcz13_0 : w11.cell? ⟨gb455, 0, none⟩ = some (.bool a0_0) := (blk_cell BK455.out 0).trans rfl; have hcz13_1 : w11.cell? ⟨gb455, 1, none⟩ = some (.int .u64 a0_1) := (blk_cell BK455.out 1).trans rfl; have hcz13_2 : w11.cell? ⟨gb455, 2, none⟩ = some (.int .u64 a0_2) := (blk_cell BK455.out 2).trans rfl; have hfz13_0 := blk_frozen BK455.out 0; have hfz13_1 := blk_frozen BK455.out 1; have hfz13_2 := blk_frozen BK455.out 2; have hcz14_0 : w11.cell? ⟨gb456, 0, none⟩ = some (.bool a1_0) := (blk_cell BK456.out 0).trans rfl; have hcz14_1 : w11.cell? ⟨gb456, 1, none⟩ = some (.int .u64 a1_1) := (blk_cell BK456.out 1).trans rfl; have hcz14_2 : w11.cell? ⟨gb456, 2, none⟩ = some (.int .u64 a1_2) := (blk_cell BK456.out 2).trans rfl; have hfz14_0 := blk_frozen BK456.out 0; have hfz14_1 := blk_frozen BK456.out 1; have hfz14_2 := blk_frozen BK456.out 2))
      go_ret
      exact ⟨by first | rfl | (simp [errW_none, errW_some] <;> rfl) | (simp [*, errW_none, errW_some] <;> rfl), by repeat (first | (with_reducible first | exact HB.out | apply below_alloc | apply pw_below_drewN | apply below_drew1 | refine below_set ?_ GE455.out | refine below_set ?_ GE456.out) | exact HB.out)⟩
    · rw [if_neg c9] at H
      have c9b0 : (a0_1 == a1_1) = false := beq_eq_false_iff_ne.mpr c9
      have c9b1 : (a0_1 != a1_1) = true := bne_iff_ne.mpr c9
      obtain rfl := Option.some.inj H
      go_enter Try.func77, Try.ntmps77
      go_wp2_with (first | ((with_reducible refine gate_dst (N := 2) rfl ?_); refine box_event ?hg (N := 2) ?hd (cs := #[.bool a0_0, .int .u64 a0_1, .int .u64 a0_2]) (t := 64) ?hr ?_; (case hd => rfl); (case hg => rfl); (case hr => first | (go_simp; done) | (go_simp; rfl)); intro gb455 hg w15 hbox hb; have n0_ := Aside0.mk (below_step (by repeat (first | (with_reducible first | exact HB.out | apply below_alloc | apply pw_below_drewN | apply below_drew1) | exact HB.out)) hb); have n1_ := Aside0.mk (hbox); have n2_ := Aside0.mk ((by rw [hg]; exact (below_size (by repeat (first | (with_reducible first | exact HB.out | apply below_alloc | apply pw_below_drewN | apply below_drew1) | exact HB.out))) : w.heap.size ≤ gb455)); have n3_ := Aside0.mk ((by rw [hg]; exact (below_size (by repeat (first | (with_reducible first | exact HB.out | apply below_alloc | apply pw_below_drewN | apply below_drew1) | exact HB.out))) : w.heap.size ≤ gb455)); clear HB; have HB := n0_; have BK455 := n1_; have GW455 := n2_; have GE455 := n3_; clear n0_ n1_ n2_ n3_; clear hb hbox hg) | ((with_reducible refine gate_dst (N := 3) rfl ?_); refine box_event ?hg (N := 3) ?hd (cs := #[.bool a1_0, .int .u64 a1_1, .int .u64 a1_2]) (t := 64) ?hr ?_; (case hd => rfl); (case hg => rfl); (case hr => first | (go_simp; done) | (go_simp; rfl)); intro gb456 hg w16 hbox hb; have n0_ := Aside0.mk (blk_below (g := gb455) (o := .cells #[.bool a0_0, .int .u64 a0_1, .int .u64 a0_2] 64 (0, 0)) (by (with_reducible repeat (first | refine blk_drewN ?_ _ | refine blk_drew ?_ | refine blk_alloc ?_ _)); exact BK455.out) hb); have n1_ := Aside0.mk (below_step (by repeat (first | (with_reducible first | exact HB.out | apply below_alloc | apply pw_below_drewN | apply below_drew1 | refine below_set ?_ GE455.out) | exact HB.out)) hb); have n2_ := Aside0.mk (hbox); have n3_ := Aside0.mk ((by rw [hg]; exact (below_size (by repeat (first | (with_reducible first | exact HB.out | apply below_alloc | apply pw_below_drewN | apply below_drew1 | refine below_set ?_ GE455.out) | exact HB.out))) : w.heap.size ≤ gb456)); have n4_ := Aside0.mk ((by rw [hg]; exact (below_size (by repeat (first | (with_reducible first | exact HB.out | apply below_alloc | apply pw_below_drewN | apply below_drew1 | refine below_set ?_ GE455.out) | exact HB.out))) : w.heap.size ≤ gb456)); have n5_ := Aside0.mk ((by rw [hg]; exact Nat.ne_of_lt (blk_lt (g := gb455) (o := .cells #[.bool a0_0, .int .u64 a0_1, .int .u64 a0_2] 64 (0, 0)) (by (with_reducible repeat (first | refine blk_drewN ?_ _ | refine blk_drew ?_ | refine blk_alloc ?_ _)); exact BK455.out)) : gb455 ≠ gb456)); have n6_ := Aside0.mk ((by rw [hg]; exact Nat.ne_of_gt (blk_lt (g := gb455) (o := .cells #[.bool a0_0, .int .u64 a0_1, .int .u64 a0_2] 64 (0, 0)) (by (with_reducible repeat (first | refine blk_drewN ?_ _ | refine blk_drew ?_ | refine blk_alloc ?_ _)); exact BK455.out)) : gb456 ≠ gb455)); clear BK455; clear HB; have BK455 := n0_; have HB := n1_; have BK456 := n2_; have GW456 := n3_; have GE456 := n4_; have NB455_456 := n5_; have NB456_455 := n6_; clear n0_ n1_ n2_ n3_ n4_ n5_ n6_; clear hb hbox hg; have hnb17 := NB455_456.out; have hnc17 := NB456_455.out; have hcz18_0 : w16.cell? ⟨gb455, 0, none⟩ = some (.bool a0_0) := (blk_cell BK455.out 0).trans rfl; have hcz18_1 : w16.cell? ⟨gb455, 1, none⟩ = some (.int .u64 a0_1) := (blk_cell BK455.out 1).trans rfl; have hcz18_2 : w16.cell? ⟨gb455, 2, none⟩ = some (.int .u64 a0_2) := (blk_cell BK455.out 2).trans rfl; have hfz18_0 := blk_frozen BK455.out 0; have hfz18_1 := blk_frozen BK455.out 1; have hfz18_2 := blk_frozen BK455.out 2; have hcz19_0 : w16.cell? ⟨gb456, 0, none⟩ = some (.bool a1_0) := (blk_cell BK456.out 0).trans rfl; have hcz19_1 : w16.cell? ⟨gb456, 1, none⟩ = some (.int .u64 a1_1) := (blk_cell BK456.out 1).trans rfl; have hcz19_2 : w16.cell? ⟨gb456, 2, none⟩ = some (.int .u64 a1_2) := (blk_cell BK456.out 2).trans rfl; have hfz19_0 := blk_frozen BK456.out 0; have hfz19_1 := blk_frozen BK456.out 1; have hfz19_2 := blk_frozen BK456.out 2))
      go_ret
      exact ⟨by first | rfl | (simp [errW_none, errW_some] <;> rfl) | (simp [*, errW_none, errW_some] <;> rfl), by repeat (first | (with_reducible first | exact HB.out | apply below_alloc | apply pw_below_drewN | apply below_drew1 | refine below_set ?_ GE455.out | refine below_set ?_ GE456.out) | exact HB.out)⟩
def bagatelleref01_exact.f (a0 : Int) : Option (Bool × Int × Int) := (bagatelleref01_size.f a0).bind fun t476 => (some (decide (a0 < 0), 0, t476))
set_option maxHeartbeats 8000000 in
set_option maxRecDepth 100000 in
theorem bagatelleref01_exact.calls (a0 : Int) (r1 : Bool) (r2 : Int) (r3 : Int) (w : World) (h : bagatelleref01_exact.f a0 = some (r1, r2, r3)) :
    Calls Try.prog 85 #[.int .i64 a0] w fun e w' => e = .returned (.agg #[.bool r1, .int .u64 r2, .int .u64 r3]) ∧ Below w.heap.size w w' := by
  have hu64 := Try.underlying64
  have HB := Aside0.mk (Below.refl w.heap.size w)
  have H : ((bagatelleref01_size.f a0).bind fun t476 => (some (decide (a0 < 0), 0, t476))) = some (r1, r2, r3) := h
  clear h
  replace H := Option.bind_eq_some_iff.mp H
  obtain ⟨t476, A20, H⟩ := H
  replace H : (some (decide (a0 < 0), 0, t476)) = some (r1, r2, r3) := H
  have A2 := Aside0.mk A20
  clear A20
  simp only [Option.some.injEq, Prod.mk.injEq] at H
  obtain ⟨rfl, rfl, rfl⟩ := H
  go_enter Try.func85, Try.ntmps85
  go_wp2_with (first | ((with_reducible refine gate_dst (N := 2) rfl ?_); refine box_event ?hg (N := 2) ?hd (cs := #[.bool false, .int .u64 0, .int .u64 0]) (t := 64) ?hr ?_; (case hd => rfl); (case hg => rfl); (case hr => first | (go_simp; done) | (go_simp; rfl)); intro gb475 hg w3 hbox hb; have n0_ := Aside0.mk (below_step (by repeat (first | (with_reducible first | exact HB.out | apply below_alloc | apply pw_below_drewN | apply below_drew1) | exact HB.out)) hb); have n1_ := Aside0.mk (hbox); have n2_ := Aside0.mk ((by rw [hg]; exact (below_size (by repeat (first | (with_reducible first | exact HB.out | apply below_alloc | apply pw_below_drewN | apply below_drew1) | exact HB.out))) : w.heap.size ≤ gb475)); have n3_ := Aside0.mk ((by rw [hg]; exact (below_size (by repeat (first | (with_reducible first | exact HB.out | apply below_alloc | apply pw_below_drewN | apply below_drew1) | exact HB.out))) : w.heap.size ≤ gb475)); clear HB; have HB := n0_; have BK475 := n1_; have GW475 := n2_; have GE475 := n3_; clear n0_ n1_ n2_ n3_; clear hb hbox hg) | ((with_reducible refine gate_callee (f := 98) rfl ?_); refine goesL_ (some 6) rfl rfl Try.func98 (by kernel_rfl) rfl #[.int .i64 a0] rfl (by (try simp only [List.map_toArray, List.map_cons, List.map_nil]); first | done | rfl | (simp only [List.length_drop, List.length_take]; rfl)) ?_; (with_reducible refine (bagatelleref01_size.calls a0 t476 _ A2.out).mono ?_); rintro e w' ⟨rfl, ⟨nd, rfl⟩⟩; refine ⟨_, rfl, ?_⟩; (try (rw [drewN_self w3]; generalize hq_ : World.drewN w3 _ = w3; have n0_ : Aside0 (w3.heap[gb475]? = some (.cells #[.bool false, .int .u64 0, .int .u64 0] 64 (0, 0))) := ⟨by rw [← hq_]; exact (by (with_reducible repeat (first | refine blk_drewN ?_ _ | refine blk_drew ?_ | refine blk_alloc ?_ _)); exact BK475.out)⟩; have n1_ : Aside0 (Below w.heap.size w w3) := ⟨by rw [← hq_]; exact (by repeat (first | (with_reducible first | exact HB.out | apply below_alloc | apply pw_below_drewN | apply below_drew1 | refine below_set ?_ GE475.out) | exact HB.out))⟩; clear BK475 HB hq_; have BK475 := n0_; have HB := n1_; clear n0_ n1_)); have hcz4_0 : w3.cell? ⟨gb475, 0, none⟩ = some (.bool false) := (blk_cell BK475.out 0).trans rfl; have hcz4_1 : w3.cell? ⟨gb475, 1, none⟩ = some (.int .u64 0) := (blk_cell BK475.out 1).trans rfl; have hcz4_2 : w3.cell? ⟨gb475, 2, none⟩ = some (.int .u64 0) := (blk_cell BK475.out 2).trans rfl; have hfz4_0 := blk_frozen BK475.out 0; have hfz4_1 := blk_frozen BK475.out 1; have hfz4_2 := blk_frozen BK475.out 2))
  refine bodyPost_ret (results_cell_row rfl _ _ gb475 64 #[.bool (decide (a0 < 0)), .int .u64 0, .int .u64 t476] (0, 0) _ rfl (by (with_reducible repeat (first | refine blk_drewN ?_ _ | refine blk_drew ?_ | refine blk_alloc ?_ _)); refine blk_put (cs := #[.bool (decide (a0 < 0)), .int .u64 0, .int .u64 0]) ?_ 2 _ rfl; (with_reducible repeat (first | refine blk_drewN ?_ _ | refine blk_drew ?_ | refine blk_alloc ?_ _)); refine blk_put (cs := #[.bool (decide (a0 < 0)), .int .u64 0, .int .u64 0]) ?_ 1 _ rfl; (with_reducible repeat (first | refine blk_drewN ?_ _ | refine blk_drew ?_ | refine blk_alloc ?_ _)); refine blk_put (cs := #[.bool false, .int .u64 0, .int .u64 0]) ?_ 0 _ rfl; (with_reducible repeat (first | refine blk_drewN ?_ _ | refine blk_drew ?_ | refine blk_alloc ?_ _)); exact BK475.out) Try.underlying64 rfl (by kernel_rfl)) rfl ?_
  exact ⟨by first | rfl | (simp [errW_none, errW_some] <;> rfl) | (simp [*, errW_none, errW_some] <;> rfl), by repeat (first | (with_reducible first | exact HB.out | apply below_alloc | apply pw_below_drewN | apply below_drew1 | refine below_set ?_ GE475.out) | exact HB.out)⟩
def bagatelleref01_fit.j0 : Nat → Bool → Int → Bool → Bool → Int → Int → Option (Int × Bool)
  | 0, _, _, _, _, _, _ => none
  | k + 1, x1, x5, x13, x478000, x478001, x478002 => if x13 = true then (if x478000 = true then (some (wrap64 (-x5), true)) else (some (x5, true))) else (if x478000 = true then (some (wrap64 (-(wrap64 (x478002))), x1)) else (some (wrap64 (x478002), x1)))
def bagatelleref01_fit.f (k : Nat) (a0_0 : Bool) (a0_1 : Int) (a0_2 : Int) (a1 : Bool) : Option (Int × Bool) := if a0_1 = 0 then (bagatelleref01_fit.j0 k a1 9223372036854775807 (decide (a0_2 > 9223372036854775807)) a0_0 a0_1 a0_2) else (bagatelleref01_fit.j0 k a1 9223372036854775807 true a0_0 a0_1 a0_2)
set_option maxHeartbeats 8000000 in
set_option maxRecDepth 100000 in
theorem bagatelleref01_fit.calls (k : Nat) (a0_0 : Bool) (a0_1 : Int) (a0_2 : Int) (a1 : Bool) (r1 : Int) (r2 : Bool) (w : World) (h : bagatelleref01_fit.f k a0_0 a0_1 a0_2 a1 = some (r1, r2)) :
    Calls Try.prog 86 #[.agg #[.bool a0_0, .int .u64 a0_1, .int .u64 a0_2], .bool a1] w fun e w' => e = .returned (.agg #[.int .i64 r1, .bool r2]) ∧ Below w.heap.size w w' := by
  have hu64 := Try.underlying64
  have hu23 := Try.underlying23
  have HB := Aside0.mk (Below.refl w.heap.size w)
  have H : (if a0_1 = 0 then (bagatelleref01_fit.j0 k a1 9223372036854775807 (decide (a0_2 > 9223372036854775807)) a0_0 a0_1 a0_2) else (bagatelleref01_fit.j0 k a1 9223372036854775807 true a0_0 a0_1 a0_2)) = some (r1, r2) := h
  clear h
  have HC3 := Aside0.mk H
  clear H
  go_enter Try.func86, Try.ntmps86
  go_upto_region 2 with (first | ((with_reducible refine gate_dst (N := 2) rfl ?_); refine box_event ?hg (N := 2) ?hd (cs := #[.bool a0_0, .int .u64 a0_1, .int .u64 a0_2]) (t := 64) ?hr ?_; (case hd => rfl); (case hg => rfl); (case hr => first | (go_simp; done) | (go_simp; rfl)); intro gb477 hg w4 hbox hb; have n0_ := Aside0.mk (below_step (by repeat (first | (with_reducible first | exact HB.out | apply below_alloc | apply pw_below_drewN | apply below_drew1) | exact HB.out)) hb); have n1_ := Aside0.mk (hbox); have n2_ := Aside0.mk ((by rw [hg]; exact (below_size (by repeat (first | (with_reducible first | exact HB.out | apply below_alloc | apply pw_below_drewN | apply below_drew1) | exact HB.out))) : w.heap.size ≤ gb477)); have n3_ := Aside0.mk ((by rw [hg]; exact (below_size (by repeat (first | (with_reducible first | exact HB.out | apply below_alloc | apply pw_below_drewN | apply below_drew1) | exact HB.out))) : w.heap.size ≤ gb477)); clear HB; have HB := n0_; have BK477 := n1_; have GW477 := n2_; have GE477 := n3_; clear n0_ n1_ n2_ n3_; clear hb hbox hg) | ((with_reducible refine gate_dst (N := 4) rfl ?_); refine box_event ?hg (N := 4) ?hd (cs := #[.int .i64 0, .bool false]) (t := 23) ?hr ?_; (case hd => rfl); (case hg => rfl); (case hr => first | (go_simp; done) | (go_simp; rfl)); intro gb478 hg w5 hbox hb; have n0_ := Aside0.mk (blk_below (g := gb477) (o := .cells #[.bool a0_0, .int .u64 a0_1, .int .u64 a0_2] 64 (0, 0)) (by (with_reducible repeat (first | refine blk_drewN ?_ _ | refine blk_drew ?_ | refine blk_alloc ?_ _)); exact BK477.out) hb); have n1_ := Aside0.mk (below_step (by repeat (first | (with_reducible first | exact HB.out | apply below_alloc | apply pw_below_drewN | apply below_drew1 | refine below_set ?_ GE477.out) | exact HB.out)) hb); have n2_ := Aside0.mk (hbox); have n3_ := Aside0.mk ((by rw [hg]; exact (below_size (by repeat (first | (with_reducible first | exact HB.out | apply below_alloc | apply pw_below_drewN | apply below_drew1 | refine below_set ?_ GE477.out) | exact HB.out))) : w.heap.size ≤ gb478)); have n4_ := Aside0.mk ((by rw [hg]; exact (below_size (by repeat (first | (with_reducible first | exact HB.out | apply below_alloc | apply pw_below_drewN | apply below_drew1 | refine below_set ?_ GE477.out) | exact HB.out))) : w.heap.size ≤ gb478)); have n5_ := Aside0.mk ((by rw [hg]; exact Nat.ne_of_lt (blk_lt (g := gb477) (o := .cells #[.bool a0_0, .int .u64 a0_1, .int .u64 a0_2] 64 (0, 0)) (by (with_reducible repeat (first | refine blk_drewN ?_ _ | refine blk_drew ?_ | refine blk_alloc ?_ _)); exact BK477.out)) : gb477 ≠ gb478)); have n6_ := Aside0.mk ((by rw [hg]; exact Nat.ne_of_gt (blk_lt (g := gb477) (o := .cells #[.bool a0_0, .int .u64 a0_1, .int .u64 a0_2] 64 (0, 0)) (by (with_reducible repeat (first | refine blk_drewN ?_ _ | refine blk_drew ?_ | refine blk_alloc ?_ _)); exact BK477.out)) : gb478 ≠ gb477)); clear BK477; clear HB; have BK477 := n0_; have HB := n1_; have BK478 := n2_; have GW478 := n3_; have GE478 := n4_; have NB477_478 := n5_; have NB478_477 := n6_; clear n0_ n1_ n2_ n3_ n4_ n5_ n6_; clear hb hbox hg))
  (try simp only [Act.put, List.setIfInBounds_toArray, List.set_cons_zero, List.set_cons_succ])
  go_cut [13] (fun v13 wc => ∃ (kq : Nat) (x13_2 : Bool), v13 = .bool x13_2 ∧ Aside0 (bagatelleref01_fit.j0 kq a1 9223372036854775807 x13_2 a0_0 a0_1 a0_2 = some (r1, r2)) ∧ Aside0 (kq ≤ k) ∧ Aside0 (wc.heap[gb477]? = some (.cells #[.bool a0_0, .int .u64 a0_1, .int .u64 a0_2] 64 (0, 0))) ∧ Aside0 (wc.heap[gb478]? = some (.cells #[.int .i64 0, .bool false] 23 (0, 0))) ∧ Aside0 (Below w.heap.size w wc))
  case first =>
    have H := HC3.out
    clear HC3
    by_cases c6 : a0_1 = 0
    · rw [if_pos c6] at H
      have c6b0 : (a0_1 == 0) = true := beq_iff_eq.mpr c6
      have c6b1 : (a0_1 != 0) = false := bne_eq_false_iff_eq.mpr c6
      clear c6
      (first | rw [c6b0] | (simp only [i64_w, i32_w]; rw [c6b0]) | skip)
      have H' := Aside0.mk H
      clear H
      have hnb7 := NB477_478.out
      have hnc7 := NB478_477.out
      have hcz8_0 : w5.cell? ⟨gb477, 0, none⟩ = some (.bool a0_0) := (blk_cell BK477.out 0).trans rfl
      have hcz8_1 : w5.cell? ⟨gb477, 1, none⟩ = some (.int .u64 a0_1) := (blk_cell BK477.out 1).trans rfl
      have hcz8_2 : w5.cell? ⟨gb477, 2, none⟩ = some (.int .u64 a0_2) := (blk_cell BK477.out 2).trans rfl
      have hfz8_0 := blk_frozen BK477.out 0
      have hfz8_1 := blk_frozen BK477.out 1
      have hfz8_2 := blk_frozen BK477.out 2
      go_wp2
      go_meet
      case rel => exact ⟨_, (decide (a0_2 > 9223372036854775807)), (by first | rfl | (simp; done) | (simp [*]; done)), H', ⟨by first | omega | exact Nat.le_refl _⟩, ⟨by (with_reducible repeat (first | refine blk_drewN ?_ _ | refine blk_drew ?_ | refine blk_alloc ?_ _)); exact BK477.out⟩, ⟨by (with_reducible repeat (first | refine blk_drewN ?_ _ | refine blk_drew ?_ | refine blk_alloc ?_ _)); exact BK478.out⟩, ⟨by repeat (first | (with_reducible first | exact HB.out | apply below_alloc | apply pw_below_drewN | apply below_drew1 | refine below_set ?_ GE477.out | refine below_set ?_ GE478.out) | exact HB.out)⟩⟩
    · rw [if_neg c6] at H
      have c6b0 : (a0_1 == 0) = false := beq_eq_false_iff_ne.mpr c6
      have c6b1 : (a0_1 != 0) = true := bne_iff_ne.mpr c6
      (first | rw [c6b0] | (simp only [i64_w, i32_w]; rw [c6b0]) | skip)
      have H' := Aside0.mk H
      clear H
      have hnb9 := NB477_478.out
      have hnc9 := NB478_477.out
      have hcz10_0 : w5.cell? ⟨gb477, 0, none⟩ = some (.bool a0_0) := (blk_cell BK477.out 0).trans rfl
      have hcz10_1 : w5.cell? ⟨gb477, 1, none⟩ = some (.int .u64 a0_1) := (blk_cell BK477.out 1).trans rfl
      have hcz10_2 : w5.cell? ⟨gb477, 2, none⟩ = some (.int .u64 a0_2) := (blk_cell BK477.out 2).trans rfl
      have hfz10_0 := blk_frozen BK477.out 0
      have hfz10_1 := blk_frozen BK477.out 1
      have hfz10_2 := blk_frozen BK477.out 2
      go_wp2
      go_meet
      case rel => exact ⟨_, (true), (by first | rfl | (simp; done) | (simp [*]; done)), H', ⟨by first | omega | exact Nat.le_refl _⟩, ⟨by (with_reducible repeat (first | refine blk_drewN ?_ _ | refine blk_drew ?_ | refine blk_alloc ?_ _)); exact BK477.out⟩, ⟨by (with_reducible repeat (first | refine blk_drewN ?_ _ | refine blk_drew ?_ | refine blk_alloc ?_ _)); exact BK478.out⟩, ⟨by repeat (first | (with_reducible first | exact HB.out | apply below_alloc | apply pw_below_drewN | apply below_drew1 | refine below_set ?_ GE477.out | refine below_set ?_ GE478.out) | exact HB.out)⟩⟩
  case rest =>
    clear HC3
    try clear p2
    try clear c6
    try clear c6b0
    try clear c6b1
    try clear c7
    try clear c8
    try clear c9
    try clear hcz10_0
    try clear hcz10_1
    try clear hcz10_2
    try clear hcz8_0
    try clear hcz8_1
    try clear hcz8_2
    try clear hfz10_0
    try clear hfz10_1
    try clear hfz10_2
    try clear hfz8_0
    try clear hfz8_1
    try clear hfz8_2
    obtain ⟨kq, x13_2, rfl, HA, HJ2, BK477, BK478, HB⟩ := hcut
    cases kq with
    | zero => exact absurd HA.out (by simp [bagatelleref01_fit.j0])
    | succ kj2 =>
      have H := HA.out
      clear HA
      simp only [bagatelleref01_fit.j0] at H
      by_cases c11 : x13_2 = true
      · subst c11
        have H1 : (if a0_0 = true then (some (wrap64 (-9223372036854775807), true)) else (some (9223372036854775807, true))) = some (r1, r2) := by rw [if_pos rfl] at H; exact H
        clear H
        have H := H1
        clear H1
        by_cases c12 : a0_0 = true
        · subst c12
          have H1 : (some ((-9223372036854775807), true)) = some (r1, r2) := by rw [if_pos rfl, show wrap64 (-9223372036854775807) = (-9223372036854775807) from by unfold wrap64; omega] at H; exact H
          clear H
          have H := H1
          clear H1
          simp only [Option.some.injEq, Prod.mk.injEq] at H
          obtain ⟨rfl, rfl⟩ := H
          have hnb13 := NB477_478.out
          have hnc13 := NB478_477.out
          have hcz14_0 : wc.cell? ⟨gb477, 0, none⟩ = some (.bool true) := (blk_cell BK477.out 0).trans rfl
          have hcz14_1 : wc.cell? ⟨gb477, 1, none⟩ = some (.int .u64 a0_1) := (blk_cell BK477.out 1).trans rfl
          have hcz14_2 : wc.cell? ⟨gb477, 2, none⟩ = some (.int .u64 a0_2) := (blk_cell BK477.out 2).trans rfl
          have hfz14_0 := blk_frozen BK477.out 0
          have hfz14_1 := blk_frozen BK477.out 1
          have hfz14_2 := blk_frozen BK477.out 2
          have hcz15_0 : wc.cell? ⟨gb478, 0, none⟩ = some (.int .i64 0) := (blk_cell BK478.out 0).trans rfl
          have hcz15_1 : wc.cell? ⟨gb478, 1, none⟩ = some (.bool false) := (blk_cell BK478.out 1).trans rfl
          have hfz15_0 := blk_frozen BK478.out 0
          have hfz15_1 := blk_frozen BK478.out 1
          go_wp2
          refine bodyPost_ret (results_cell_row rfl _ _ gb478 23 #[.int .i64 (-9223372036854775807), .bool true] (0, 0) _ rfl (by (with_reducible repeat (first | refine blk_drewN ?_ _ | refine blk_drew ?_ | refine blk_alloc ?_ _)); refine blk_put (cs := #[.int .i64 (-9223372036854775807), .bool false]) ?_ 1 _ rfl; (with_reducible repeat (first | refine blk_drewN ?_ _ | refine blk_drew ?_ | refine blk_alloc ?_ _)); refine blk_put (cs := #[.int .i64 0, .bool false]) ?_ 0 _ rfl; (with_reducible repeat (first | refine blk_drewN ?_ _ | refine blk_drew ?_ | refine blk_alloc ?_ _)); exact BK478.out) Try.underlying23 rfl (by kernel_rfl)) rfl ?_
          exact ⟨by first | rfl | (simp [errW_none, errW_some] <;> rfl) | (simp [*, errW_none, errW_some] <;> rfl), by repeat (first | (with_reducible first | exact HB.out | apply below_alloc | apply pw_below_drewN | apply below_drew1 | refine below_set ?_ GE477.out | refine below_set ?_ GE478.out) | exact HB.out)⟩
        · replace c12 := Bool.eq_false_iff.mpr c12
          subst c12
          have H1 : (some (9223372036854775807, true)) = some (r1, r2) := by rw [if_neg (show ¬ (false = true) by decide)] at H; exact H
          clear H
          have H := H1
          clear H1
          simp only [Option.some.injEq, Prod.mk.injEq] at H
          obtain ⟨rfl, rfl⟩ := H
          have hnb16 := NB477_478.out
          have hnc16 := NB478_477.out
          have hcz17_0 : wc.cell? ⟨gb477, 0, none⟩ = some (.bool false) := (blk_cell BK477.out 0).trans rfl
          have hcz17_1 : wc.cell? ⟨gb477, 1, none⟩ = some (.int .u64 a0_1) := (blk_cell BK477.out 1).trans rfl
          have hcz17_2 : wc.cell? ⟨gb477, 2, none⟩ = some (.int .u64 a0_2) := (blk_cell BK477.out 2).trans rfl
          have hfz17_0 := blk_frozen BK477.out 0
          have hfz17_1 := blk_frozen BK477.out 1
          have hfz17_2 := blk_frozen BK477.out 2
          have hcz18_0 : wc.cell? ⟨gb478, 0, none⟩ = some (.int .i64 0) := (blk_cell BK478.out 0).trans rfl
          have hcz18_1 : wc.cell? ⟨gb478, 1, none⟩ = some (.bool false) := (blk_cell BK478.out 1).trans rfl
          have hfz18_0 := blk_frozen BK478.out 0
          have hfz18_1 := blk_frozen BK478.out 1
          go_wp2
          refine bodyPost_ret (results_cell_row rfl _ _ gb478 23 #[.int .i64 9223372036854775807, .bool true] (0, 0) _ rfl (by (with_reducible repeat (first | refine blk_drewN ?_ _ | refine blk_drew ?_ | refine blk_alloc ?_ _)); refine blk_put (cs := #[.int .i64 9223372036854775807, .bool false]) ?_ 1 _ rfl; (with_reducible repeat (first | refine blk_drewN ?_ _ | refine blk_drew ?_ | refine blk_alloc ?_ _)); refine blk_put (cs := #[.int .i64 0, .bool false]) ?_ 0 _ rfl; (with_reducible repeat (first | refine blk_drewN ?_ _ | refine blk_drew ?_ | refine blk_alloc ?_ _)); exact BK478.out) Try.underlying23 rfl (by kernel_rfl)) rfl ?_
          exact ⟨by first | rfl | (simp [errW_none, errW_some] <;> rfl) | (simp [*, errW_none, errW_some] <;> rfl), by repeat (first | (with_reducible first | exact HB.out | apply below_alloc | apply pw_below_drewN | apply below_drew1 | refine below_set ?_ GE477.out | refine below_set ?_ GE478.out) | exact HB.out)⟩
      · replace c11 := Bool.eq_false_iff.mpr c11
        subst c11
        have H1 : (if a0_0 = true then (some (wrap64 (-(wrap64 (a0_2))), a1)) else (some (wrap64 (a0_2), a1))) = some (r1, r2) := by rw [if_neg (show ¬ (false = true) by decide)] at H; exact H
        clear H
        have H := H1
        clear H1
        by_cases c19 : a0_0 = true
        · subst c19
          have H1 : (some (wrap64 (-(wrap64 (a0_2))), a1)) = some (r1, r2) := by rw [if_pos rfl] at H; exact H
          clear H
          have H := H1
          clear H1
          simp only [Option.some.injEq, Prod.mk.injEq] at H
          obtain ⟨rfl, rfl⟩ := H
          have hnb20 := NB477_478.out
          have hnc20 := NB478_477.out
          have hcz21_0 : wc.cell? ⟨gb477, 0, none⟩ = some (.bool true) := (blk_cell BK477.out 0).trans rfl
          have hcz21_1 : wc.cell? ⟨gb477, 1, none⟩ = some (.int .u64 a0_1) := (blk_cell BK477.out 1).trans rfl
          have hcz21_2 : wc.cell? ⟨gb477, 2, none⟩ = some (.int .u64 a0_2) := (blk_cell BK477.out 2).trans rfl
          have hfz21_0 := blk_frozen BK477.out 0
          have hfz21_1 := blk_frozen BK477.out 1
          have hfz21_2 := blk_frozen BK477.out 2
          have hcz22_0 : wc.cell? ⟨gb478, 0, none⟩ = some (.int .i64 0) := (blk_cell BK478.out 0).trans rfl
          have hcz22_1 : wc.cell? ⟨gb478, 1, none⟩ = some (.bool false) := (blk_cell BK478.out 1).trans rfl
          have hfz22_0 := blk_frozen BK478.out 0
          have hfz22_1 := blk_frozen BK478.out 1
          go_wp2
          refine bodyPost_ret (results_cell_row rfl _ _ gb478 23 #[.int .i64 (wrap64 (-(wrap64 (a0_2)))), .bool a1] (0, 0) _ rfl (by (with_reducible repeat (first | refine blk_drewN ?_ _ | refine blk_drew ?_ | refine blk_alloc ?_ _)); refine blk_put (cs := #[.int .i64 (wrap64 (-(wrap64 (a0_2)))), .bool false]) ?_ 1 _ rfl; (with_reducible repeat (first | refine blk_drewN ?_ _ | refine blk_drew ?_ | refine blk_alloc ?_ _)); refine blk_put (cs := #[.int .i64 0, .bool false]) ?_ 0 _ rfl; (with_reducible repeat (first | refine blk_drewN ?_ _ | refine blk_drew ?_ | refine blk_alloc ?_ _)); exact BK478.out) Try.underlying23 rfl (by kernel_rfl)) rfl ?_
          exact ⟨by first | rfl | (simp [errW_none, errW_some] <;> rfl) | (simp [*, errW_none, errW_some] <;> rfl), by repeat (first | (with_reducible first | exact HB.out | apply below_alloc | apply pw_below_drewN | apply below_drew1 | refine below_set ?_ GE477.out | refine below_set ?_ GE478.out) | exact HB.out)⟩
        · replace c19 := Bool.eq_false_iff.mpr c19
          subst c19
          have H1 : (some (wrap64 (a0_2), a1)) = some (r1, r2) := by rw [if_neg (show ¬ (false = true) by decide)] at H; exact H
          clear H
          have H := H1
          clear H1
          simp only [Option.some.injEq, Prod.mk.injEq] at H
          obtain ⟨rfl, rfl⟩ := H
          have hnb23 := NB477_478.out
          have hnc23 := NB478_477.out
          have hcz24_0 : wc.cell? ⟨gb477, 0, none⟩ = some (.bool false) := (blk_cell BK477.out 0).trans rfl
          have hcz24_1 : wc.cell? ⟨gb477, 1, none⟩ = some (.int .u64 a0_1) := (blk_cell BK477.out 1).trans rfl
          have hcz24_2 : wc.cell? ⟨gb477, 2, none⟩ = some (.int .u64 a0_2) := (blk_cell BK477.out 2).trans rfl
          have hfz24_0 := blk_frozen BK477.out 0
          have hfz24_1 := blk_frozen BK477.out 1
          have hfz24_2 := blk_frozen BK477.out 2
          have hcz25_0 : wc.cell? ⟨gb478, 0, none⟩ = some (.int .i64 0) := (blk_cell BK478.out 0).trans rfl
          have hcz25_1 : wc.cell? ⟨gb478, 1, none⟩ = some (.bool false) := (blk_cell BK478.out 1).trans rfl
          have hfz25_0 := blk_frozen BK478.out 0
          have hfz25_1 := blk_frozen BK478.out 1
          go_wp2
          refine bodyPost_ret (results_cell_row rfl _ _ gb478 23 #[.int .i64 (wrap64 (a0_2)), .bool a1] (0, 0) _ rfl (by (with_reducible repeat (first | refine blk_drewN ?_ _ | refine blk_drew ?_ | refine blk_alloc ?_ _)); refine blk_put (cs := #[.int .i64 (wrap64 (a0_2)), .bool false]) ?_ 1 _ rfl; (with_reducible repeat (first | refine blk_drewN ?_ _ | refine blk_drew ?_ | refine blk_alloc ?_ _)); refine blk_put (cs := #[.int .i64 0, .bool false]) ?_ 0 _ rfl; (with_reducible repeat (first | refine blk_drewN ?_ _ | refine blk_drew ?_ | refine blk_alloc ?_ _)); exact BK478.out) Try.underlying23 rfl (by kernel_rfl)) rfl ?_
          exact ⟨by first | rfl | (simp [errW_none, errW_some] <;> rfl) | (simp [*, errW_none, errW_some] <;> rfl), by repeat (first | (with_reducible first | exact HB.out | apply below_alloc | apply pw_below_drewN | apply below_drew1 | refine below_set ?_ GE477.out | refine below_set ?_ GE478.out) | exact HB.out)⟩
def bagatelleref01_up.f (a0_0 : Bool) (a0_1 : Int) (a0_2 : Int) : Option (Bool × Int × Int) := some (a0_0, Go.bits .or .u64 (IntKind.u64.wrap (a0_1 * 4294967296)) (a0_2 / 4294967296), IntKind.u64.wrap (a0_2 * 4294967296))
set_option maxHeartbeats 8000000 in
set_option maxRecDepth 100000 in
theorem bagatelleref01_up.calls (a0_0 : Bool) (a0_1 : Int) (a0_2 : Int) (r1 : Bool) (r2 : Int) (r3 : Int) (w : World) (h : bagatelleref01_up.f a0_0 a0_1 a0_2 = some (r1, r2, r3)) :
    Calls Try.prog 95 #[.agg #[.bool a0_0, .int .u64 a0_1, .int .u64 a0_2]] w fun e w' => e = .returned (.agg #[.bool r1, .int .u64 r2, .int .u64 r3]) ∧ Below w.heap.size w w' := by
  have hu64 := Try.underlying64
  have HB := Aside0.mk (Below.refl w.heap.size w)
  have H : (some (a0_0, Go.bits .or .u64 (IntKind.u64.wrap (a0_1 * 4294967296)) (a0_2 / 4294967296), IntKind.u64.wrap (a0_2 * 4294967296))) = some (r1, r2, r3) := h
  clear h
  simp only [Option.some.injEq, Prod.mk.injEq] at H
  obtain ⟨rfl, rfl, rfl⟩ := H
  go_enter Try.func95, Try.ntmps95
  go_wp2_with (first | ((with_reducible refine gate_dst (N := 1) rfl ?_); refine box_event ?hg (N := 1) ?hd (cs := #[.bool a0_0, .int .u64 a0_1, .int .u64 a0_2]) (t := 64) ?hr ?_; (case hd => rfl); (case hg => rfl); (case hr => first | (go_simp; done) | (go_simp; rfl)); intro gb479 hg w2 hbox hb; have n0_ := Aside0.mk (below_step (by repeat (first | (with_reducible first | exact HB.out | apply below_alloc | apply pw_below_drewN | apply below_drew1) | exact HB.out)) hb); have n1_ := Aside0.mk (hbox); have n2_ := Aside0.mk ((by rw [hg]; exact (below_size (by repeat (first | (with_reducible first | exact HB.out | apply below_alloc | apply pw_below_drewN | apply below_drew1) | exact HB.out))) : w.heap.size ≤ gb479)); have n3_ := Aside0.mk ((by rw [hg]; exact (below_size (by repeat (first | (with_reducible first | exact HB.out | apply below_alloc | apply pw_below_drewN | apply below_drew1) | exact HB.out))) : w.heap.size ≤ gb479)); clear HB; have HB := n0_; have BK479 := n1_; have GW479 := n2_; have GE479 := n3_; clear n0_ n1_ n2_ n3_; clear hb hbox hg) | ((with_reducible refine gate_dst (N := 2) rfl ?_); refine box_event ?hg (N := 2) ?hd (cs := #[.bool false, .int .u64 0, .int .u64 0]) (t := 64) ?hr ?_; (case hd => rfl); (case hg => rfl); (case hr => first | (go_simp; done) | (go_simp; rfl)); intro gb480 hg w3 hbox hb; have n0_ := Aside0.mk (blk_below (g := gb479) (o := .cells #[.bool a0_0, .int .u64 a0_1, .int .u64 a0_2] 64 (0, 0)) (by (with_reducible repeat (first | refine blk_drewN ?_ _ | refine blk_drew ?_ | refine blk_alloc ?_ _)); exact BK479.out) hb); have n1_ := Aside0.mk (below_step (by repeat (first | (with_reducible first | exact HB.out | apply below_alloc | apply pw_below_drewN | apply below_drew1 | refine below_set ?_ GE479.out) | exact HB.out)) hb); have n2_ := Aside0.mk (hbox); have n3_ := Aside0.mk ((by rw [hg]; exact (below_size (by repeat (first | (with_reducible first | exact HB.out | apply below_alloc | apply pw_below_drewN | apply below_drew1 | refine below_set ?_ GE479.out) | exact HB.out))) : w.heap.size ≤ gb480)); have n4_ := Aside0.mk ((by rw [hg]; exact (below_size (by repeat (first | (with_reducible first | exact HB.out | apply below_alloc | apply pw_below_drewN | apply below_drew1 | refine below_set ?_ GE479.out) | exact HB.out))) : w.heap.size ≤ gb480)); have n5_ := Aside0.mk ((by rw [hg]; exact Nat.ne_of_lt (blk_lt (g := gb479) (o := .cells #[.bool a0_0, .int .u64 a0_1, .int .u64 a0_2] 64 (0, 0)) (by (with_reducible repeat (first | refine blk_drewN ?_ _ | refine blk_drew ?_ | refine blk_alloc ?_ _)); exact BK479.out)) : gb479 ≠ gb480)); have n6_ := Aside0.mk ((by rw [hg]; exact Nat.ne_of_gt (blk_lt (g := gb479) (o := .cells #[.bool a0_0, .int .u64 a0_1, .int .u64 a0_2] 64 (0, 0)) (by (with_reducible repeat (first | refine blk_drewN ?_ _ | refine blk_drew ?_ | refine blk_alloc ?_ _)); exact BK479.out)) : gb480 ≠ gb479)); clear BK479; clear HB; have BK479 := n0_; have HB := n1_; have BK480 := n2_; have GW480 := n3_; have GE480 := n4_; have NB479_480 := n5_; have NB480_479 := n6_; clear n0_ n1_ n2_ n3_ n4_ n5_ n6_; clear hb hbox hg; have hnb4 := NB479_480.out; have hnc4 := NB480_479.out; have hcz5_0 : w3.cell? ⟨gb479, 0, none⟩ = some (.bool a0_0) := (blk_cell BK479.out 0).trans rfl; have hcz5_1 : w3.cell? ⟨gb479, 1, none⟩ = some (.int .u64 a0_1) := (blk_cell BK479.out 1).trans rfl; have hcz5_2 : w3.cell? ⟨gb479, 2, none⟩ = some (.int .u64 a0_2) := (blk_cell BK479.out 2).trans rfl; have hfz5_0 := blk_frozen BK479.out 0; have hfz5_1 := blk_frozen BK479.out 1; have hfz5_2 := blk_frozen BK479.out 2; have hcz6_0 : w3.cell? ⟨gb480, 0, none⟩ = some (.bool false) := (blk_cell BK480.out 0).trans rfl; have hcz6_1 : w3.cell? ⟨gb480, 1, none⟩ = some (.int .u64 0) := (blk_cell BK480.out 1).trans rfl; have hcz6_2 : w3.cell? ⟨gb480, 2, none⟩ = some (.int .u64 0) := (blk_cell BK480.out 2).trans rfl; have hfz6_0 := blk_frozen BK480.out 0; have hfz6_1 := blk_frozen BK480.out 1; have hfz6_2 := blk_frozen BK480.out 2))
  refine bodyPost_ret (results_cell_row rfl _ _ gb480 64 #[.bool a0_0, .int .u64 (Go.bits .or .u64 (IntKind.u64.wrap (a0_1 * 4294967296)) (a0_2 / 4294967296)), .int .u64 (IntKind.u64.wrap (a0_2 * 4294967296))] (0, 0) _ rfl (by (with_reducible repeat (first | refine blk_drewN ?_ _ | refine blk_drew ?_ | refine blk_alloc ?_ _)); refine blk_put (cs := #[.bool a0_0, .int .u64 (Go.bits .or .u64 (IntKind.u64.wrap (a0_1 * 4294967296)) (a0_2 / 4294967296)), .int .u64 0]) ?_ 2 _ rfl; (with_reducible repeat (first | refine blk_drewN ?_ _ | refine blk_drew ?_ | refine blk_alloc ?_ _)); refine blk_put (cs := #[.bool a0_0, .int .u64 0, .int .u64 0]) ?_ 1 _ rfl; (with_reducible repeat (first | refine blk_drewN ?_ _ | refine blk_drew ?_ | refine blk_alloc ?_ _)); refine blk_put (cs := #[.bool false, .int .u64 0, .int .u64 0]) ?_ 0 _ rfl; (with_reducible repeat (first | refine blk_drewN ?_ _ | refine blk_drew ?_ | refine blk_alloc ?_ _)); exact BK480.out) Try.underlying64 rfl (by kernel_rfl)) rfl ?_
  exact ⟨by first | rfl | (simp [errW_none, errW_some] <;> rfl) | (simp [*, errW_none, errW_some] <;> rfl), by repeat (first | (with_reducible first | exact HB.out | apply below_alloc | apply pw_below_drewN | apply below_drew1 | refine below_set ?_ GE479.out | refine below_set ?_ GE480.out) | exact HB.out)⟩
end Go.Proofs.Ytenpiaafkmfjfaa.B

end
section
namespace Go.Proofs.Ytenpiaafkmfjfaa.B
open Go.RowKit Go.Proofs.YtenpiaafkmfjfaaW.PrintWords Go.Proofs.YtenpiaafkmfjfaaW.PrintLast Go.Proofs.YtenpiaafkmfjfaaW.PrintMore
def I64 (v : Int) : Prop := -9223372036854775808 ≤ v ∧ v ≤ 9223372036854775807
theorem Snd.i64 {v : Int} (h : Snd v) : I64 v := by unfold Snd at h; unfold I64; omega
def sgn3 (x y : Int) : Int := if x < y then -1 else if x = y then 0 else 1
theorem of_f {v : Int} (h : I64 v) : fixed_of.f v = some (decide (v < 0), (v.natAbs : Int), 0) := by
  unfold I64 at h
  unfold fixed_of.f
  by_cases hv : v < 0
  · rw [if_pos hv, decide_eq_true hv]
    have e : IntKind.u64.wrap (-(IntKind.u64.wrap v)) = (v.natAbs : Int) := by rw [IntKind.wrap_u64, IntKind.wrap_u64]; omega
    rw [e]
  · rw [if_neg hv, decide_eq_false hv, u64_id (by omega) (by omega)]
    rw [show (v.natAbs : Int) = v by omega]
theorem size_f {v : Int} (h : I64 v) : bagatelleref01_size.f v = some (v.natAbs : Int) := by
  unfold I64 at h
  unfold bagatelleref01_size.f
  by_cases hv : v < 0
  · rw [if_pos hv]
    have e : IntKind.u64.wrap (wrap64 (-v)) = (v.natAbs : Int) := by rw [IntKind.wrap_u64]; unfold wrap64; omega
    rw [e]
  · rw [if_neg hv, u64_id (by omega) (by omega), show (v.natAbs : Int) = v by omega]
theorem whole_f (v : Int) (f : Bool) : bagatelleref01_whole.f v f = some (sv v, sf v f) := by
  unfold bagatelleref01_whole.f sv sf; split <;> rfl
theorem abs_mul_le {a b : Int} (ha : I64 a) (hb : I64 b) : a.natAbs * b.natAbs ≤ 85070591730234615865843651857942052864 := by
  unfold I64 at ha hb
  have := Nat.mul_le_mul (show a.natAbs ≤ 9223372036854775808 by omega) (show b.natAbs ≤ 9223372036854775808 by omega)
  omega
theorem mul_sign (a b : Int) : (decide (a < 0) != decide (b < 0)) = true → a * b = -((a.natAbs * b.natAbs : Nat) : Int) := by
  intro h
  rw [Int.natCast_mul]
  by_cases ha : a < 0
  · by_cases hb : b < 0
    · simp [ha, hb] at h
    · rw [show (a.natAbs : Int) = -a by omega, show (b.natAbs : Int) = b by omega, Int.neg_mul, Int.neg_neg]
  · by_cases hb : b < 0
    · rw [show (a.natAbs : Int) = a by omega, show (b.natAbs : Int) = -b by omega, Int.mul_neg, Int.neg_neg]
    · simp [ha, hb] at h
theorem mul_sign' (a b : Int) : (decide (a < 0) != decide (b < 0)) = false → a * b = ((a.natAbs * b.natAbs : Nat) : Int) := by
  intro h
  rw [Int.natCast_mul]
  by_cases ha : a < 0
  · by_cases hb : b < 0
    · rw [show (a.natAbs : Int) = -a by omega, show (b.natAbs : Int) = -b by omega, Int.neg_mul_neg]
    · simp [ha, hb] at h
  · by_cases hb : b < 0
    · simp [ha, hb] at h
    · rw [show (a.natAbs : Int) = a by omega, show (b.natAbs : Int) = b by omega]
theorem ex_nat (n : Bool) (p : Nat) (x : Int) (hp : p ≤ 85070591730234615865843651857942052864) (h1 : n = false → x = (p : Int)) (h2 : n = true → x = -(p : Int)) : Ex n ((p % 18446744073709551616 : Nat) : Int) ((p / 18446744073709551616 : Nat) : Int) x :=
  ⟨by omega, by omega, by omega, by omega, fun e => by have := h1 e; omega, fun e => by have := h2 e; omega⟩
theorem product_ex {a b : Int} (ha : I64 a) (hb : I64 b) : ∃ n lo hi, fixed_product.f a b = some (n, lo, hi) ∧ Ex n lo hi (a * b) := by
  have hp := abs_mul_le ha hb
  unfold fixed_product.f
  rw [of_f ha, of_f hb]
  unfold I64 at ha hb
  simp only [Option.bind_some, mul64_f a.natAbs b.natAbs (by omega) (by omega)]
  exact ⟨_, _, _, rfl, ex_nat _ _ _ hp (mul_sign' a b) (mul_sign a b)⟩
structure Rx (n : Bool) (hi lo x : Int) : Prop where
  ex : Ex n lo hi x
  s : n = decide (x < 0)
theorem times_ex {a b : Int} (ha : I64 a) (hb : I64 b) : ∃ n hi lo, bagatelleref01_times.f a b = some (n, hi, lo) ∧ Rx n hi lo (a * b) := by
  have hp := abs_mul_le ha hb
  unfold bagatelleref01_times.f
  rw [size_f ha, size_f hb]
  unfold I64 at ha hb
  simp only [Option.bind_some, mul64_f a.natAbs b.natAbs (by omega) (by omega)]
  by_cases hs : (decide (a < 0) != decide (b < 0)) = true
  · have e := mul_sign a b hs
    rw [if_pos hs]
    by_cases h0 : a = 0
    · rw [if_pos h0]
      subst h0
      simp only [Int.zero_mul, Int.natAbs_zero, Nat.zero_mul] at *
      exact ⟨_, _, _, rfl, ex_nat _ _ _ (by omega) (fun _ => by omega) (fun h => absurd h (by decide)), by decide⟩
    · rw [if_neg h0]
      by_cases h1 : b = 0
      · subst h1
        simp only [Int.mul_zero, Int.natAbs_zero, Nat.mul_zero, bne_self_eq_false] at *
        exact ⟨_, _, _, rfl, ex_nat _ _ _ (by omega) (fun _ => by omega) (fun h => absurd h (by decide)), by decide⟩
      · have hpos : 0 < a.natAbs * b.natAbs := Nat.mul_pos (by omega) (by omega)
        rw [show (b != 0) = true by simpa using h1]
        exact ⟨_, _, _, rfl, ex_nat _ _ _ hp (fun h => absurd h (by decide)) (fun _ => e), by rw [decide_eq_true]; omega⟩
  · have hs : (decide (a < 0) != decide (b < 0)) = false := by simpa using hs
    have e := mul_sign' a b hs
    rw [if_neg (by rw [hs]; decide)]
    exact ⟨_, _, _, rfl, ex_nat _ _ _ hp (fun _ => e) (fun h => absurd h (by decide)), by rw [decide_eq_false]; omega⟩
theorem add64s_i {x y c : Int} (hx : 0 ≤ x) (hy : 0 ≤ y) (hc : 0 ≤ c) : add64s x y c = (x + y + c) % 18446744073709551616 := by unfold add64s; omega
theorem add64c_i {x y c : Int} (hx : 0 ≤ x) (hy : 0 ≤ y) (hc : 0 ≤ c) : add64c x y c = (x + y + c) / 18446744073709551616 := by unfold add64c; omega
theorem sub64s_i {x y c : Int} (hx : 0 ≤ x) (hy : 0 ≤ y) (hy' : y < 18446744073709551616) (hc : c = 0 ∨ c = 1) : sub64s x y c = (x - y - c) % 18446744073709551616 := by unfold sub64s; omega
theorem sub64c_i {x y c : Int} (hx : 0 ≤ x) (hy : 0 ≤ y) (hc : c = 0 ∨ c = 1) : sub64c x y c = if x < y + c then 1 else 0 := by
  unfold sub64c
  by_cases h : x < y + c
  · rw [if_pos h, if_pos (by omega)]; rfl
  · rw [if_neg h, if_neg (by omega)]; rfl
theorem compare_u (a b : Int) : cmp_Compare_uint64.f a b = some (sgn3 a b) := by
  unfold cmp_Compare_uint64.f cmp_isNaN_uint64.f sgn3
  simp only [bne_self_eq_false, Option.bind_some, Bool.false_eq_true, if_false]
  by_cases h : a < b
  · rw [if_pos h, if_pos h]
  · rw [if_neg h, if_neg h]
    by_cases h2 : a = b
    · rw [if_pos h2, if_neg (by omega)]
    · rw [if_neg h2, if_pos (by omega)]
theorem or_two (k : Nat) (hk : 3 ≤ k) (a b : Int) : cmp_Or_int.f k [a, b] = some (if a = 0 then b else a) := by
  obtain ⟨k, rfl⟩ : ∃ m, k = m + 3 := ⟨k - 3, by omega⟩
  unfold cmp_Or_int.f
  rw [cmp_Or_int.l0]
  simp only [show (([a, b] : List Int).length : Int) = 2 by rfl, show rd [a, b] 0 = a by rfl, show ((0 : Int) < 2) by decide, show ((0 : Int) ≤ 0) by decide, if_true]
  by_cases ha : a = 0
  · subst ha
    rw [if_pos rfl, if_pos rfl, show wrap64 (0 + 1) = 1 from wrap64_id (by decide) (by decide), cmp_Or_int.l0]
    simp only [show (([0, b] : List Int).length : Int) = 2 by rfl, show rd [0, b] 1 = b by rfl, show ((1 : Int) < 2) by decide, show ((0 : Int) ≤ 1) by decide, if_true]
    by_cases hb : b = 0
    · subst hb
      rw [if_pos rfl, show wrap64 (1 + 1) = 2 from wrap64_id (by decide) (by decide), cmp_Or_int.l0]
      simp
    · rw [if_neg hb]
  · rw [if_neg ha, if_neg ha]
theorem words_cmp (k : Nat) (hk : 3 ≤ k) {lo1 hi1 lo2 hi2 : Int} (h1 : 0 ≤ lo1) (h2 : lo1 < 18446744073709551616) (h3 : 0 ≤ lo2) (h4 : lo2 < 18446744073709551616) :
    fixed_words_compare.f k lo1 hi1 lo2 hi2 = some (sgn3 (hi1 * 18446744073709551616 + lo1) (hi2 * 18446744073709551616 + lo2)) := by
  unfold fixed_words_compare.f
  simp only [compare_u, Option.bind_some, or_two k hk]
  unfold sgn3
  by_cases a : hi1 < hi2
  · simp only [if_pos a]
    rw [if_neg (by decide), if_pos (by omega)]
  · by_cases b : hi1 = hi2
    · subst b
      simp only [if_neg a, if_true]
      by_cases c : lo1 < lo2
      · rw [if_pos c, if_pos (by omega)]
      · by_cases d : lo1 = lo2
        · rw [if_neg c, if_pos d, if_neg (by omega), if_pos (by omega)]
        · rw [if_neg c, if_neg d, if_neg (by omega), if_neg (by omega)]
    · simp only [if_neg a, if_neg b]
      rw [if_neg (by decide), if_neg (by omega), if_neg (by omega)]
theorem plus_ex (k : Nat) (hk : 3 ≤ k) {n1 n2 : Bool} {lo1 hi1 lo2 hi2 x y : Int} (h : Ex n1 lo1 hi1 x) (g : Ex n2 lo2 hi2 y) (hb : (x + y).natAbs < 170141183460469231731687303715884105728) :
    ∃ n lo hi, fixed_exact_plus.f k n1 lo1 hi1 n2 lo2 hi2 = some (n, lo, hi) ∧ Ex n lo hi (x + y) := by
  have ah := h.abs
  have ag := g.abs
  obtain ⟨a1, a2, a3, a4, ap, am⟩ := h
  obtain ⟨b1, b2, b3, b4, bp, bm⟩ := g
  unfold fixed_exact_plus.f
  by_cases hn : n1 = n2
  · subst hn
    rw [if_pos (by simp)]
    have hs : hi1 * 18446744073709551616 + lo1 + (hi2 * 18446744073709551616 + lo2) < 170141183460469231731687303715884105728 := by
      cases n1
      · have := ap rfl; have := bp rfl; omega
      · have := am rfl; have := bm rfl; omega
    rw [add64c_i a1 b1 (by omega), add64s_i a1 b1 (by omega), add64s_i a3 b3 (by omega), if_pos (by omega)]
    refine ⟨_, _, _, rfl, by omega, by omega, by omega, by omega, fun e => ?_, fun e => ?_⟩
    · have := ap e; have := bp e; omega
    · have := am e; have := bm e; omega
  · rw [if_neg (by simpa using hn), words_cmp k hk a1 a2 b1 b2]
    simp only [Option.bind_some]
    by_cases c : hi1 * 18446744073709551616 + lo1 < hi2 * 18446744073709551616 + lo2
    · rw [show sgn3 (hi1 * 18446744073709551616 + lo1) (hi2 * 18446744073709551616 + lo2) = -1 by unfold sgn3; rw [if_pos c]]
      rw [if_pos (by decide), sub64c_i b1 a1 (Or.inl rfl), sub64s_i b1 a1 a2 (Or.inl rfl)]
      refine ⟨_, _, _, rfl, ?_⟩
      by_cases d : lo2 < lo1 + 0
      · rw [if_pos d, sub64s_i b3 a3 (by omega) (Or.inr rfl)]
        refine ⟨by omega, by omega, by omega, by omega, fun e => ?_, fun e => ?_⟩
        · have := bp e; cases n1
          · exact absurd e.symm hn
          · have := am rfl; omega
        · have := bm e; cases n1
          · have := ap rfl; omega
          · exact absurd e.symm hn
      · rw [if_neg d, sub64s_i b3 a3 (by omega) (Or.inl rfl)]
        refine ⟨by omega, by omega, by omega, by omega, fun e => ?_, fun e => ?_⟩
        · have := bp e; cases n1
          · exact absurd e.symm hn
          · have := am rfl; omega
        · have := bm e; cases n1
          · have := ap rfl; omega
          · exact absurd e.symm hn
    · rw [if_neg (by unfold sgn3; rw [if_neg c]; split <;> decide), sub64c_i a1 b1 (Or.inl rfl), sub64s_i a1 b1 b2 (Or.inl rfl)]
      refine ⟨_, _, _, rfl, ?_⟩
      by_cases d : lo1 < lo2 + 0
      · rw [if_pos d, sub64s_i a3 b3 (by omega) (Or.inr rfl)]
        refine ⟨by omega, by omega, by omega, by omega, fun e => ?_, fun e => ?_⟩
        · have := ap e; cases n2
          · exact absurd e hn
          · have := bm rfl; omega
        · have := am e; cases n2
          · have := bp rfl; omega
          · exact absurd e hn
      · rw [if_neg d, sub64s_i a3 b3 (by omega) (Or.inl rfl)]
        refine ⟨by omega, by omega, by omega, by omega, fun e => ?_, fun e => ?_⟩
        · have := ap e; cases n2
          · exact absurd e hn
          · have := bm rfl; omega
        · have := am e; cases n2
          · have := bp rfl; omega
          · exact absurd e hn
theorem Ex.neg {n : Bool} {lo hi x : Int} (h : Ex n lo hi x) : Ex (!n) lo hi (-x) := by
  obtain ⟨a1, a2, a3, a4, ap, am⟩ := h
  refine ⟨a1, a2, a3, a4, fun e => ?_, fun e => ?_⟩
  · have := am (by simpa using e); omega
  · have := ap (by simpa using e); omega
theorem mul_lo {a b : Int} (ha : I64 a) (hb : I64 b) : -85070591730234615856620279821087277056 ≤ a * b ∧ a * b ≤ 85070591730234615865843651857942052864 := by
  have hp := abs_mul_le ha hb
  refine ⟨?_, ?_⟩
  · by_cases hs : (decide (a < 0) != decide (b < 0)) = true
    · rw [mul_sign a b hs]
      unfold I64 at ha hb
      by_cases h : a < 0
      · have hb0 : ¬ b < 0 := by intro h2; simp [h, h2] at hs
        have := Nat.mul_le_mul (show a.natAbs ≤ 9223372036854775808 by omega) (show b.natAbs ≤ 9223372036854775807 by omega)
        omega
      · have := Nat.mul_le_mul (show a.natAbs ≤ 9223372036854775807 by omega) (show b.natAbs ≤ 9223372036854775808 by omega)
        omega
    · rw [mul_sign' a b (by simpa using hs)]; omega
  · by_cases hs : (decide (a < 0) != decide (b < 0)) = true
    · rw [mul_sign a b hs]; omega
    · rw [mul_sign' a b (by simpa using hs)]; omega
theorem order_f (k : Nat) (hk : 3 ≤ k) {a b c d : Int} (ha : I64 a) (hb : I64 b) (hc : I64 c) (hd : I64 d) : fixed_Order.f k a b c d = some (sgn3 (a * b) (c * d)) := by
  obtain ⟨n1, lo1, hi1, e1, x1⟩ := product_ex ha hb
  obtain ⟨n2, lo2, hi2, e2, x2⟩ := product_ex hc hd
  have m1 := mul_lo ha hb
  have m2 := mul_lo hc hd
  have m : (a * b + -(c * d)).natAbs < 170141183460469231731687303715884105728 := by omega
  obtain ⟨n, lo, hi, e, x⟩ := plus_ex k hk x1 x2.neg m
  unfold fixed_Order.f
  rw [e1, e2]
  simp only [Option.bind_some, e]
  have ax := x.abs
  obtain ⟨p1, p2, p3, p4, pp, pm⟩ := x
  generalize a * b = u at *
  generalize c * d = v at *
  unfold sgn3
  by_cases h0 : u = v
  · rw [if_pos (by rw [show lo = 0 by omega, show hi = 0 by omega]; decide), if_neg (by omega), if_pos h0]
  · rw [if_neg (by intro h; simp at h; omega)]
    cases n
    · have := pp rfl
      rw [if_neg (by decide), if_neg (by omega), if_neg h0]
    · have := pm rfl
      rw [if_pos rfl, if_pos (by omega)]
theorem less_f (n1 n2 : Bool) {hi1 lo1 hi2 lo2 : Int} (h1 : 0 ≤ lo1) (h2 : lo1 < 18446744073709551616) (h3 : 0 ≤ lo2) (h4 : lo2 < 18446744073709551616) :
    bagatelleref01_less.f n1 hi1 lo1 n2 hi2 lo2 = some (decide (hi1 * 18446744073709551616 + lo1 < hi2 * 18446744073709551616 + lo2)) := by
  unfold bagatelleref01_less.f
  by_cases a : hi1 < hi2
  · rw [if_pos a, decide_eq_true (by omega)]
  · rw [if_neg a]
    by_cases b : hi1 = hi2
    · rw [if_pos b]
      congr 1
      rw [decide_eq_decide]; omega
    · rw [if_neg b, decide_eq_false (by omega)]
theorem sv_i64 {v : Int} (h : I64 v) : Snd (sv v) := by unfold I64 at h; exact sv_snd h.1 h.2
theorem up_f {n : Bool} {lo : Int} (h0 : 0 ≤ lo) (h1 : lo < 18446744073709551616) : fixed_exact_up.f n lo 0 = some (n, lo % 4294967296 * 4294967296, lo / 4294967296) := by
  unfold fixed_exact_up.f
  rw [u64_id (x := 0 * 4294967296) (by omega) (by omega), or32 0 _ (by omega) (by omega) (by omega) (by omega), IntKind.wrap_u64]
  congr 3 <;> omega
theorem int_f (k : Nat) (hk : 1 ≤ k) {v : Int} (h : I64 v) : fixed_Int.f k v = some (fitV (v * 4294967296), fitF (v * 4294967296) false) := by
  unfold fixed_Int.f
  rw [of_f h]
  unfold I64 at h
  simp only [Option.bind_some]
  rw [up_f (by omega) (by omega)]
  simp only [Option.bind_some]
  rw [fit_ex (x := v * 4294967296) _ false k hk]
  · rfl
  · refine ⟨by omega, by omega, by omega, by omega, fun e => ?_, fun e => ?_⟩
    · have := of_decide_eq_false e; omega
    · have := of_decide_eq_true e; omega
theorem div_two (hi lo d : Nat) (hd : 0 < d) : (hi * 18446744073709551616 + lo) / d = hi / d * 18446744073709551616 + (hi % d * 18446744073709551616 + lo) / d := by
  have e : hi * 18446744073709551616 + lo = d * (hi / d * 18446744073709551616) + (hi % d * 18446744073709551616 + lo) := by
    have := Nat.div_add_mod hi d
    have e2 : d * (hi / d * 18446744073709551616) = d * (hi / d) * 18446744073709551616 := by rw [Nat.mul_assoc]
    rw [e2]
    omega
  rw [e, Nat.mul_add_div hd]
theorem tdiv_abs (x y : Int) : x.tdiv y = if (decide (x < 0) != decide (y < 0)) = true then -((x.natAbs / y.natAbs : Nat) : Int) else ((x.natAbs / y.natAbs : Nat) : Int) := by
  by_cases hx : x < 0
  · have ex : x = -(x.natAbs : Int) := by omega
    by_cases hy : y < 0
    · have ey : y = -(y.natAbs : Int) := by omega
      rw [if_neg (by simp [hx, hy])]
      generalize x.natAbs = m at ex
      generalize y.natAbs = n at ey
      subst ex; subst ey
      rw [Int.neg_tdiv, Int.tdiv_neg, Int.neg_neg, Int.ofNat_tdiv]
    · have ey : y = (y.natAbs : Int) := by omega
      rw [if_pos (by simp [hx, hy])]
      generalize x.natAbs = m at ex
      generalize y.natAbs = n at ey
      subst ex; subst ey
      rw [Int.neg_tdiv, Int.ofNat_tdiv]
  · have ex : x = (x.natAbs : Int) := by omega
    by_cases hy : y < 0
    · have ey : y = -(y.natAbs : Int) := by omega
      rw [if_pos (by simp [hx, hy])]
      generalize x.natAbs = m at ex
      generalize y.natAbs = n at ey
      subst ex; subst ey
      rw [Int.tdiv_neg, Int.ofNat_tdiv]
    · have ey : y = (y.natAbs : Int) := by omega
      rw [if_neg (by simp [hx, hy])]
      generalize x.natAbs = m at ex
      generalize y.natAbs = n at ey
      subst ex; subst ey
      rw [Int.ofNat_tdiv]
theorem two_lt (r d lo : Nat) (h : r < d) (h2 : lo < 18446744073709551616) : (r * 18446744073709551616 + lo) / d < 18446744073709551616 := by
  apply Nat.div_lt_of_lt_mul
  have := Nat.mul_le_mul_right 18446744073709551616 (show r + 1 ≤ d from h)
  omega
theorem ratio_of (k : Nat) (hk : 1 ≤ k) {a b : Int} (ha : I64 a) (hb : I64 b) (h0 : b ≠ 0) (r : Int)
    (hd : bits_Div64.f k ((a.natAbs / 4294967296 % b.natAbs : Nat) : Int) ((a.natAbs % 4294967296 * 4294967296 : Nat) : Int) (b.natAbs : Int) = some (((((a.natAbs / 4294967296 % b.natAbs) * 18446744073709551616 + a.natAbs % 4294967296 * 4294967296) / b.natAbs : Nat) : Int), r)) :
    fixed_Ratio.f k a b = some (fitV ((a * 4294967296).tdiv b), fitF ((a * 4294967296).tdiv b) false) := by
  have hp : 0 < b.natAbs := by omega
  have hlt := two_lt (a.natAbs / 4294967296 % b.natAbs) b.natAbs (a.natAbs % 4294967296 * 4294967296) (Nat.mod_lt _ hp) (by omega)
  have hle := Nat.div_le_self (a.natAbs / 4294967296) b.natAbs
  have hdv := div_two (a.natAbs / 4294967296) (a.natAbs % 4294967296 * 4294967296) b.natAbs hp
  have ht := tdiv_abs (a * 4294967296) b
  rw [show (a * 4294967296).natAbs = a.natAbs / 4294967296 * 18446744073709551616 + a.natAbs % 4294967296 * 4294967296 by omega, hdv, show decide (a * 4294967296 < 0) = decide (a < 0) by rw [decide_eq_decide]; omega] at ht
  unfold fixed_Ratio.f
  rw [if_neg h0, of_f ha, of_f hb]
  simp only [Option.bind_some]
  unfold I64 at ha hb
  rw [up_f (by omega) (by omega)]
  simp only [Option.bind_some]
  have d1 : (a.natAbs : Int) / 4294967296 = ((a.natAbs / 4294967296 : Nat) : Int) := by omega
  have d2 : (a.natAbs : Int) % 4294967296 * 4294967296 = ((a.natAbs % 4294967296 * 4294967296 : Nat) : Int) := by omega
  rw [if_neg (by omega), d1, d2, ← Int.ofNat_tmod, ← Int.ofNat_tdiv, hd, u64_id (by omega) (by omega)]
  simp only [Option.bind_some]
  rw [fit_ex (x := (a * 4294967296).tdiv b) _ false k hk]
  · simp only [Option.bind_some]
  · rw [ht]
    clear hd hdv ht
    generalize (a.natAbs / 4294967296 % b.natAbs * 18446744073709551616 + a.natAbs % 4294967296 * 4294967296) / b.natAbs = q at hlt ⊢
    generalize a.natAbs / 4294967296 / b.natAbs = p at hle ⊢
    refine ⟨by omega, by omega, by omega, by omega, fun e => ?_, fun e => ?_⟩
    · rw [if_neg (by rw [e]; decide)]; omega
    · rw [if_pos e]; omega
theorem awake_f (k : Nat) (hk : 5 ≤ k) : bagatellelaw01_awake.f k = some true := by
  have e1 : fixed_Int.f k 3 = some (12884901888, false) := int_f k (by omega) (by unfold I64; omega)
  have w1 : IntKind.u64.wrap (Int.tdiv 4294967296 2) = 2147483648 := by decide +kernel
  have w2 : Int.tmod 4294967296 2 = 0 := by decide +kernel
  have ed : bits_Div64.f k 0 4294967296 2 = some (2147483648, 0) := by
    unfold bits_Div64.f
    rw [if_neg (by decide), if_neg (by decide), if_pos rfl, w1, w2]
  have v1 : Snd ((-1 * 4294967296 : Int).tdiv 2) := by unfold Snd; decide +kernel
  have v2 : (-1 * 4294967296 : Int).tdiv 2 = -2147483648 := by decide +kernel
  have e2 : fixed_Ratio.f k (-1) 2 = some (-2147483648, false) := by
    rw [ratio_of (a := -1) (b := 2) k (by omega) (by unfold I64; omega) (by unfold I64; omega) (by decide) 0 (by simpa using ed), fitV_id v1, fitF_id v1, v2]
  have e3 : fixed_Order.f k (-2) 3 1 1 = some (-1) := order_f k (by omega) (by unfold I64; omega) (by unfold I64; omega) (by unfold I64; omega) (by unfold I64; omega)
  have e4 : fixed_Text.f (-2147483648) false = some ⟨#[45, 48, 46, 53]⟩ := by decide +kernel
  unfold bagatellelaw01_awake.f
  rw [e1, e2, e3]
  simp only [Option.bind_some, e4]
  decide +kernel
end Go.Proofs.Ytenpiaafkmfjfaa.B

end
section
namespace Go.Proofs.Ytenpiaafkmfjfaa.B
open Go.RowKit Go.Proofs.YtenpiaafkmfjfaaW.PrintWords Go.Proofs.YtenpiaafkmfjfaaW.PrintLast Go.Proofs.YtenpiaafkmfjfaaW.PrintMore
theorem Snd.neg {v : Int} (h : Snd v) : Snd (-v) := by unfold Snd at *; omega
end Go.Proofs.Ytenpiaafkmfjfaa.B

end
section
namespace Go.Proofs.Ytenpiaafkmfjfaa.B
open Go.RowKit Go.Proofs.YtenpiaafkmfjfaaW.PrintWords Go.Proofs.YtenpiaafkmfjfaaW.PrintLast Go.Proofs.YtenpiaafkmfjfaaW.PrintMore
theorem div_cond {u y y1 y0 qh rh : Int} (hy : y = y1 * 4294967296 + y0) (e : qh * y1 + rh = u) : qh * y = u * 4294967296 - rh * 4294967296 + qh * y0 := by
  subst hy
  rw [Int.mul_add, ← Int.mul_assoc]
  generalize qh * y1 = A at *
  generalize qh * y0 = B at *
  omega
theorem mul_bound {a b A B : Int} (ha : 0 ≤ a) (hb : 0 ≤ b) (hA : a ≤ A) (hB : b ≤ B) : a * b ≤ A * B := Int.le_trans (Int.mul_le_mul_of_nonneg_right hA hb) (Int.mul_le_mul_of_nonneg_left hB (by omega))
theorem quo_eq {N y q : Int} (hy : 0 < y) (h1 : q * y ≤ N) (h2 : N / y ≤ q) : N / y = q := by
  have := Int.le_ediv_of_mul_le hy h1
  omega
theorem div_l0 {x2 x8 x9 x10 x11 x13 x14 : Int} {R : Int} (hy : x2 = x9 * 4294967296 + x10) (h9 : 2147483648 ≤ x9) (h9' : x9 < 4294967296) (h10 : 0 ≤ x10) (h10' : x10 < 4294967296) (h11 : 0 ≤ x11) (h11' : x11 < x2) (h13 : 0 ≤ x13) (h13' : x13 < 4294967296)
    (hj : ∀ k, 9 ≤ k → ∃ r, bits_Div64.j2 k x2 x8 x9 x10 x11 x13 x14 ((x11 * 4294967296 + x13) / x2) = some (R, r)) :
    ∀ (m k : Nat) (qh rh : Int), 9 + 2 * m ≤ k → qh * x9 + rh = x11 → 0 ≤ rh → rh < 4294967296 → 4294967296 - rh ≤ m * 2147483648 → (x11 * 4294967296 + x13) / x2 ≤ qh → qh ≤ 4294967297 →
      ∃ r, bits_Div64.l0 k x2 x8 x9 x10 x11 x13 x14 qh rh = some (R, r) := by
  intro m
  induction m with
  | zero => intro k qh rh hk e hr0 hr1 hm hq hq1; exfalso; omega
  | succ m ih =>
    intro k qh rh hk e hr0 hr1 hm hq hq1
    obtain ⟨k, rfl⟩ : ∃ z, k = z + 2 := ⟨k - 2, by omega⟩
    have hy0 : 0 < x2 := by omega
    have hQ0 : 0 ≤ (x11 * 4294967296 + x13) / x2 := Int.ediv_nonneg (by omega) (by omega)
    have hc := div_cond (y := x2) hy e
    have key : ∀ b : Bool, (b = true → qh * x2 > x11 * 4294967296 + x13) → (b = false → qh * x2 ≤ x11 * 4294967296 + x13) → ∃ r, bits_Div64.j1 (k + 1) x2 x8 x9 x10 x11 x13 x14 qh rh b = some (R, r) := by
      intro b ht hf
      rw [bits_Div64.j1]
      cases b
      · rw [if_neg (by decide), ← quo_eq hy0 (hf rfl) hq]
        exact hj k (by omega)
      · have hgt := Int.ediv_lt_of_lt_mul hy0 (ht rfl)
        rw [if_pos rfl, u64_id (x := rh + x9) (by omega) (by omega), u64_id (x := qh - 1) (by omega) (by omega)]
        have e2 : (qh - 1) * x9 + (rh + x9) = x11 := by rw [Int.sub_mul]; omega
        by_cases hb : rh + x9 ≥ 4294967296
        · rw [if_pos hb]
          have hc2 := div_cond (y := x2) hy e2
          have hb2 := mul_bound (a := qh - 1) (b := x10) (A := 4294967296) (B := 4294967295) (by omega) h10 (by omega) (by omega)
          rw [← quo_eq (N := x11 * 4294967296 + x13) (q := qh - 1) hy0 (by generalize (qh - 1) * x10 = B at *; omega) (by omega)]
          exact hj k (by omega)
        · rw [if_neg hb]
          exact ih k (qh - 1) (rh + x9) (by omega) e2 (by omega) (by omega) (by omega) (by omega) (by omega)
    rw [bits_Div64.l0]
    by_cases hbig : qh ≥ 4294967296
    · rw [if_pos hbig]
      refine key true (fun _ => ?_) (fun h => absurd h (by decide))
      have := Int.mul_le_mul_of_nonneg_right hbig (show 0 ≤ x2 by omega)
      generalize qh * x2 = C at *; omega
    · rw [if_neg hbig]
      have hb := mul_bound (a := qh) (b := x10) (A := 4294967295) (B := 4294967295) (by omega) h10 (by omega) (by omega)
      have hb0 := Int.mul_nonneg (show 0 ≤ qh by omega) h10
      rw [u64_id (x := qh * x10) (by omega) (by omega), u64_id (x := 4294967296 * rh) (by omega) (by omega), u64_id (x := 4294967296 * rh + x13) (by omega) (by omega)]
      refine key _ (fun h => ?_) (fun h => ?_)
      · have := of_decide_eq_true h
        generalize qh * x10 = B at *; omega
      · have := of_decide_eq_false h
        generalize qh * x10 = B at *; omega
theorem div_l1 {x2 x8 x9 x10 x14 x15 x17 : Int} (h8 : 0 ≤ x8) (hy : x2 = x9 * 4294967296 + x10) (h9 : 2147483648 ≤ x9) (h9' : x9 < 4294967296) (h10 : 0 ≤ x10) (h10' : x10 < 4294967296) (h17 : 0 ≤ x17) (h17' : x17 < x2) (h14 : 0 ≤ x14) (h14' : x14 < 4294967296) :
    ∀ (m k : Nat) (qh rh : Int), 1 + 2 * m ≤ k → qh * x9 + rh = x17 → 0 ≤ rh → rh < 4294967296 → 4294967296 - rh ≤ m * 2147483648 → (x17 * 4294967296 + x14) / x2 ≤ qh → qh ≤ 4294967297 →
      ∃ r, bits_Div64.l1 k x2 x8 x9 x10 x14 x15 rh x17 qh = some (IntKind.u64.wrap (IntKind.u64.wrap (x15 * 4294967296) + (x17 * 4294967296 + x14) / x2), r) := by
  intro m
  induction m with
  | zero => intro k qh rh hk e hr0 hr1 hm hq hq1; exfalso; omega
  | succ m ih =>
    intro k qh rh hk e hr0 hr1 hm hq hq1
    obtain ⟨k, rfl⟩ : ∃ z, k = z + 2 := ⟨k - 2, by omega⟩
    have hy0 : 0 < x2 := by omega
    have hQ0 : 0 ≤ (x17 * 4294967296 + x14) / x2 := Int.ediv_nonneg (by omega) (by omega)
    have hc := div_cond (y := x2) hy e
    have key : ∀ b : Bool, (b = true → qh * x2 > x17 * 4294967296 + x14) → (b = false → qh * x2 ≤ x17 * 4294967296 + x14) → ∃ r, bits_Div64.j4 (k + 1) x2 x8 x9 x10 x14 x15 rh x17 qh b = some (IntKind.u64.wrap (IntKind.u64.wrap (x15 * 4294967296) + (x17 * 4294967296 + x14) / x2), r) := by
      intro b ht hf
      rw [bits_Div64.j4]
      cases b
      · rw [if_neg (by decide), if_pos h8, quo_eq hy0 (hf rfl) hq]
        exact ⟨_, rfl⟩
      · have hgt := Int.ediv_lt_of_lt_mul hy0 (ht rfl)
        rw [if_pos rfl, u64_id (x := rh + x9) (by omega) (by omega), u64_id (x := qh - 1) (by omega) (by omega)]
        have e2 : (qh - 1) * x9 + (rh + x9) = x17 := by rw [Int.sub_mul]; omega
        by_cases hb : rh + x9 ≥ 4294967296
        · have hc2 := div_cond (y := x2) hy e2
          have hb2 := mul_bound (a := qh - 1) (b := x10) (A := 4294967296) (B := 4294967295) (by omega) h10 (by omega) (by omega)
          rw [if_pos hb, if_pos h8, quo_eq (q := qh - 1) hy0 (by generalize (qh - 1) * x10 = B at *; omega) (by omega)]
          exact ⟨_, rfl⟩
        · rw [if_neg hb]
          exact ih k (qh - 1) (rh + x9) (by omega) e2 (by omega) (by omega) (by omega) (by omega) (by omega)
    rw [bits_Div64.l1]
    by_cases hbig : qh ≥ 4294967296
    · rw [if_pos hbig]
      refine key true (fun _ => ?_) (fun h => absurd h (by decide))
      have := Int.mul_le_mul_of_nonneg_right hbig (show 0 ≤ x2 by omega)
      generalize qh * x2 = C at *; omega
    · rw [if_neg hbig]
      have hb := mul_bound (a := qh) (b := x10) (A := 4294967295) (B := 4294967295) (by omega) h10 (by omega) (by omega)
      have hb0 := Int.mul_nonneg (show 0 ≤ qh by omega) h10
      rw [u64_id (x := qh * x10) (by omega) (by omega), u64_id (x := 4294967296 * rh) (by omega) (by omega), u64_id (x := 4294967296 * rh + x14) (by omega) (by omega)]
      refine key _ (fun h => ?_) (fun h => ?_)
      · have := of_decide_eq_true h
        generalize qh * x10 = B at *; omega
      · have := of_decide_eq_false h
        generalize qh * x10 = B at *; omega
theorem guess {u d y y1 y0 : Int} (hy : y = y1 * 4294967296 + y0) (h9 : 2147483648 ≤ y1) (h10 : 0 ≤ y0) (h10' : y0 < 4294967296) (hu : 0 ≤ u) (hu' : u < y) (hd : 0 ≤ d) (hd' : d < 4294967296) :
    u / y1 * y1 + u % y1 = u ∧ 0 ≤ u % y1 ∧ u % y1 < y1 ∧ (u * 4294967296 + d) / y ≤ u / y1 ∧ u / y1 ≤ 4294967297 ∧ 0 ≤ u / y1 := by
  have e : u / y1 * y1 + u % y1 = u := by rw [Int.mul_comm]; exact Int.mul_ediv_add_emod u y1
  have h1 := Int.emod_nonneg u (show y1 ≠ 0 by omega)
  have h2 := Int.emod_lt_of_pos u (show 0 < y1 by omega)
  have h3 : 0 ≤ u / y1 := Int.ediv_nonneg hu (by omega)
  refine ⟨e, h1, h2, ?_, ?_, h3⟩
  · have hc := div_cond (qh := u / y1 + 1) (rh := u % y1 - y1) (u := u) (y := y) hy (by rw [Int.add_mul]; omega)
    have hb := Int.mul_nonneg (show 0 ≤ u / y1 + 1 by omega) h10
    have : (u * 4294967296 + d) / y < u / y1 + 1 := Int.ediv_lt_of_lt_mul (by omega) (by generalize (u / y1 + 1) * y0 = B at *; omega)
    omega
  · have : u / y1 < 4294967298 := Int.ediv_lt_of_lt_mul (by omega) (by omega)
    omega
theorem un21 {u d C : Int} (h0 : 0 ≤ u * 4294967296 + d - C) (h1 : u * 4294967296 + d - C < 18446744073709551616) : IntKind.u64.wrap (IntKind.u64.wrap (IntKind.u64.wrap (u * 4294967296) + d) - IntKind.u64.wrap C) = u * 4294967296 + d - C := by
  simp only [IntKind.wrap_u64]
  omega
theorem dig_rem {u d y : Int} (hu : 0 ≤ u) (hu' : u < y) (hd : 0 ≤ d) (hd' : d < 4294967296) (hy : 0 < y) : 0 ≤ (u * 4294967296 + d) / y ∧ (u * 4294967296 + d) / y < 4294967296 ∧ u * 4294967296 + d - (u * 4294967296 + d) / y * y = (u * 4294967296 + d) % y ∧ 0 ≤ (u * 4294967296 + d) % y ∧ (u * 4294967296 + d) % y < y := by
  refine ⟨Int.ediv_nonneg (by omega) (by omega), Int.ediv_lt_of_lt_mul hy (by omega), ?_, Int.emod_nonneg _ (by omega), Int.emod_lt_of_pos _ hy⟩
  have := Int.mul_ediv_add_emod (u * 4294967296 + d) y
  rw [Int.mul_comm] at this
  omega
theorem div_two_i {h l d : Int} (hd : 0 < d) : h / d * 4294967296 + (h % d * 4294967296 + l) / d = (h * 4294967296 + l) / d := by
  have e : h * 4294967296 + l = h % d * 4294967296 + l + h / d * 4294967296 * d := by
    have := Int.mul_ediv_add_emod h d
    rw [Int.mul_comm] at this
    rw [Int.mul_right_comm]
    omega
  rw [e, Int.add_mul_ediv_right _ _ (by omega)]
  omega
theorem div_j2 {x2 x8 x9 x10 x11 x13 x14 : Int} (h8 : 0 ≤ x8) (hy : x2 = x9 * 4294967296 + x10) (h9 : 2147483648 ≤ x9) (h9' : x9 < 4294967296) (h10 : 0 ≤ x10) (h10' : x10 < 4294967296) (h11 : 0 ≤ x11) (h11' : x11 < x2) (h13 : 0 ≤ x13) (h13' : x13 < 4294967296) (h14 : 0 ≤ x14) (h14' : x14 < 4294967296) (k : Nat) (hk : 9 ≤ k) :
    ∃ r, bits_Div64.j2 k x2 x8 x9 x10 x11 x13 x14 ((x11 * 4294967296 + x13) / x2) = some (((x11 * 4294967296 + x13) * 4294967296 + x14) / x2, r) := by
  obtain ⟨k, rfl⟩ : ∃ z, k = z + 1 := ⟨k - 1, by omega⟩
  obtain ⟨q0, q1, qe, r0, r1⟩ := dig_rem h11 h11' h13 h13' (show 0 < x2 by omega)
  have e3 := (div_two_i (h := x11 * 4294967296 + x13) (l := x14) (d := x2) (by omega)).symm
  rw [bits_Div64.j2, if_neg (by omega), un21 (by omega) (by omega), qe, e3]
  clear e3
  generalize (x11 * 4294967296 + x13) / x2 = q at *
  generalize (x11 * 4294967296 + x13) % x2 = U at *
  obtain ⟨g1, g2, g3, g4, g5, g6⟩ := guess hy h9 h10 h10' r0 r1 h14 h14'
  obtain ⟨p0, p1, _, _, _⟩ := dig_rem r0 r1 h14 h14' (show 0 < x2 by omega)
  have g7 := Int.mul_nonneg g6 (show 0 ≤ x9 by omega)
  rw [Int.tdiv_eq_ediv_of_nonneg r0, u64_id (x := U / x9) (by omega) (by omega), u64_id (x := U / x9 * x9) (by omega) (by omega), u64_id (x := U - U / x9 * x9) (by omega) (by omega), show U - U / x9 * x9 = U % x9 by omega]
  obtain ⟨r, hr⟩ := div_l1 (x15 := q) h8 hy h9 h9' h10 h10' r0 r1 h14 h14' 2 k (U / x9) (U % x9) (by omega) g1 g2 (by omega) (by omega) g4 g5
  rw [u64_id (x := q * 4294967296) (by omega) (by omega), u64_id (x := q * 4294967296 + (U * 4294967296 + x14) / x2) (by omega) (by omega)] at hr
  exact ⟨r, hr⟩
theorem shl_nat (a s : Nat) (hs : s ≤ 64) (h : a * 2 ^ s < 18446744073709551616) : shl .u64 (a : Int) (s : Int) = ((a * 2 ^ s : Nat) : Int) := by
  unfold shl
  rw [show min (Int.toNat (s : Int)) (IntKind.bits .u64) = s by rw [Int.toNat_natCast]; exact Nat.min_eq_left hs]
  rw [show (a : Int) * 2 ^ s = ((a * 2 ^ s : Nat) : Int) by simp, u64_id (by omega) (by omega)]
theorem shl_nat' (a s : Nat) (hs : s ≤ 64) : shl .u64 (a : Int) (s : Int) = ((a * 2 ^ s % 18446744073709551616 : Nat) : Int) := by
  unfold shl
  rw [show min (Int.toNat (s : Int)) (IntKind.bits .u64) = s by rw [Int.toNat_natCast]; exact Nat.min_eq_left hs]
  rw [show (a : Int) * 2 ^ s = ((a * 2 ^ s : Nat) : Int) by simp, IntKind.wrap_u64]
  omega
theorem shr_nat (a s : Nat) (hs : s ≤ 64) : shr .u64 (a : Int) (s : Int) = ((a / 2 ^ s : Nat) : Int) := by
  unfold shr
  rw [show min (Int.toNat (s : Int)) (IntKind.bits .u64) = s by rw [Int.toNat_natCast]; exact Nat.min_eq_left hs]
  simp
theorem blen (x : Nat) (h : x < 2 ^ 64) : x < 2 ^ Lib.bitLen x ∧ (x ≠ 0 → 1 ≤ Lib.bitLen x ∧ 2 ^ (Lib.bitLen x - 1) ≤ x) := by
  induction x using Nat.strongRecOn with
  | _ x ih =>
    by_cases h0 : x = 0
    · subst h0; exact ⟨by decide, fun h => absurd rfl h⟩
    · rw [Lib.bitLen_half x h0 h]
      obtain ⟨i1, i2⟩ := ih (x / 2) (by omega) (by omega)
      refine ⟨?_, fun _ => ⟨by omega, ?_⟩⟩
      · rw [Nat.pow_add]; omega
      · by_cases h2 : x / 2 = 0
        · rw [show Lib.bitLen (x / 2) = 0 by rw [h2]; decide]; simp; omega
        · obtain ⟨i3, i4⟩ := i2 h2
          rw [show 1 + Lib.bitLen (x / 2) - 1 = 1 + (Lib.bitLen (x / 2) - 1) by omega, Nat.pow_add]; omega
theorem div64_f (k : Nat) (hk : 14 ≤ k) (hi lo y : Nat) (h : hi < y) (hl : lo < 18446744073709551616) (hy : y < 18446744073709551616) : ∃ r, bits_Div64.f k hi lo y = some ((((hi * 18446744073709551616 + lo) / y : Nat) : Int), r) := by
  unfold bits_Div64.f
  rw [if_neg (by omega), if_neg (by omega)]
  by_cases h0 : hi = 0
  · subst h0
    have hq : lo / y < 18446744073709551616 := Nat.lt_of_le_of_lt (Nat.div_le_self lo y) hl
    rw [if_pos (by omega), ← Int.ofNat_tdiv, u64_id (Int.natCast_nonneg _) (by generalize lo / y = z at *; omega)]
    exact ⟨_, by rw [show 0 * 18446744073709551616 + lo = lo by omega]⟩
  · rw [if_neg (by omega)]
    have hy0 : y ≠ 0 := by omega
    obtain ⟨b1, b2⟩ := blen y hy
    obtain ⟨hL0, b2⟩ := b2 hy0
    have hL1 : Lib.bitLen y ≤ 64 := by
      rcases Nat.lt_or_ge 64 (Lib.bitLen y) with hgt | hle
      · exfalso
        have : 2 ^ 64 ≤ 2 ^ (Lib.bitLen y - 1) := Nat.pow_le_pow_right (by decide) (by omega)
        omega
      · exact hle
    have hlz : bits_LeadingZeros64.f (y : Int) = some (((64 - Lib.bitLen y : Nat)) : Int) := by
      unfold bits_LeadingZeros64.f bits_Len64.f
      rw [if_pos (by omega), if_pos (by omega)]
      simp only [Option.bind_some, Int.toNat_natCast]
      rw [wrap64_id (by omega) (by omega)]
      congr 1; omega
    rw [hlz]
    simp only [Option.bind_some]
    generalize hs : 64 - Lib.bitLen y = s at *
    have hs63 : s ≤ 63 := by omega
    have p1 : y * 2 ^ s < 18446744073709551616 := by
      have : y * 2 ^ s < 2 ^ Lib.bitLen y * 2 ^ s := Nat.mul_lt_mul_of_pos_right b1 (Nat.two_pow_pos s)
      rw [← Nat.pow_add, show Lib.bitLen y + s = 64 by omega] at this
      exact this
    have p0 : 9223372036854775808 ≤ y * 2 ^ s := by
      have : 2 ^ (Lib.bitLen y - 1) * 2 ^ s ≤ y * 2 ^ s := Nat.mul_le_mul_right _ b2
      rw [← Nat.pow_add, show Lib.bitLen y - 1 + s = 63 by omega] at this
      exact this
    have phi : (hi + 1) * 2 ^ s ≤ y * 2 ^ s := Nat.mul_le_mul_right _ h
    rw [Nat.add_mul] at phi
    have hp2 : 0 < 2 ^ s := Nat.two_pow_pos s
    have e64 : 18446744073709551616 = 2 ^ (64 - s) * 2 ^ s := by rw [← Nat.pow_add, show 64 - s + s = 64 by omega]
    have hlo : lo / 2 ^ (64 - s) < 2 ^ s := by
      apply Nat.div_lt_of_lt_mul
      rw [← e64]; exact hl
    have hlo2 : lo * 2 ^ s / 18446744073709551616 = lo / 2 ^ (64 - s) := by
      rw [e64, Nat.mul_div_mul_right _ _ hp2]
    rw [u64_id (x := (s : Int)) (by omega) (by omega), u64_id (x := 64 - (s : Int)) (by omega) (by omega), if_pos (by omega), if_pos (by omega)]
    rw [show (64 - (s : Int)) = ((64 - s : Nat) : Int) by omega, shl_nat y s (by omega) p1, shl_nat hi s (by omega) (by omega), shr_nat lo (64 - s) (by omega), shl_nat' lo s (by omega), and_mask _ p1]
    have hor := or_add s hi (lo / 2 ^ (64 - s)) hlo (by rw [Nat.mul_comm]; omega)
    rw [Nat.mul_comm (2 ^ s) hi] at hor
    rw [hor, and_mask _ (Nat.mod_lt _ (by decide))]
    have key : (hi * 2 ^ s + lo / 2 ^ (64 - s)) * 18446744073709551616 + lo * 2 ^ s % 18446744073709551616 = (hi * 18446744073709551616 + lo) * 2 ^ s := by
      rw [← hlo2]
      have := Nat.div_add_mod (lo * 2 ^ s) 18446744073709551616
      rw [Nat.add_mul (hi * 18446744073709551616) lo, Nat.mul_right_comm hi 18446744073709551616]
      omega
    have key2 : (hi * 18446744073709551616 + lo) * 2 ^ s / (y * 2 ^ s) = (hi * 18446744073709551616 + lo) / y := Nat.mul_div_mul_right _ _ hp2
    rw [← key] at key2
    have hu : hi * 2 ^ s + lo / 2 ^ (64 - s) < y * 2 ^ s := by omega
    rw [← key2]
    generalize hi * 2 ^ s + lo / 2 ^ (64 - s) = u at hu ⊢
    have hl2 : lo * 2 ^ s % 18446744073709551616 < 18446744073709551616 := Nat.mod_lt _ (by decide)
    generalize lo * 2 ^ s % 18446744073709551616 = l at hl2 ⊢
    generalize y * 2 ^ s = Y at hu p0 p1 ⊢
    clear key key2 hor hlo hlo2 e64 phi hlz b1 b2
    have d1 : ((Y : Nat) : Int) / 4294967296 = ((Y / 4294967296 : Nat) : Int) := by omega
    have d2 : ((l : Nat) : Int) / 4294967296 = ((l / 4294967296 : Nat) : Int) := by omega
    rw [d1, d2, if_neg (by omega)]
    have hj : ∀ k, 9 ≤ k → ∃ r, bits_Div64.j2 k (Y : Int) (s : Int) ((Y / 4294967296 : Nat) : Int) ((Y % 4294967296 : Nat) : Int) (u : Int) ((l / 4294967296 : Nat) : Int) ((l % 4294967296 : Nat) : Int) (((u : Int) * 4294967296 + ((l / 4294967296 : Nat) : Int)) / (Y : Int)) = some ((((u * 18446744073709551616 + l) / Y : Nat) : Int), r) := by
      intro k hk
      obtain ⟨r, hr⟩ := div_j2 (x2 := (Y : Int)) (x8 := (s : Int)) (x9 := ((Y / 4294967296 : Nat) : Int)) (x10 := ((Y % 4294967296 : Nat) : Int)) (x11 := (u : Int)) (x13 := ((l / 4294967296 : Nat) : Int)) (x14 := ((l % 4294967296 : Nat) : Int)) (by omega) (by omega) (by omega) (by omega) (by omega) (by omega) (by omega) (by omega) (by omega) (by omega) (by omega) (by omega) k hk
      refine ⟨r, ?_⟩
      rw [hr, show ((u : Int) * 4294967296 + ((l / 4294967296 : Nat) : Int)) * 4294967296 + ((l % 4294967296 : Nat) : Int) = ((u * 18446744073709551616 + l : Nat) : Int) by omega, ← Int.natCast_ediv]
    obtain ⟨g1, g2, g3, g4, g5, g6⟩ := guess (u := (u : Int)) (d := ((l / 4294967296 : Nat) : Int)) (y := (Y : Int)) (y1 := ((Y / 4294967296 : Nat) : Int)) (y0 := ((Y % 4294967296 : Nat) : Int)) (by omega) (by omega) (by omega) (by omega) (by omega) (by omega) (by omega) (by omega)
    have g7 := Int.mul_nonneg g6 (show 0 ≤ ((Y / 4294967296 : Nat) : Int) by omega)
    rw [Int.tdiv_eq_ediv_of_nonneg (by omega), u64_id (x := (u : Int) / ((Y / 4294967296 : Nat) : Int)) (by omega) (by omega), u64_id (x := (u : Int) / ((Y / 4294967296 : Nat) : Int) * ((Y / 4294967296 : Nat) : Int)) (by omega) (by omega)]
    rw [show (u : Int) - (u : Int) / ((Y / 4294967296 : Nat) : Int) * ((Y / 4294967296 : Nat) : Int) = (u : Int) % ((Y / 4294967296 : Nat) : Int) by omega, u64_id (x := (u : Int) % ((Y / 4294967296 : Nat) : Int)) (by omega) (by omega)]
    exact div_l0 (x2 := (Y : Int)) (x8 := (s : Int)) (x9 := ((Y / 4294967296 : Nat) : Int)) (x10 := ((Y % 4294967296 : Nat) : Int)) (x11 := (u : Int)) (x13 := ((l / 4294967296 : Nat) : Int)) (x14 := ((l % 4294967296 : Nat) : Int)) (by omega) (by omega) (by omega) (by omega) (by omega) (by omega) (by omega) (by omega) (by omega) hj 2 k _ _ (by omega) g1 g2 (by omega) (by omega) g4 g5
end Go.Proofs.Ytenpiaafkmfjfaa.B

end
section
namespace Go.Proofs.Ytenpiaafkmfjfaa.B
open Go.RowKit Go.Proofs.YtenpiaafkmfjfaaW.PrintWords Go.Proofs.YtenpiaafkmfjfaaW.PrintLast Go.Proofs.YtenpiaafkmfjfaaW.PrintMore
attribute [local go_sem] max2_int min2_int max_two min_two max_three min_three max_four min_four
set_option linter.unusedVariables false
set_option linter.unusedSimpArgs false
def fixed_flags.l0 : Nat → List (S23) → Int → Int → Option (Bool)
  | 0, _, _, _ => none
  | k + 1, x5, x6, x7 => if x7 < x6 then (if 0 ≤ x7 then (if x7 < (x5.length : Int) then (if (rd_T23 x5 x7).f1 = true then (some true) else (fixed_flags.l0 k x5 x6 (wrap64 (x7 + 1)))) else (none)) else (none)) else (some false)
def fixed_flags.f (k : Nat) (l0 : List (S23)) : Option (Bool) := fixed_flags.l0 k l0 (l0.length : Int) 0
set_option maxHeartbeats 8000000 in
set_option maxRecDepth 100000 in
theorem fixed_flags.calls (k : Nat) (A0 : Option Addr) (c0 : Nat) (l0 : List (S23)) (r : Bool) (w : World) (hr0 : Kd.C k23 w A0 l0.length l0) (hc0 : l0.length ≤ c0) (h : fixed_flags.f k l0 = some r) :
    Calls Try.prog 88 #[.slice A0 l0.length c0] w fun e w' => e = .returned (.bool r) ∧ Below w.heap.size w w' := by
  have hu23 := Try.underlying23
  have HR0 := Aside0.mk hr0
  have HC0 := Aside0.mk hc0
  clear hr0 hc0
  have HB := Aside0.mk (Below.refl w.heap.size w)
  have H : (fixed_flags.l0 k l0 (l0.length : Int) 0) = some r := h
  clear h
  have H' := Aside0.mk H
  clear H
  go_enter Try.func88, Try.ntmps88
  go_wp2
  go_loopg [7] k (fun kq v7 w' => ∃ (x7_1 : Int), v7 = .int .i64 x7_1 ∧ Aside0 (fixed_flags.l0 kq l0 (l0.length : Int) x7_1 = some r) ∧ Aside0 (kq ≤ k) ∧ Aside0 (Below w.heap.size w w'))
  case atStart => exact ⟨(0), (by first | rfl | (simp; done) | (simp [*]; done)), H', ⟨Nat.le_refl _⟩, ⟨by repeat (first | (with_reducible first | exact HB.out | apply below_alloc | apply pw_below_drewN | apply below_drew1) | exact HB.out)⟩⟩
  case round =>
    clear H'
    obtain ⟨x7_1, rfl, HA, HK1, HB⟩ := hrel
    cases gk with
    | zero => exact absurd HA.out (by simp [fixed_flags.l0])
    | succ k1 =>
      have H := HA.out
      clear HA
      simp only [fixed_flags.l0] at H
      by_cases c2 : x7_1 < (l0.length : Int)
      · rw [if_pos c2] at H
        have c2b0 : decide (x7_1 < (l0.length : Int)) = true := decide_eq_true c2
        clear c2
        by_cases c3 : 0 ≤ x7_1
        · rw [if_pos c3] at H
          have c3b0 : decide (0 ≤ x7_1) = true := decide_eq_true c3
          clear c3
          by_cases c4 : x7_1 < (l0.length : Int)
          · rw [if_pos c4] at H
            have c4b0 : decide (x7_1 < (l0.length : Int)) = true := decide_eq_true c4
            clear c4
            obtain ⟨bq5, hbq5⟩ : ∃ b_ : Bool, b_ = ((rd_T23 l0 x7_1).f1) := ⟨_, rfl⟩
            replace H : (if bq5 = true then (some true) else (fixed_flags.l0 k1 l0 (l0.length : Int) (wrap64 (x7_1 + 1)))) = some r := by rw [← hbq5] at H; exact H
            have Nbq5 := Aside0.mk hbq5
            clear hbq5
            by_cases c6 : bq5 = true
            · subst c6
              have H1 : (some true) = some r := by rw [if_pos rfl] at H; exact H
              clear H
              have H := H1
              clear H1
              obtain rfl := Option.some.inj H
              have p242 : 0 ≤ (x7_1 : Int) := of_decide_eq_true (by first | (with_reducible assumption) | assumption)
              have q242 : x7_1 < (l0.length : Int) := of_decide_eq_true (by first | (with_reducible assumption) | assumption)
              obtain ⟨ad242, e242, hx242_0, hx242_1⟩ := at_T23 HR0.out x7_1 p242 q242
              (try rw [← Nbq5.out] at hx242_1)
              cases e242
              replace hx242_0 := (HB.out.cell (World.block_lt_of_cell? w _ hx242_0)).trans hx242_0
              replace hx242_1 := (HB.out.cell (World.block_lt_of_cell? w _ hx242_1)).trans hx242_1
              replace p242 := eq_true p242
              replace q242 := eq_true q242
              go_wp2_with (first | ((with_reducible refine gate_dst (N := 4) rfl ?_); refine box_event ?hg (N := 4) ?hd (cs := #[.int .i64 0, .bool false]) (t := 23) ?hr ?_; (case hd => rfl); (case hg => rfl); (case hr => first | (go_simp; done) | (go_simp; rfl)); intro gb243 hg w7 hbox hb; have n0_ := Aside0.mk (below_step (by repeat (first | (with_reducible first | exact HB.out | apply below_alloc | apply pw_below_drewN | apply below_drew1) | exact HB.out)) hb); have n1_ := Aside0.mk (hbox); have n2_ := Aside0.mk ((by rw [hg]; exact (below_size (by repeat (first | (with_reducible first | exact HB.out | apply below_alloc | apply pw_below_drewN | apply below_drew1) | exact HB.out))) : w.heap.size ≤ gb243)); have n3_ := Aside0.mk ((by rw [hg]; exact (below_size (by repeat (first | (with_reducible first | exact HB.out | apply below_alloc | apply pw_below_drewN | apply below_drew1) | exact HB.out))) : w.heap.size ≤ gb243)); clear HB; have HB := n0_; have BK243 := n1_; have GW243 := n2_; have GE243 := n3_; clear n0_ n1_ n2_ n3_; clear hb hbox hg; have hcz8_0 : w7.cell? ⟨gb243, 0, none⟩ = some (.int .i64 0) := (blk_cell BK243.out 0).trans rfl; have hcz8_1 : w7.cell? ⟨gb243, 1, none⟩ = some (.bool false) := (blk_cell BK243.out 1).trans rfl; have hfz8_0 := blk_frozen BK243.out 0; have hfz8_1 := blk_frozen BK243.out 1))
              go_ret
              exact ⟨by first | rfl | (simp [errW_none, errW_some] <;> rfl) | (simp [*, errW_none, errW_some] <;> rfl), by repeat (first | (with_reducible first | exact HB.out | apply below_alloc | apply pw_below_drewN | apply below_drew1 | refine below_set ?_ GE243.out) | exact HB.out)⟩
            · replace c6 := Bool.eq_false_iff.mpr c6
              subst c6
              have H1 : (fixed_flags.l0 k1 l0 (l0.length : Int) (wrap64 (x7_1 + 1))) = some r := by rw [if_neg (show ¬ (false = true) by decide)] at H; exact H
              clear H
              have H := H1
              clear H1
              have H' := Aside0.mk H
              clear H
              have p242 : 0 ≤ (x7_1 : Int) := of_decide_eq_true (by first | (with_reducible assumption) | assumption)
              have q242 : x7_1 < (l0.length : Int) := of_decide_eq_true (by first | (with_reducible assumption) | assumption)
              obtain ⟨ad242, e242, hx242_0, hx242_1⟩ := at_T23 HR0.out x7_1 p242 q242
              (try rw [← Nbq5.out] at hx242_1)
              cases e242
              replace hx242_0 := (HB.out.cell (World.block_lt_of_cell? w _ hx242_0)).trans hx242_0
              replace hx242_1 := (HB.out.cell (World.block_lt_of_cell? w _ hx242_1)).trans hx242_1
              replace p242 := eq_true p242
              replace q242 := eq_true q242
              go_wp2_with (first | ((with_reducible refine gate_dst (N := 4) rfl ?_); refine box_event ?hg (N := 4) ?hd (cs := #[.int .i64 0, .bool false]) (t := 23) ?hr ?_; (case hd => rfl); (case hg => rfl); (case hr => first | (go_simp; done) | (go_simp; rfl)); intro gb243 hg w9 hbox hb; have n0_ := Aside0.mk (below_step (by repeat (first | (with_reducible first | exact HB.out | apply below_alloc | apply pw_below_drewN | apply below_drew1) | exact HB.out)) hb); have n1_ := Aside0.mk (hbox); have n2_ := Aside0.mk ((by rw [hg]; exact (below_size (by repeat (first | (with_reducible first | exact HB.out | apply below_alloc | apply pw_below_drewN | apply below_drew1) | exact HB.out))) : w.heap.size ≤ gb243)); have n3_ := Aside0.mk ((by rw [hg]; exact (below_size (by repeat (first | (with_reducible first | exact HB.out | apply below_alloc | apply pw_below_drewN | apply below_drew1) | exact HB.out))) : w.heap.size ≤ gb243)); clear HB; have HB := n0_; have BK243 := n1_; have GW243 := n2_; have GE243 := n3_; clear n0_ n1_ n2_ n3_; clear hb hbox hg; have hcz10_0 : w9.cell? ⟨gb243, 0, none⟩ = some (.int .i64 0) := (blk_cell BK243.out 0).trans rfl; have hcz10_1 : w9.cell? ⟨gb243, 1, none⟩ = some (.bool false) := (blk_cell BK243.out 1).trans rfl; have hfz10_0 := blk_frozen BK243.out 0; have hfz10_1 := blk_frozen BK243.out 1))
              go_roundg k1
              case measure => have := HK1.out; omega
              case rel => exact ⟨(wrap64 (x7_1 + 1)), (by first | rfl | (simp; done) | (simp [*]; done)), H', ⟨by have := HK1.out; omega⟩, ⟨by repeat (first | (with_reducible first | exact HB.out | apply below_alloc | apply pw_below_drewN | apply below_drew1 | refine below_set ?_ GE243.out) | exact HB.out)⟩⟩
          · rw [if_neg c4] at H
            exact absurd H (by simp)
        · rw [if_neg c3] at H
          exact absurd H (by simp)
      · rw [if_neg c2] at H
        have c2b0 : decide (x7_1 < (l0.length : Int)) = false := decide_eq_false c2
        clear c2
        obtain rfl := Option.some.inj H
        go_wp2
        go_ret
        exact ⟨by first | rfl | (simp [errW_none, errW_some] <;> rfl) | (simp [*, errW_none, errW_some] <;> rfl), by repeat (first | (with_reducible first | exact HB.out | apply below_alloc | apply pw_below_drewN | apply below_drew1) | exact HB.out)⟩
end Go.Proofs.Ytenpiaafkmfjfaa.B

end
section
namespace Go.Proofs.Ytenpiaafkmfjfaa.B
open Go.RowKit Go.Proofs.YtenpiaafkmfjfaaW.PrintWords Go.Proofs.YtenpiaafkmfjfaaW.PrintLast Go.Proofs.YtenpiaafkmfjfaaW.PrintMore
attribute [local go_sem] max2_int min2_int max_two min_two max_three min_three max_four min_four
set_option linter.unusedVariables false
set_option linter.unusedSimpArgs false
mutual
def fixed_words_root.j0 : Nat → Bool → Int → Int → Option (Int)
  | 0, _, _, _ => none
  | k + 1, x17, x278000, x278001 => if x17 = true then (some 0) else ((bits_Len64.f x278000).bind fun t278 => (if x278001 = 0 then (fixed_words_root.j1 k t278 x278000 x278001) else ((bits_Len64.f x278001).bind fun t279 => (fixed_words_root.j1 k (wrap64 (64 + t279)) x278000 x278001))))
def fixed_words_root.j1 : Nat → Int → Int → Int → Option (Int)
  | 0, _, _, _ => none
  | k + 1, x3, x278000, x278001 => if (wrap64 (Int.tdiv (wrap64 (x3 + 1)) 2)) < 64 then (if 0 ≤ (wrap64 (Int.tdiv (wrap64 (x3 + 1)) 2)) then (fixed_words_root.j2 k (shl .u64 1 (wrap64 (Int.tdiv (wrap64 (x3 + 1)) 2))) x278000 x278001) else (none)) else (fixed_words_root.j2 k 18446744073709551615 x278000 x278001)
def fixed_words_root.j2 : Nat → Int → Int → Int → Option (Int)
  | 0, _, _, _ => none
  | k + 1, x4, x278000, x278001 => fixed_words_root.l0 k x4 x278000 x278001
def fixed_words_root.l0 : Nat → Int → Int → Int → Option (Int)
  | 0, _, _, _ => none
  | k + 1, x4, x278000, x278001 => if x278001 ≥ x4 then (some x4) else ((bits_Div64.f k x278001 x278000 x4).bind fun bt280 => (if bt280.1 ≥ x4 then (some x4) else (fixed_words_root.l0 k (Go.bits .or .u64 ((add64s x4 bt280.1 0) / 2) (IntKind.u64.wrap ((add64c x4 bt280.1 0) * 9223372036854775808))) x278000 x278001)))
end
def fixed_words_root.f (k : Nat) (a0_0 : Int) (a0_1 : Int) : Option (Int) := if a0_1 = 0 then (fixed_words_root.j0 k (a0_0 == 0) a0_0 a0_1) else (fixed_words_root.j0 k false a0_0 a0_1)
set_option maxHeartbeats 8000000 in
set_option maxRecDepth 100000 in
theorem fixed_words_root.calls (k : Nat) (a0_0 : Int) (a0_1 : Int) (r : Int) (w : World) (h : fixed_words_root.f k a0_0 a0_1 = some r) :
    Calls Try.prog 90 #[.agg #[.int .u64 a0_0, .int .u64 a0_1]] w fun e w' => e = .returned (.int .u64 r) ∧ Below w.heap.size w w' := by
  have hu58 := Try.underlying58
  have hx1080 := @ext108_0
  have hx1081 := @ext108_1
  have HB := Aside0.mk (Below.refl w.heap.size w)
  have H : (if a0_1 = 0 then (fixed_words_root.j0 k (a0_0 == 0) a0_0 a0_1) else (fixed_words_root.j0 k false a0_0 a0_1)) = some r := h
  clear h
  have HC2 := Aside0.mk H
  clear H
  go_enter Try.func90, Try.ntmps90
  go_upto_region 1 with (first | ((with_reducible refine gate_dst (N := 1) rfl ?_); refine box_event ?hg (N := 1) ?hd (cs := #[.int .u64 a0_0, .int .u64 a0_1]) (t := 58) ?hr ?_; (case hd => rfl); (case hg => rfl); (case hr => first | (go_simp; done) | (go_simp; rfl)); intro gb277 hg w3 hbox hb; have n0_ := Aside0.mk (below_step (by repeat (first | (with_reducible first | exact HB.out | apply below_alloc | apply pw_below_drewN | apply below_drew1) | exact HB.out)) hb); have n1_ := Aside0.mk (hbox); have n2_ := Aside0.mk ((by rw [hg]; exact (below_size (by repeat (first | (with_reducible first | exact HB.out | apply below_alloc | apply pw_below_drewN | apply below_drew1) | exact HB.out))) : w.heap.size ≤ gb277)); have n3_ := Aside0.mk ((by rw [hg]; exact (below_size (by repeat (first | (with_reducible first | exact HB.out | apply below_alloc | apply pw_below_drewN | apply below_drew1) | exact HB.out))) : w.heap.size ≤ gb277)); clear HB; have HB := n0_; have BK277 := n1_; have GW277 := n2_; have GE277 := n3_; clear n0_ n1_ n2_ n3_; clear hb hbox hg))
  (try simp only [Act.put, List.setIfInBounds_toArray, List.set_cons_zero, List.set_cons_succ])
  go_cut [17] (fun v17 wc => ∃ (kq : Nat) (x17_1 : Bool), v17 = .bool x17_1 ∧ Aside0 (fixed_words_root.j0 kq x17_1 a0_0 a0_1 = some r) ∧ Aside0 (kq ≤ k) ∧ Aside0 (wc.heap[gb277]? = some (.cells #[.int .u64 a0_0, .int .u64 a0_1] 58 (0, 0))) ∧ Aside0 (Below w.heap.size w wc))
  case first =>
    have H := HC2.out
    clear HC2
    by_cases c4 : a0_1 = 0
    · rw [if_pos c4] at H
      have c4b0 : (a0_1 == 0) = true := beq_iff_eq.mpr c4
      have c4b1 : (a0_1 != 0) = false := bne_eq_false_iff_eq.mpr c4
      clear c4
      (first | rw [c4b0] | (simp only [i64_w, i32_w]; rw [c4b0]) | skip)
      have H' := Aside0.mk H
      clear H
      have hcz5_0 : w3.cell? ⟨gb277, 0, none⟩ = some (.int .u64 a0_0) := (blk_cell BK277.out 0).trans rfl
      have hcz5_1 : w3.cell? ⟨gb277, 1, none⟩ = some (.int .u64 a0_1) := (blk_cell BK277.out 1).trans rfl
      have hfz5_0 := blk_frozen BK277.out 0
      have hfz5_1 := blk_frozen BK277.out 1
      go_wp2
      go_meet
      case rel => exact ⟨_, ((a0_0 == 0)), (by first | rfl | (simp; done) | (simp [*]; done)), H', ⟨by first | omega | exact Nat.le_refl _⟩, ⟨by (with_reducible repeat (first | refine blk_drewN ?_ _ | refine blk_drew ?_ | refine blk_alloc ?_ _)); exact BK277.out⟩, ⟨by repeat (first | (with_reducible first | exact HB.out | apply below_alloc | apply pw_below_drewN | apply below_drew1 | refine below_set ?_ GE277.out) | exact HB.out)⟩⟩
    · rw [if_neg c4] at H
      have c4b0 : (a0_1 == 0) = false := beq_eq_false_iff_ne.mpr c4
      have c4b1 : (a0_1 != 0) = true := bne_iff_ne.mpr c4
      (first | rw [c4b0] | (simp only [i64_w, i32_w]; rw [c4b0]) | skip)
      have H' := Aside0.mk H
      clear H
      have hcz6_0 : w3.cell? ⟨gb277, 0, none⟩ = some (.int .u64 a0_0) := (blk_cell BK277.out 0).trans rfl
      have hcz6_1 : w3.cell? ⟨gb277, 1, none⟩ = some (.int .u64 a0_1) := (blk_cell BK277.out 1).trans rfl
      have hfz6_0 := blk_frozen BK277.out 0
      have hfz6_1 := blk_frozen BK277.out 1
      go_wp2
      go_meet
      case rel => exact ⟨_, (false), (by first | rfl | (simp; done) | (simp [*]; done)), H', ⟨by first | omega | exact Nat.le_refl _⟩, ⟨by (with_reducible repeat (first | refine blk_drewN ?_ _ | refine blk_drew ?_ | refine blk_alloc ?_ _)); exact BK277.out⟩, ⟨by repeat (first | (with_reducible first | exact HB.out | apply below_alloc | apply pw_below_drewN | apply below_drew1 | refine below_set ?_ GE277.out) | exact HB.out)⟩⟩
  case rest =>
    clear HC2
    try clear p2
    try clear c4
    try clear c4b0
    try clear c4b1
    try clear hcz5_0
    try clear hcz5_1
    try clear hcz6_0
    try clear hcz6_1
    try clear hfz5_0
    try clear hfz5_1
    try clear hfz6_0
    try clear hfz6_1
    obtain ⟨kq, x17_1, rfl, HA, HJ1, BK277, HB⟩ := hcut
    cases kq with
    | zero => exact absurd HA.out (by simp [fixed_words_root.j0])
    | succ kj1 =>
      have H := HA.out
      clear HA
      simp only [fixed_words_root.j0] at H
      by_cases c7 : x17_1 = true
      · subst c7
        have H1 : (some 0) = some r := by rw [if_pos rfl] at H; exact H
        clear H
        have H := H1
        clear H1
        obtain rfl := Option.some.inj H
        go_wp2
        go_ret
        exact ⟨by first | rfl | (simp [errW_none, errW_some] <;> rfl) | (simp [*, errW_none, errW_some] <;> rfl), by repeat (first | (with_reducible first | exact HB.out | apply below_alloc | apply pw_below_drewN | apply below_drew1 | refine below_set ?_ GE277.out) | exact HB.out)⟩
      · replace c7 := Bool.eq_false_iff.mpr c7
        subst c7
        have H1 : ((bits_Len64.f a0_0).bind fun t278 => (if a0_1 = 0 then (fixed_words_root.j1 kj1 t278 a0_0 a0_1) else ((bits_Len64.f a0_1).bind fun t279 => (fixed_words_root.j1 kj1 (wrap64 (64 + t279)) a0_0 a0_1)))) = some r := by rw [if_neg (show ¬ (false = true) by decide)] at H; exact H
        clear H
        have H := H1
        clear H1
        replace H := Option.bind_eq_some_iff.mp H
        obtain ⟨t278, A80, H⟩ := H
        replace H : (if a0_1 = 0 then (fixed_words_root.j1 kj1 t278 a0_0 a0_1) else ((bits_Len64.f a0_1).bind fun t279 => (fixed_words_root.j1 kj1 (wrap64 (64 + t279)) a0_0 a0_1))) = some r := H
        have A8 := Aside0.mk A80
        clear A80
        have HC9 := Aside0.mk H
        clear H
        have hcz10_0 : wc.cell? ⟨gb277, 0, none⟩ = some (.int .u64 a0_0) := (blk_cell BK277.out 0).trans rfl
        have hcz10_1 : wc.cell? ⟨gb277, 1, none⟩ = some (.int .u64 a0_1) := (blk_cell BK277.out 1).trans rfl
        have hfz10_0 := blk_frozen BK277.out 0
        have hfz10_1 := blk_frozen BK277.out 1
        go_upto_if 23 with (first | ((with_reducible refine gate_callee (f := 113) rfl ?_); refine goesL_ (some 20) rfl rfl Try.func113 (by kernel_rfl) rfl #[.int .u64 a0_0] rfl (by (try simp only [List.map_toArray, List.map_cons, List.map_nil]); first | done | rfl | (simp only [List.length_drop, List.length_take]; rfl)) ?_; (with_reducible refine (bits_Len64.calls a0_0 t278 _ A8.out).mono ?_); rintro e w11 ⟨rfl, hb⟩; refine ⟨_, rfl, ?_⟩; have n0_ := Aside0.mk (blk_below (g := gb277) (o := .cells #[.int .u64 a0_0, .int .u64 a0_1] 58 (0, 0)) (by (with_reducible repeat (first | refine blk_drewN ?_ _ | refine blk_drew ?_ | refine blk_alloc ?_ _)); exact BK277.out) hb); have n1_ := Aside0.mk (below_step (by repeat (first | (with_reducible first | exact HB.out | apply below_alloc | apply pw_below_drewN | apply below_drew1 | refine below_set ?_ GE277.out) | exact HB.out)) hb); clear BK277; clear HB; have BK277 := n0_; have HB := n1_; clear n0_ n1_; (try clear hb); (try clear hb2); (try clear hk); (try clear hi); have hcz12_0 : w11.cell? ⟨gb277, 0, none⟩ = some (.int .u64 a0_0) := (blk_cell BK277.out 0).trans rfl; have hcz12_1 : w11.cell? ⟨gb277, 1, none⟩ = some (.int .u64 a0_1) := (blk_cell BK277.out 1).trans rfl; have hfz12_0 := blk_frozen BK277.out 0; have hfz12_1 := blk_frozen BK277.out 1))
        (try simp only [Act.put, List.setIfInBounds_toArray, List.set_cons_zero, List.set_cons_succ])
        go_cut [3] (fun v3 wc => ∃ (kq : Nat) (x3_8 : Int), v3 = .int .i64 x3_8 ∧ Aside0 (fixed_words_root.j1 kq x3_8 a0_0 a0_1 = some r) ∧ Aside0 (kq ≤ kj1) ∧ Aside0 (wc.heap[gb277]? = some (.cells #[.int .u64 a0_0, .int .u64 a0_1] 58 (0, 0))) ∧ Aside0 (Below w.heap.size w wc))
        case first =>
          have H := HC9.out
          clear HC9
          by_cases c13 : a0_1 = 0
          · rw [if_pos c13] at H
            have c13b0 : (a0_1 == 0) = true := beq_iff_eq.mpr c13
            have c13b1 : (a0_1 != 0) = false := bne_eq_false_iff_eq.mpr c13
            clear c13
            (first | rw [c13b0] | (simp only [i64_w, i32_w]; rw [c13b0]) | skip)
            have H' := Aside0.mk H
            clear H
            go_wp2
            go_meet
            case rel => exact ⟨_, (t278), (by first | rfl | (simp; done) | (simp [*]; done)), H', ⟨by have := HJ1.out; first | omega | exact Nat.le_refl _⟩, ⟨by (with_reducible repeat (first | refine blk_drewN ?_ _ | refine blk_drew ?_ | refine blk_alloc ?_ _)); exact BK277.out⟩, ⟨by repeat (first | (with_reducible first | exact HB.out | apply below_alloc | apply pw_below_drewN | apply below_drew1 | refine below_set ?_ GE277.out) | exact HB.out)⟩⟩
          · rw [if_neg c13] at H
            have c13b0 : (a0_1 == 0) = false := beq_eq_false_iff_ne.mpr c13
            have c13b1 : (a0_1 != 0) = true := bne_iff_ne.mpr c13
            (first | rw [c13b0] | (simp only [i64_w, i32_w]; rw [c13b0]) | skip)
            replace H := Option.bind_eq_some_iff.mp H
            obtain ⟨t279, A140, H⟩ := H
            replace H : (fixed_words_root.j1 kj1 (wrap64 (64 + t279)) a0_0 a0_1) = some r := H
            have A14 := Aside0.mk A140
            clear A140
            have H' := Aside0.mk H
            clear H
            have hcz15_0 : w11.cell? ⟨gb277, 0, none⟩ = some (.int .u64 a0_0) := (blk_cell BK277.out 0).trans rfl
            have hcz15_1 : w11.cell? ⟨gb277, 1, none⟩ = some (.int .u64 a0_1) := (blk_cell BK277.out 1).trans rfl
            have hfz15_0 := blk_frozen BK277.out 0
            have hfz15_1 := blk_frozen BK277.out 1
            go_wp2_with (first | ((with_reducible refine gate_callee (f := 113) rfl ?_); refine goesL_ (some 26) rfl rfl Try.func113 (by kernel_rfl) rfl #[.int .u64 a0_1] rfl (by (try simp only [List.map_toArray, List.map_cons, List.map_nil]); first | done | rfl | (simp only [List.length_drop, List.length_take]; rfl)) ?_; (with_reducible refine (bits_Len64.calls a0_1 t279 _ A14.out).mono ?_); rintro e w16 ⟨rfl, hb⟩; refine ⟨_, rfl, ?_⟩; have n0_ := Aside0.mk (blk_below (g := gb277) (o := .cells #[.int .u64 a0_0, .int .u64 a0_1] 58 (0, 0)) (by (with_reducible repeat (first | refine blk_drewN ?_ _ | refine blk_drew ?_ | refine blk_alloc ?_ _)); exact BK277.out) hb); have n1_ := Aside0.mk (below_step (by repeat (first | (with_reducible first | exact HB.out | apply below_alloc | apply pw_below_drewN | apply below_drew1 | refine below_set ?_ GE277.out) | exact HB.out)) hb); clear BK277; clear HB; have BK277 := n0_; have HB := n1_; clear n0_ n1_; (try clear hb); (try clear hb2); (try clear hk); (try clear hi)))
            go_meet
            case rel => exact ⟨_, (wrap64 (64 + t279)), (by first | rfl | (simp; done) | (simp [*]; done)), H', ⟨by have := HJ1.out; first | omega | exact Nat.le_refl _⟩, ⟨by (with_reducible repeat (first | refine blk_drewN ?_ _ | refine blk_drew ?_ | refine blk_alloc ?_ _)); exact BK277.out⟩, ⟨by repeat (first | (with_reducible first | exact HB.out | apply below_alloc | apply pw_below_drewN | apply below_drew1 | refine below_set ?_ GE277.out) | exact HB.out)⟩⟩
        case rest =>
          clear HC9
          try clear c1
          try clear p2
          try clear c4
          try clear c4b0
          try clear c4b1
          try clear p6
          try clear c7
          try clear c9
          try clear c11
          try clear c13
          try clear c13b0
          try clear c13b1
          try clear hcz10_0
          try clear hcz10_1
          try clear hcz12_0
          try clear hcz12_1
          try clear hcz15_0
          try clear hcz15_1
          try clear hcz5_0
          try clear hcz5_1
          try clear hcz6_0
          try clear hcz6_1
          try clear hfz10_0
          try clear hfz10_1
          try clear hfz12_0
          try clear hfz12_1
          try clear hfz15_0
          try clear hfz15_1
          try clear hfz5_0
          try clear hfz5_1
          try clear hfz6_0
          try clear hfz6_1
          try clear p2
          obtain ⟨kq, x3_8, rfl, HA, HJ8, BK277, HB⟩ := hcut
          cases kq with
          | zero => exact absurd HA.out (by simp [fixed_words_root.j1])
          | succ kj8 =>
            have H := HA.out
            clear HA
            simp only [fixed_words_root.j1] at H
            have HC17 := Aside0.mk H
            clear H
            go_upto_if 32 with (fail)
            go_cut [4] (fun v4 wc => ∃ (kq : Nat) (x4_16 : Int), v4 = .int .u64 x4_16 ∧ Aside0 (fixed_words_root.j2 kq x4_16 a0_0 a0_1 = some r) ∧ Aside0 (kq ≤ kj8) ∧ Aside0 (wc.heap[gb277]? = some (.cells #[.int .u64 a0_0, .int .u64 a0_1] 58 (0, 0))) ∧ Aside0 (Below w.heap.size w wc))
            case first =>
              have H := HC17.out
              clear HC17
              by_cases c18 : (wrap64 (Int.tdiv (wrap64 (x3_8 + 1)) 2)) < 64
              · rw [if_pos c18] at H
                have c18b0 : decide ((wrap64 (Int.tdiv (wrap64 (x3_8 + 1)) 2)) < 64) = true := decide_eq_true c18
                clear c18
                (first | rw [c18b0] | (simp only [i64_w, i32_w]; rw [c18b0]) | skip)
                obtain ⟨ji19, hji19⟩ : ∃ j_ : Int, (wrap64 (Int.tdiv (wrap64 (x3_8 + 1)) 2)) = j_ := ⟨_, rfl⟩
                replace H : (if 0 ≤ (ji19) then (fixed_words_root.j2 kj8 (shl .u64 1 (ji19)) a0_0 a0_1) else (none)) = some r := by first | (rw [hji19] at H; exact H) | (simp only [hji19] at H ⊢; exact H)
                (try rw [hji19] at c18b0)
                have hji19w : (IntKind.i64.wrap (Int.tdiv (wrap64 (x3_8 + 1)) 2)) = ji19 := (i64_w _).trans hji19
                by_cases c20 : 0 ≤ (ji19)
                · rw [if_pos c20] at H
                  have c20b0 := eq_true c20
                  have c20b1 : decide (0 ≤ (ji19)) = true := decide_eq_true c20
                  clear c20
                  obtain ⟨ji21, hji21⟩ : ∃ j_ : Int, (shl .u64 1 (ji19)) = j_ := ⟨_, rfl⟩
                  replace H : (fixed_words_root.j2 kj8 ji21 a0_0 a0_1) = some r := by first | (rw [hji21] at H; exact H) | (simp only [hji21] at H ⊢; exact H)
                  have hji21_ : (IntKind.u64.wrap (1 * 2 ^ min (ji19).toNat 64)) = ji21 := hji21
                  have hji21z : (ji19) ≤ 64 → (IntKind.u64.wrap (1 * 2 ^ (ji19).toNat)) = ji21 := shl_small hji21
                  have hji21u : (IntKind.u64.wrap (2 ^ min (ji19).toNat 64)) = ji21 := by have h_ := hji21_; rw [Int.one_mul] at h_; exact h_
                  have hji21v : (ji19) ≤ 64 → (IntKind.u64.wrap (2 ^ (ji19).toNat)) = ji21 := fun hle_ => by have h_ := hji21z hle_; rw [Int.one_mul] at h_; exact h_
                  have H' := Aside0.mk H
                  clear H
                  go_wp2
                  go_meet
                  case rel => exact ⟨_, (ji21), (by first | rfl | (simp; done) | (simp only [← hji21] <;> (first | rfl | simp)) | (simp [*]; done)), H', ⟨by have := HJ1.out; have := HJ8.out; first | omega | exact Nat.le_refl _⟩, ⟨by (with_reducible repeat (first | refine blk_drewN ?_ _ | refine blk_drew ?_ | refine blk_alloc ?_ _)); exact BK277.out⟩, ⟨by repeat (first | (with_reducible first | exact HB.out | apply below_alloc | apply pw_below_drewN | apply below_drew1 | refine below_set ?_ GE277.out) | exact HB.out)⟩⟩
                · rw [if_neg c20] at H
                  exact absurd H (by simp)
              · rw [if_neg c18] at H
                have c18b0 : decide ((wrap64 (Int.tdiv (wrap64 (x3_8 + 1)) 2)) < 64) = false := decide_eq_false c18
                clear c18
                (first | rw [c18b0] | (simp only [i64_w, i32_w]; rw [c18b0]) | skip)
                have H' := Aside0.mk H
                clear H
                go_wp2
                go_meet
                case rel => exact ⟨_, (18446744073709551615), (by first | rfl | (simp; done) | (simp [*]; done)), H', ⟨by have := HJ1.out; have := HJ8.out; first | omega | exact Nat.le_refl _⟩, ⟨by (with_reducible repeat (first | refine blk_drewN ?_ _ | refine blk_drew ?_ | refine blk_alloc ?_ _)); exact BK277.out⟩, ⟨by repeat (first | (with_reducible first | exact HB.out | apply below_alloc | apply pw_below_drewN | apply below_drew1 | refine below_set ?_ GE277.out) | exact HB.out)⟩⟩
            case rest =>
              clear HC17
              try clear c1
              try clear c2
              try clear p2
              try clear c4
              try clear c4b0
              try clear c4b1
              try clear p6
              try clear c7
              try clear c9
              try clear c11
              try clear c13
              try clear c13b0
              try clear c13b1
              try clear c18
              try clear c18b0
              try clear c20
              try clear c20b0
              try clear c20b1
              try clear hcz10_0
              try clear hcz10_1
              try clear hcz12_0
              try clear hcz12_1
              try clear hcz15_0
              try clear hcz15_1
              try clear hcz5_0
              try clear hcz5_1
              try clear hcz6_0
              try clear hcz6_1
              try clear hfz10_0
              try clear hfz10_1
              try clear hfz12_0
              try clear hfz12_1
              try clear hfz15_0
              try clear hfz15_1
              try clear hfz5_0
              try clear hfz5_1
              try clear hfz6_0
              try clear hfz6_1
              try clear p2
              try clear p6
              obtain ⟨kq, x4_16, rfl, HA, HJ16, BK277, HB⟩ := hcut
              cases kq with
              | zero => exact absurd HA.out (by simp [fixed_words_root.j2])
              | succ kj16 =>
                have H := HA.out
                clear HA
                simp only [fixed_words_root.j2] at H
                have H' := Aside0.mk H
                clear H
                go_wp2
                go_loopg [4] kj16 (fun kq v4 w' => ∃ (x4_4 : Int), v4 = .int .u64 x4_4 ∧ Aside0 (fixed_words_root.l0 kq x4_4 a0_0 a0_1 = some r) ∧ Aside0 (kq ≤ kj16) ∧ Aside0 (w'.heap[gb277]? = some (.cells #[.int .u64 a0_0, .int .u64 a0_1] 58 (0, 0))) ∧ Aside0 (Below w.heap.size w w'))
                case atStart => exact ⟨(x4_16), (by first | rfl | (simp; done) | (simp [*]; done)), H', ⟨Nat.le_refl _⟩, ⟨by (with_reducible repeat (first | refine blk_drewN ?_ _ | refine blk_drew ?_ | refine blk_alloc ?_ _)); exact BK277.out⟩, ⟨by repeat (first | (with_reducible first | exact HB.out | apply below_alloc | apply pw_below_drewN | apply below_drew1 | refine below_set ?_ GE277.out) | exact HB.out)⟩⟩
                case round =>
                  clear H'
                  try clear c1
                  try clear c2
                  try clear p2
                  try clear c4
                  try clear c4b0
                  try clear c4b1
                  try clear p6
                  try clear c7
                  try clear c9
                  try clear c11
                  try clear c13
                  try clear c13b0
                  try clear c13b1
                  try clear c18
                  try clear c18b0
                  try clear c20
                  try clear c20b0
                  try clear c20b1
                  try clear hcz10_0
                  try clear hcz10_1
                  try clear hcz12_0
                  try clear hcz12_1
                  try clear hcz15_0
                  try clear hcz15_1
                  try clear hcz5_0
                  try clear hcz5_1
                  try clear hcz6_0
                  try clear hcz6_1
                  try clear hfz10_0
                  try clear hfz10_1
                  try clear hfz12_0
                  try clear hfz12_1
                  try clear hfz15_0
                  try clear hfz15_1
                  try clear hfz5_0
                  try clear hfz5_1
                  try clear hfz6_0
                  try clear hfz6_1
                  try clear p2
                  try clear p6
                  obtain ⟨x4_4, rfl, HA, HK4, BK277, HB⟩ := hrel
                  cases gk with
                  | zero => exact absurd HA.out (by simp [fixed_words_root.l0])
                  | succ k4 =>
                    have H := HA.out
                    clear HA
                    simp only [fixed_words_root.l0] at H
                    by_cases c22 : a0_1 ≥ x4_4
                    · rw [if_pos c22] at H
                      have c22b0 : decide (x4_4 ≤ a0_1) = true := decide_eq_true c22
                      clear c22
                      obtain rfl := Option.some.inj H
                      have hcz23_0 : wr.cell? ⟨gb277, 0, none⟩ = some (.int .u64 a0_0) := (blk_cell BK277.out 0).trans rfl
                      have hcz23_1 : wr.cell? ⟨gb277, 1, none⟩ = some (.int .u64 a0_1) := (blk_cell BK277.out 1).trans rfl
                      have hfz23_0 := blk_frozen BK277.out 0
                      have hfz23_1 := blk_frozen BK277.out 1
                      go_wp2
                      go_ret
                      exact ⟨by first | rfl | (simp [errW_none, errW_some] <;> rfl) | (simp [*, errW_none, errW_some] <;> rfl), by repeat (first | (with_reducible first | exact HB.out | apply below_alloc | apply pw_below_drewN | apply below_drew1 | refine below_set ?_ GE277.out) | exact HB.out)⟩
                    · rw [if_neg c22] at H
                      have c22b0 : decide (x4_4 ≤ a0_1) = false := decide_eq_false c22
                      clear c22
                      replace H := Option.bind_eq_some_iff.mp H
                      obtain ⟨⟨t280, t281⟩, A240, H⟩ := H
                      replace H : (if t280 ≥ x4_4 then (some x4_4) else (fixed_words_root.l0 k4 (Go.bits .or .u64 ((add64s x4_4 t280 0) / 2) (IntKind.u64.wrap ((add64c x4_4 t280 0) * 9223372036854775808))) a0_0 a0_1)) = some r := H
                      have A24 := Aside0.mk A240
                      clear A240
                      by_cases c25 : t280 ≥ x4_4
                      · rw [if_pos c25] at H
                        have c25b0 : decide (x4_4 ≤ t280) = true := decide_eq_true c25
                        clear c25
                        obtain rfl := Option.some.inj H
                        have hcz26_0 : wr.cell? ⟨gb277, 0, none⟩ = some (.int .u64 a0_0) := (blk_cell BK277.out 0).trans rfl
                        have hcz26_1 : wr.cell? ⟨gb277, 1, none⟩ = some (.int .u64 a0_1) := (blk_cell BK277.out 1).trans rfl
                        have hfz26_0 := blk_frozen BK277.out 0
                        have hfz26_1 := blk_frozen BK277.out 1
                        go_wp2_with (first | ((with_reducible refine gate_callee (f := 91) rfl ?_); refine goesL_ (some 46) rfl rfl Try.func91 (by kernel_rfl) rfl #[.int .u64 a0_1, .int .u64 a0_0, .int .u64 x4_4] rfl (by (try simp only [List.map_toArray, List.map_cons, List.map_nil]); first | done | rfl | (simp only [List.length_drop, List.length_take]; rfl)) ?_; (with_reducible refine (bits_Div64.calls k4 a0_1 a0_0 x4_4 t280 t281 _ A24.out).mono ?_); rintro e w27 ⟨rfl, hb⟩; refine ⟨_, rfl, ?_⟩; have n0_ := Aside0.mk (blk_below (g := gb277) (o := .cells #[.int .u64 a0_0, .int .u64 a0_1] 58 (0, 0)) (by (with_reducible repeat (first | refine blk_drewN ?_ _ | refine blk_drew ?_ | refine blk_alloc ?_ _)); exact BK277.out) hb); have n1_ := Aside0.mk (below_step (by repeat (first | (with_reducible first | exact HB.out | apply below_alloc | apply pw_below_drewN | apply below_drew1 | refine below_set ?_ GE277.out) | exact HB.out)) hb); clear BK277; clear HB; have BK277 := n0_; have HB := n1_; clear n0_ n1_; (try clear hb); (try clear hb2); (try clear hk); (try clear hi)))
                        go_ret
                        exact ⟨by first | rfl | (simp [errW_none, errW_some] <;> rfl) | (simp [*, errW_none, errW_some] <;> rfl), by repeat (first | (with_reducible first | exact HB.out | apply below_alloc | apply pw_below_drewN | apply below_drew1 | refine below_set ?_ GE277.out) | exact HB.out)⟩
                      · rw [if_neg c25] at H
                        have c25b0 : decide (x4_4 ≤ t280) = false := decide_eq_false c25
                        clear c25
                        have H' := Aside0.mk H
                        clear H
                        have hcz28_0 : wr.cell? ⟨gb277, 0, none⟩ = some (.int .u64 a0_0) := (blk_cell BK277.out 0).trans rfl
                        have hcz28_1 : wr.cell? ⟨gb277, 1, none⟩ = some (.int .u64 a0_1) := (blk_cell BK277.out 1).trans rfl
                        have hfz28_0 := blk_frozen BK277.out 0
                        have hfz28_1 := blk_frozen BK277.out 1
                        go_wp2_with (first | ((with_reducible refine gate_callee (f := 91) rfl ?_); refine goesL_ (some 46) rfl rfl Try.func91 (by kernel_rfl) rfl #[.int .u64 a0_1, .int .u64 a0_0, .int .u64 x4_4] rfl (by (try simp only [List.map_toArray, List.map_cons, List.map_nil]); first | done | rfl | (simp only [List.length_drop, List.length_take]; rfl)) ?_; (with_reducible refine (bits_Div64.calls k4 a0_1 a0_0 x4_4 t280 t281 _ A24.out).mono ?_); rintro e w29 ⟨rfl, hb⟩; refine ⟨_, rfl, ?_⟩; have n0_ := Aside0.mk (blk_below (g := gb277) (o := .cells #[.int .u64 a0_0, .int .u64 a0_1] 58 (0, 0)) (by (with_reducible repeat (first | refine blk_drewN ?_ _ | refine blk_drew ?_ | refine blk_alloc ?_ _)); exact BK277.out) hb); have n1_ := Aside0.mk (below_step (by repeat (first | (with_reducible first | exact HB.out | apply below_alloc | apply pw_below_drewN | apply below_drew1 | refine below_set ?_ GE277.out) | exact HB.out)) hb); clear BK277; clear HB; have BK277 := n0_; have HB := n1_; clear n0_ n1_; (try clear hb); (try clear hb2); (try clear hk); (try clear hi)))
                        go_roundg k4
                        case measure => have := HJ1.out; have := HJ8.out; have := HJ16.out; have := HK4.out; omega
                        case rel => exact ⟨(Go.bits .or .u64 ((add64s x4_4 t280 0) / 2) (IntKind.u64.wrap ((add64c x4_4 t280 0) * 9223372036854775808))), (by first | rfl | (simp; done) | (simp [*]; done)), H', ⟨by have := HJ1.out; have := HJ8.out; have := HJ16.out; have := HK4.out; omega⟩, ⟨by (with_reducible repeat (first | refine blk_drewN ?_ _ | refine blk_drew ?_ | refine blk_alloc ?_ _)); exact BK277.out⟩, ⟨by repeat (first | (with_reducible first | exact HB.out | apply below_alloc | apply pw_below_drewN | apply below_drew1 | refine below_set ?_ GE277.out) | exact HB.out)⟩⟩
end Go.Proofs.Ytenpiaafkmfjfaa.B

end
section
namespace Go.Proofs.Ytenpiaafkmfjfaa.B
open Go.RowKit Go.Proofs.YtenpiaafkmfjfaaW.PrintWords Go.Proofs.YtenpiaafkmfjfaaW.PrintLast Go.Proofs.YtenpiaafkmfjfaaW.PrintMore
theorem rd_at {l : List S23} {i : Nat} (h : i < l.length) : rd_T23 l (i : Int) = l[i] := by
  unfold rd_T23
  rw [Int.toNat_natCast, List.getD_eq_getElem?_getD, List.getElem?_eq_getElem h]; rfl
theorem flags_loop (l : List S23) (hl : l.length ≤ 1000000) : ∀ (m i k : Nat), m + i = l.length → m + 1 ≤ k → fixed_flags.l0 k l l.length i = some ((l.drop i).any fun x => x.f1) := by
  intro m
  induction m with
  | zero =>
    intro i k hm hk
    obtain ⟨k, rfl⟩ : ∃ z, k = z + 1 := ⟨k - 1, by omega⟩
    rw [fixed_flags.l0, if_neg (by omega), List.drop_of_length_le (by omega)]
    rfl
  | succ m ih =>
    intro i k hm hk
    obtain ⟨k, rfl⟩ : ∃ z, k = z + 1 := ⟨k - 1, by omega⟩
    have hi : i < l.length := by omega
    rw [fixed_flags.l0, if_pos (by omega), if_pos (by omega), if_pos (by omega), rd_at hi, List.drop_eq_getElem_cons hi, List.any_cons]
    by_cases h : l[i].f1 = true
    · rw [if_pos h, h]; rfl
    · rw [if_neg h, wrap64_id (by omega) (by omega), show (i : Int) + 1 = ((i + 1 : Nat) : Int) by omega, ih (i + 1) k (by omega) (by omega)]
      rw [show l[i].f1 = false by simpa using h]; rfl
theorem flags_f (l : List S23) (hl : l.length ≤ 1000000) (k : Nat) (hk : l.length + 1 ≤ k) : fixed_flags.f k l = some (l.any fun x => x.f1) := by
  unfold fixed_flags.f
  have := flags_loop l hl l.length 0 k (by omega) hk
  rw [show ((0 : Nat) : Int) = 0 from rfl] at this
  rw [this]; rfl
end Go.Proofs.Ytenpiaafkmfjfaa.B

end
section
namespace Go.Proofs.Ytenpiaafkmfjfaa.B
open Go.RowKit Go.Proofs.YtenpiaafkmfjfaaW.PrintWords Go.Proofs.YtenpiaafkmfjfaaW.PrintLast Go.Proofs.YtenpiaafkmfjfaaW.PrintMore
attribute [local go_sem] max2_int min2_int max_two min_two max_three min_three max_four min_four
set_option linter.unusedVariables false
set_option linter.unusedSimpArgs false
def bagatelleref01_plus.f (a0_0 : Bool) (a0_1 : Int) (a0_2 : Int) (a1_0 : Bool) (a1_1 : Int) (a1_2 : Int) : Option (Bool × Int × Int) := if a0_0 = true then (if a1_0 = true then (if add64c a0_2 a1_2 0 ≤ 1 then (some (a0_0, add64s a0_1 a1_1 (add64c a0_2 a1_2 0), add64s a0_2 a1_2 0)) else (none)) else ((bagatelleref01_less.f a0_0 a0_1 a0_2 a1_0 a1_1 a1_2).bind fun t527 => (if t527 = true then (some (false, sub64s a1_1 a0_1 (sub64c a1_2 a0_2 0), sub64s a1_2 a0_2 0)) else (if (sub64s a0_1 a1_1 (sub64c a0_2 a1_2 0)) = 0 then (some (((sub64s a0_2 a1_2 0) != 0), sub64s a0_1 a1_1 (sub64c a0_2 a1_2 0), sub64s a0_2 a1_2 0)) else (some (true, sub64s a0_1 a1_1 (sub64c a0_2 a1_2 0), sub64s a0_2 a1_2 0)))))) else (if a1_0 = true then ((bagatelleref01_less.f a0_0 a0_1 a0_2 a1_0 a1_1 a1_2).bind fun t531 => (if t531 = true then (if (sub64s a1_1 a0_1 (sub64c a1_2 a0_2 0)) = 0 then (some (((sub64s a1_2 a0_2 0) != 0), sub64s a1_1 a0_1 (sub64c a1_2 a0_2 0), sub64s a1_2 a0_2 0)) else (some (true, sub64s a1_1 a0_1 (sub64c a1_2 a0_2 0), sub64s a1_2 a0_2 0))) else (some (false, sub64s a0_1 a1_1 (sub64c a0_2 a1_2 0), sub64s a0_2 a1_2 0)))) else (if add64c a0_2 a1_2 0 ≤ 1 then (some (a0_0, add64s a0_1 a1_1 (add64c a0_2 a1_2 0), add64s a0_2 a1_2 0)) else (none)))
set_option maxHeartbeats 8000000 in
set_option maxRecDepth 100000 in
theorem bagatelleref01_plus.calls (a0_0 : Bool) (a0_1 : Int) (a0_2 : Int) (a1_0 : Bool) (a1_1 : Int) (a1_2 : Int) (r1 : Bool) (r2 : Int) (r3 : Int) (w : World) (h : bagatelleref01_plus.f a0_0 a0_1 a0_2 a1_0 a1_1 a1_2 = some (r1, r2, r3)) :
    Calls Try.prog 84 #[.agg #[.bool a0_0, .int .u64 a0_1, .int .u64 a0_2], .agg #[.bool a1_0, .int .u64 a1_1, .int .u64 a1_2]] w fun e w' => e = .returned (.agg #[.bool r1, .int .u64 r2, .int .u64 r3]) ∧ Below w.heap.size w w' := by
  have hu64 := Try.underlying64
  have hx1080 := @ext108_0
  have hx1081 := @ext108_1
  have hx1100 := @ext110_0
  have hx1101 := @ext110_1
  have HB := Aside0.mk (Below.refl w.heap.size w)
  have H : (if a0_0 = true then (if a1_0 = true then (if add64c a0_2 a1_2 0 ≤ 1 then (some (a0_0, add64s a0_1 a1_1 (add64c a0_2 a1_2 0), add64s a0_2 a1_2 0)) else (none)) else ((bagatelleref01_less.f a0_0 a0_1 a0_2 a1_0 a1_1 a1_2).bind fun t527 => (if t527 = true then (some (false, sub64s a1_1 a0_1 (sub64c a1_2 a0_2 0), sub64s a1_2 a0_2 0)) else (if (sub64s a0_1 a1_1 (sub64c a0_2 a1_2 0)) = 0 then (some (((sub64s a0_2 a1_2 0) != 0), sub64s a0_1 a1_1 (sub64c a0_2 a1_2 0), sub64s a0_2 a1_2 0)) else (some (true, sub64s a0_1 a1_1 (sub64c a0_2 a1_2 0), sub64s a0_2 a1_2 0)))))) else (if a1_0 = true then ((bagatelleref01_less.f a0_0 a0_1 a0_2 a1_0 a1_1 a1_2).bind fun t531 => (if t531 = true then (if (sub64s a1_1 a0_1 (sub64c a1_2 a0_2 0)) = 0 then (some (((sub64s a1_2 a0_2 0) != 0), sub64s a1_1 a0_1 (sub64c a1_2 a0_2 0), sub64s a1_2 a0_2 0)) else (some (true, sub64s a1_1 a0_1 (sub64c a1_2 a0_2 0), sub64s a1_2 a0_2 0))) else (some (false, sub64s a0_1 a1_1 (sub64c a0_2 a1_2 0), sub64s a0_2 a1_2 0)))) else (if add64c a0_2 a1_2 0 ≤ 1 then (some (a0_0, add64s a0_1 a1_1 (add64c a0_2 a1_2 0), add64s a0_2 a1_2 0)) else (none)))) = some (r1, r2, r3) := h
  clear h
  by_cases c3 : a0_0 = true
  · subst c3
    have H1 : (if a1_0 = true then (if add64c a0_2 a1_2 0 ≤ 1 then (some (true, add64s a0_1 a1_1 (add64c a0_2 a1_2 0), add64s a0_2 a1_2 0)) else (none)) else ((bagatelleref01_less.f true a0_1 a0_2 a1_0 a1_1 a1_2).bind fun t527 => (if t527 = true then (some (false, sub64s a1_1 a0_1 (sub64c a1_2 a0_2 0), sub64s a1_2 a0_2 0)) else (if (sub64s a0_1 a1_1 (sub64c a0_2 a1_2 0)) = 0 then (some (((sub64s a0_2 a1_2 0) != 0), sub64s a0_1 a1_1 (sub64c a0_2 a1_2 0), sub64s a0_2 a1_2 0)) else (some (true, sub64s a0_1 a1_1 (sub64c a0_2 a1_2 0), sub64s a0_2 a1_2 0)))))) = some (r1, r2, r3) := by rw [if_pos rfl] at H; exact H
    clear H
    have H := H1
    clear H1
    by_cases c4 : a1_0 = true
    · subst c4
      have H1 : (if add64c a0_2 a1_2 0 ≤ 1 then (some (true, add64s a0_1 a1_1 (add64c a0_2 a1_2 0), add64s a0_2 a1_2 0)) else (none)) = some (r1, r2, r3) := by rw [if_pos rfl] at H; exact H
      clear H
      have H := H1
      clear H1
      by_cases c5 : add64c a0_2 a1_2 0 ≤ 1
      · rw [if_pos c5] at H
        have c5b0 := eq_true c5
        have c5b1 : decide (add64c a0_2 a1_2 0 ≤ 1) = true := decide_eq_true c5
        clear c5
        simp only [Option.some.injEq, Prod.mk.injEq] at H
        obtain ⟨rfl, rfl, rfl⟩ := H
        go_enter Try.func84, Try.ntmps84
        go_wp2_with (first | ((with_reducible refine gate_dst (N := 2) rfl ?_); refine box_event ?hg (N := 2) ?hd (cs := #[.bool true, .int .u64 a0_1, .int .u64 a0_2]) (t := 64) ?hr ?_; (case hd => rfl); (case hg => rfl); (case hr => first | (go_simp; done) | (go_simp; rfl)); intro gb521 hg w6 hbox hb; have n0_ := Aside0.mk (below_step (by repeat (first | (with_reducible first | exact HB.out | apply below_alloc | apply pw_below_drewN | apply below_drew1) | exact HB.out)) hb); have n1_ := Aside0.mk (hbox); have n2_ := Aside0.mk ((by rw [hg]; exact (below_size (by repeat (first | (with_reducible first | exact HB.out | apply below_alloc | apply pw_below_drewN | apply below_drew1) | exact HB.out))) : w.heap.size ≤ gb521)); have n3_ := Aside0.mk ((by rw [hg]; exact (below_size (by repeat (first | (with_reducible first | exact HB.out | apply below_alloc | apply pw_below_drewN | apply below_drew1) | exact HB.out))) : w.heap.size ≤ gb521)); clear HB; have HB := n0_; have BK521 := n1_; have GW521 := n2_; have GE521 := n3_; clear n0_ n1_ n2_ n3_; clear hb hbox hg) | ((with_reducible refine gate_dst (N := 3) rfl ?_); refine box_event ?hg (N := 3) ?hd (cs := #[.bool true, .int .u64 a1_1, .int .u64 a1_2]) (t := 64) ?hr ?_; (case hd => rfl); (case hg => rfl); (case hr => first | (go_simp; done) | (go_simp; rfl)); intro gb522 hg w7 hbox hb; have n0_ := Aside0.mk (blk_below (g := gb521) (o := .cells #[.bool true, .int .u64 a0_1, .int .u64 a0_2] 64 (0, 0)) (by (with_reducible repeat (first | refine blk_drewN ?_ _ | refine blk_drew ?_ | refine blk_alloc ?_ _)); exact BK521.out) hb); have n1_ := Aside0.mk (below_step (by repeat (first | (with_reducible first | exact HB.out | apply below_alloc | apply pw_below_drewN | apply below_drew1 | refine below_set ?_ GE521.out) | exact HB.out)) hb); have n2_ := Aside0.mk (hbox); have n3_ := Aside0.mk ((by rw [hg]; exact (below_size (by repeat (first | (with_reducible first | exact HB.out | apply below_alloc | apply pw_below_drewN | apply below_drew1 | refine below_set ?_ GE521.out) | exact HB.out))) : w.heap.size ≤ gb522)); have n4_ := Aside0.mk ((by rw [hg]; exact (below_size (by repeat (first | (with_reducible first | exact HB.out | apply below_alloc | apply pw_below_drewN | apply below_drew1 | refine below_set ?_ GE521.out) | exact HB.out))) : w.heap.size ≤ gb522)); have n5_ := Aside0.mk ((by rw [hg]; exact Nat.ne_of_lt (blk_lt (g := gb521) (o := .cells #[.bool true, .int .u64 a0_1, .int .u64 a0_2] 64 (0, 0)) (by (with_reducible repeat (first | refine blk_drewN ?_ _ | refine blk_drew ?_ | refine blk_alloc ?_ _)); exact BK521.out)) : gb521 ≠ gb522)); have n6_ := Aside0.mk ((by rw [hg]; exact Nat.ne_of_gt (blk_lt (g := gb521) (o := .cells #[.bool true, .int .u64 a0_1, .int .u64 a0_2] 64 (0, 0)) (by (with_reducible repeat (first | refine blk_drewN ?_ _ | refine blk_drew ?_ | refine blk_alloc ?_ _)); exact BK521.out)) : gb522 ≠ gb521)); clear BK521; clear HB; have BK521 := n0_; have HB := n1_; have BK522 := n2_; have GW522 := n3_; have GE522 := n4_; have NB521_522 := n5_; have NB522_521 := n6_; clear n0_ n1_ n2_ n3_ n4_ n5_ n6_; clear hb hbox hg) | ((with_reducible refine gate_dst (N := 4) rfl ?_); refine box_event ?hg (N := 4) ?hd (cs := #[.bool false, .int .u64 0, .int .u64 0]) (t := 64) ?hr ?_; (case hd => rfl); (case hg => rfl); (case hr => first | (go_simp; done) | (go_simp; rfl)); intro gb523 hg w8 hbox hb; have n0_ := Aside0.mk (blk_below (g := gb521) (o := .cells #[.bool true, .int .u64 a0_1, .int .u64 a0_2] 64 (0, 0)) (by (with_reducible repeat (first | refine blk_drewN ?_ _ | refine blk_drew ?_ | refine blk_alloc ?_ _)); exact BK521.out) hb); have n1_ := Aside0.mk (blk_below (g := gb522) (o := .cells #[.bool true, .int .u64 a1_1, .int .u64 a1_2] 64 (0, 0)) (by (with_reducible repeat (first | refine blk_drewN ?_ _ | refine blk_drew ?_ | refine blk_alloc ?_ _)); exact BK522.out) hb); have n2_ := Aside0.mk (below_step (by repeat (first | (with_reducible first | exact HB.out | apply below_alloc | apply pw_below_drewN | apply below_drew1 | refine below_set ?_ GE521.out | refine below_set ?_ GE522.out) | exact HB.out)) hb); have n3_ := Aside0.mk (hbox); have n4_ := Aside0.mk ((by rw [hg]; exact (below_size (by repeat (first | (with_reducible first | exact HB.out | apply below_alloc | apply pw_below_drewN | apply below_drew1 | refine below_set ?_ GE521.out | refine below_set ?_ GE522.out) | exact HB.out))) : w.heap.size ≤ gb523)); have n5_ := Aside0.mk ((by rw [hg]; exact (below_size (by repeat (first | (with_reducible first | exact HB.out | apply below_alloc | apply pw_below_drewN | apply below_drew1 | refine below_set ?_ GE521.out | refine below_set ?_ GE522.out) | exact HB.out))) : w.heap.size ≤ gb523)); have n6_ := Aside0.mk ((by rw [hg]; exact Nat.ne_of_lt (blk_lt (g := gb521) (o := .cells #[.bool true, .int .u64 a0_1, .int .u64 a0_2] 64 (0, 0)) (by (with_reducible repeat (first | refine blk_drewN ?_ _ | refine blk_drew ?_ | refine blk_alloc ?_ _)); exact BK521.out)) : gb521 ≠ gb523)); have n7_ := Aside0.mk ((by rw [hg]; exact Nat.ne_of_gt (blk_lt (g := gb521) (o := .cells #[.bool true, .int .u64 a0_1, .int .u64 a0_2] 64 (0, 0)) (by (with_reducible repeat (first | refine blk_drewN ?_ _ | refine blk_drew ?_ | refine blk_alloc ?_ _)); exact BK521.out)) : gb523 ≠ gb521)); have n8_ := Aside0.mk ((by rw [hg]; exact Nat.ne_of_lt (blk_lt (g := gb522) (o := .cells #[.bool true, .int .u64 a1_1, .int .u64 a1_2] 64 (0, 0)) (by (with_reducible repeat (first | refine blk_drewN ?_ _ | refine blk_drew ?_ | refine blk_alloc ?_ _)); exact BK522.out)) : gb522 ≠ gb523)); have n9_ := Aside0.mk ((by rw [hg]; exact Nat.ne_of_gt (blk_lt (g := gb522) (o := .cells #[.bool true, .int .u64 a1_1, .int .u64 a1_2] 64 (0, 0)) (by (with_reducible repeat (first | refine blk_drewN ?_ _ | refine blk_drew ?_ | refine blk_alloc ?_ _)); exact BK522.out)) : gb523 ≠ gb522)); clear BK521; clear BK522; clear HB; have BK521 := n0_; have BK522 := n1_; have HB := n2_; have BK523 := n3_; have GW523 := n4_; have GE523 := n5_; have NB521_523 := n6_; have NB523_521 := n7_; have NB522_523 := n8_; have NB523_522 := n9_; clear n0_ n1_ n2_ n3_ n4_ n5_ n6_ n7_ n8_ n9_; clear hb hbox hg; have hnb9 := NB521_522.out; have hnc9 := NB522_521.out; have hnb10 := NB521_523.out; have hnc10 := NB523_521.out; have hcz11_0 : w8.cell? ⟨gb521, 0, none⟩ = some (.bool true) := (blk_cell BK521.out 0).trans rfl; have hcz11_1 : w8.cell? ⟨gb521, 1, none⟩ = some (.int .u64 a0_1) := (blk_cell BK521.out 1).trans rfl; have hcz11_2 : w8.cell? ⟨gb521, 2, none⟩ = some (.int .u64 a0_2) := (blk_cell BK521.out 2).trans rfl; have hfz11_0 := blk_frozen BK521.out 0; have hfz11_1 := blk_frozen BK521.out 1; have hfz11_2 := blk_frozen BK521.out 2; have hnb12 := NB522_523.out; have hnc12 := NB523_522.out; have hcz13_0 : w8.cell? ⟨gb522, 0, none⟩ = some (.bool true) := (blk_cell BK522.out 0).trans rfl; have hcz13_1 : w8.cell? ⟨gb522, 1, none⟩ = some (.int .u64 a1_1) := (blk_cell BK522.out 1).trans rfl; have hcz13_2 : w8.cell? ⟨gb522, 2, none⟩ = some (.int .u64 a1_2) := (blk_cell BK522.out 2).trans rfl; have hfz13_0 := blk_frozen BK522.out 0; have hfz13_1 := blk_frozen BK522.out 1; have hfz13_2 := blk_frozen BK522.out 2; have hcz14_0 : w8.cell? ⟨gb523, 0, none⟩ = some (.bool false) := (blk_cell BK523.out 0).trans rfl; have hcz14_1 : w8.cell? ⟨gb523, 1, none⟩ = some (.int .u64 0) := (blk_cell BK523.out 1).trans rfl; have hcz14_2 : w8.cell? ⟨gb523, 2, none⟩ = some (.int .u64 0) := (blk_cell BK523.out 2).trans rfl; have hfz14_0 := blk_frozen BK523.out 0; have hfz14_1 := blk_frozen BK523.out 1; have hfz14_2 := blk_frozen BK523.out 2))
        refine bodyPost_ret (results_cell_row rfl _ _ gb523 64 #[.bool true, .int .u64 (add64s a0_1 a1_1 (add64c a0_2 a1_2 0)), .int .u64 (add64s a0_2 a1_2 0)] (0, 0) _ rfl (by (with_reducible repeat (first | refine blk_drewN ?_ _ | refine blk_drew ?_ | refine blk_alloc ?_ _)); refine blk_put (cs := #[.bool true, .int .u64 (add64s a0_1 a1_1 (add64c a0_2 a1_2 0)), .int .u64 0]) ?_ 2 _ rfl; (with_reducible repeat (first | refine blk_drewN ?_ _ | refine blk_drew ?_ | refine blk_alloc ?_ _)); refine blk_put (cs := #[.bool true, .int .u64 0, .int .u64 0]) ?_ 1 _ rfl; (with_reducible repeat (first | refine blk_drewN ?_ _ | refine blk_drew ?_ | refine blk_alloc ?_ _)); refine blk_put (cs := #[.bool false, .int .u64 0, .int .u64 0]) ?_ 0 _ rfl; (with_reducible repeat (first | refine blk_drewN ?_ _ | refine blk_drew ?_ | refine blk_alloc ?_ _)); exact BK523.out) Try.underlying64 rfl (by kernel_rfl)) rfl ?_
        exact ⟨by first | rfl | (simp [errW_none, errW_some] <;> rfl) | (simp [*, errW_none, errW_some] <;> rfl), by repeat (first | (with_reducible first | exact HB.out | apply below_alloc | apply pw_below_drewN | apply below_drew1 | refine below_set ?_ GE521.out | refine below_set ?_ GE522.out | refine below_set ?_ GE523.out) | exact HB.out)⟩
      · rw [if_neg c5] at H
        exact absurd H (by simp)
    · replace c4 := Bool.eq_false_iff.mpr c4
      subst c4
      have H1 : ((bagatelleref01_less.f true a0_1 a0_2 false a1_1 a1_2).bind fun t527 => (if t527 = true then (some (false, sub64s a1_1 a0_1 (sub64c a1_2 a0_2 0), sub64s a1_2 a0_2 0)) else (if (sub64s a0_1 a1_1 (sub64c a0_2 a1_2 0)) = 0 then (some (((sub64s a0_2 a1_2 0) != 0), sub64s a0_1 a1_1 (sub64c a0_2 a1_2 0), sub64s a0_2 a1_2 0)) else (some (true, sub64s a0_1 a1_1 (sub64c a0_2 a1_2 0), sub64s a0_2 a1_2 0))))) = some (r1, r2, r3) := by rw [if_neg (show ¬ (false = true) by decide)] at H; exact H
      clear H
      have H := H1
      clear H1
      replace H := Option.bind_eq_some_iff.mp H
      obtain ⟨t527, A150, H⟩ := H
      replace H : (if t527 = true then (some (false, sub64s a1_1 a0_1 (sub64c a1_2 a0_2 0), sub64s a1_2 a0_2 0)) else (if (sub64s a0_1 a1_1 (sub64c a0_2 a1_2 0)) = 0 then (some (((sub64s a0_2 a1_2 0) != 0), sub64s a0_1 a1_1 (sub64c a0_2 a1_2 0), sub64s a0_2 a1_2 0)) else (some (true, sub64s a0_1 a1_1 (sub64c a0_2 a1_2 0), sub64s a0_2 a1_2 0)))) = some (r1, r2, r3) := H
      have A15 := Aside0.mk A150
      clear A150
      by_cases c16 : t527 = true
      · subst c16
        have H1 : (some (false, sub64s a1_1 a0_1 (sub64c a1_2 a0_2 0), sub64s a1_2 a0_2 0)) = some (r1, r2, r3) := by rw [if_pos rfl] at H; exact H
        clear H
        have H := H1
        clear H1
        simp only [Option.some.injEq, Prod.mk.injEq] at H
        obtain ⟨rfl, rfl, rfl⟩ := H
        go_enter Try.func84, Try.ntmps84
        go_wp2_with (first | ((with_reducible refine gate_dst (N := 2) rfl ?_); refine box_event ?hg (N := 2) ?hd (cs := #[.bool true, .int .u64 a0_1, .int .u64 a0_2]) (t := 64) ?hr ?_; (case hd => rfl); (case hg => rfl); (case hr => first | (go_simp; done) | (go_simp; rfl)); intro gb524 hg w17 hbox hb; have n0_ := Aside0.mk (below_step (by repeat (first | (with_reducible first | exact HB.out | apply below_alloc | apply pw_below_drewN | apply below_drew1) | exact HB.out)) hb); have n1_ := Aside0.mk (hbox); have n2_ := Aside0.mk ((by rw [hg]; exact (below_size (by repeat (first | (with_reducible first | exact HB.out | apply below_alloc | apply pw_below_drewN | apply below_drew1) | exact HB.out))) : w.heap.size ≤ gb524)); have n3_ := Aside0.mk ((by rw [hg]; exact (below_size (by repeat (first | (with_reducible first | exact HB.out | apply below_alloc | apply pw_below_drewN | apply below_drew1) | exact HB.out))) : w.heap.size ≤ gb524)); clear HB; have HB := n0_; have BK524 := n1_; have GW524 := n2_; have GE524 := n3_; clear n0_ n1_ n2_ n3_; clear hb hbox hg) | ((with_reducible refine gate_dst (N := 3) rfl ?_); refine box_event ?hg (N := 3) ?hd (cs := #[.bool false, .int .u64 a1_1, .int .u64 a1_2]) (t := 64) ?hr ?_; (case hd => rfl); (case hg => rfl); (case hr => first | (go_simp; done) | (go_simp; rfl)); intro gb525 hg w18 hbox hb; have n0_ := Aside0.mk (blk_below (g := gb524) (o := .cells #[.bool true, .int .u64 a0_1, .int .u64 a0_2] 64 (0, 0)) (by (with_reducible repeat (first | refine blk_drewN ?_ _ | refine blk_drew ?_ | refine blk_alloc ?_ _)); exact BK524.out) hb); have n1_ := Aside0.mk (below_step (by repeat (first | (with_reducible first | exact HB.out | apply below_alloc | apply pw_below_drewN | apply below_drew1 | refine below_set ?_ GE524.out) | exact HB.out)) hb); have n2_ := Aside0.mk (hbox); have n3_ := Aside0.mk ((by rw [hg]; exact (below_size (by repeat (first | (with_reducible first | exact HB.out | apply below_alloc | apply pw_below_drewN | apply below_drew1 | refine below_set ?_ GE524.out) | exact HB.out))) : w.heap.size ≤ gb525)); have n4_ := Aside0.mk ((by rw [hg]; exact (below_size (by repeat (first | (with_reducible first | exact HB.out | apply below_alloc | apply pw_below_drewN | apply below_drew1 | refine below_set ?_ GE524.out) | exact HB.out))) : w.heap.size ≤ gb525)); have n5_ := Aside0.mk ((by rw [hg]; exact Nat.ne_of_lt (blk_lt (g := gb524) (o := .cells #[.bool true, .int .u64 a0_1, .int .u64 a0_2] 64 (0, 0)) (by (with_reducible repeat (first | refine blk_drewN ?_ _ | refine blk_drew ?_ | refine blk_alloc ?_ _)); exact BK524.out)) : gb524 ≠ gb525)); have n6_ := Aside0.mk ((by rw [hg]; exact Nat.ne_of_gt (blk_lt (g := gb524) (o := .cells #[.bool true, .int .u64 a0_1, .int .u64 a0_2] 64 (0, 0)) (by (with_reducible repeat (first | refine blk_drewN ?_ _ | refine blk_drew ?_ | refine blk_alloc ?_ _)); exact BK524.out)) : gb525 ≠ gb524)); clear BK524; clear HB; have BK524 := n0_; have HB := n1_; have BK525 := n2_; have GW525 := n3_; have GE525 := n4_; have NB524_525 := n5_; have NB525_524 := n6_; clear n0_ n1_ n2_ n3_ n4_ n5_ n6_; clear hb hbox hg) | ((with_reducible refine gate_dst (N := 4) rfl ?_); refine box_event ?hg (N := 4) ?hd (cs := #[.bool false, .int .u64 0, .int .u64 0]) (t := 64) ?hr ?_; (case hd => rfl); (case hg => rfl); (case hr => first | (go_simp; done) | (go_simp; rfl)); intro gb526 hg w19 hbox hb; have n0_ := Aside0.mk (blk_below (g := gb524) (o := .cells #[.bool true, .int .u64 a0_1, .int .u64 a0_2] 64 (0, 0)) (by (with_reducible repeat (first | refine blk_drewN ?_ _ | refine blk_drew ?_ | refine blk_alloc ?_ _)); exact BK524.out) hb); have n1_ := Aside0.mk (blk_below (g := gb525) (o := .cells #[.bool false, .int .u64 a1_1, .int .u64 a1_2] 64 (0, 0)) (by (with_reducible repeat (first | refine blk_drewN ?_ _ | refine blk_drew ?_ | refine blk_alloc ?_ _)); exact BK525.out) hb); have n2_ := Aside0.mk (below_step (by repeat (first | (with_reducible first | exact HB.out | apply below_alloc | apply pw_below_drewN | apply below_drew1 | refine below_set ?_ GE524.out | refine below_set ?_ GE525.out) | exact HB.out)) hb); have n3_ := Aside0.mk (hbox); have n4_ := Aside0.mk ((by rw [hg]; exact (below_size (by repeat (first | (with_reducible first | exact HB.out | apply below_alloc | apply pw_below_drewN | apply below_drew1 | refine below_set ?_ GE524.out | refine below_set ?_ GE525.out) | exact HB.out))) : w.heap.size ≤ gb526)); have n5_ := Aside0.mk ((by rw [hg]; exact (below_size (by repeat (first | (with_reducible first | exact HB.out | apply below_alloc | apply pw_below_drewN | apply below_drew1 | refine below_set ?_ GE524.out | refine below_set ?_ GE525.out) | exact HB.out))) : w.heap.size ≤ gb526)); have n6_ := Aside0.mk ((by rw [hg]; exact Nat.ne_of_lt (blk_lt (g := gb524) (o := .cells #[.bool true, .int .u64 a0_1, .int .u64 a0_2] 64 (0, 0)) (by (with_reducible repeat (first | refine blk_drewN ?_ _ | refine blk_drew ?_ | refine blk_alloc ?_ _)); exact BK524.out)) : gb524 ≠ gb526)); have n7_ := Aside0.mk ((by rw [hg]; exact Nat.ne_of_gt (blk_lt (g := gb524) (o := .cells #[.bool true, .int .u64 a0_1, .int .u64 a0_2] 64 (0, 0)) (by (with_reducible repeat (first | refine blk_drewN ?_ _ | refine blk_drew ?_ | refine blk_alloc ?_ _)); exact BK524.out)) : gb526 ≠ gb524)); have n8_ := Aside0.mk ((by rw [hg]; exact Nat.ne_of_lt (blk_lt (g := gb525) (o := .cells #[.bool false, .int .u64 a1_1, .int .u64 a1_2] 64 (0, 0)) (by (with_reducible repeat (first | refine blk_drewN ?_ _ | refine blk_drew ?_ | refine blk_alloc ?_ _)); exact BK525.out)) : gb525 ≠ gb526)); have n9_ := Aside0.mk ((by rw [hg]; exact Nat.ne_of_gt (blk_lt (g := gb525) (o := .cells #[.bool false, .int .u64 a1_1, .int .u64 a1_2] 64 (0, 0)) (by (with_reducible repeat (first | refine blk_drewN ?_ _ | refine blk_drew ?_ | refine blk_alloc ?_ _)); exact BK525.out)) : gb526 ≠ gb525)); clear BK524; clear BK525; clear HB; have BK524 := n0_; have BK525 := n1_; have HB := n2_; have BK526 := n3_; have GW526 := n4_; have GE526 := n5_; have NB524_526 := n6_; have NB526_524 := n7_; have NB525_526 := n8_; have NB526_525 := n9_; clear n0_ n1_ n2_ n3_ n4_ n5_ n6_ n7_ n8_ n9_; clear hb hbox hg; have hnb20 := NB524_525.out; have hnc20 := NB525_524.out; have hnb21 := NB524_526.out; have hnc21 := NB526_524.out; have hcz22_0 : w19.cell? ⟨gb524, 0, none⟩ = some (.bool true) := (blk_cell BK524.out 0).trans rfl; have hcz22_1 : w19.cell? ⟨gb524, 1, none⟩ = some (.int .u64 a0_1) := (blk_cell BK524.out 1).trans rfl; have hcz22_2 : w19.cell? ⟨gb524, 2, none⟩ = some (.int .u64 a0_2) := (blk_cell BK524.out 2).trans rfl; have hfz22_0 := blk_frozen BK524.out 0; have hfz22_1 := blk_frozen BK524.out 1; have hfz22_2 := blk_frozen BK524.out 2; have hnb23 := NB525_526.out; have hnc23 := NB526_525.out; have hcz24_0 : w19.cell? ⟨gb525, 0, none⟩ = some (.bool false) := (blk_cell BK525.out 0).trans rfl; have hcz24_1 : w19.cell? ⟨gb525, 1, none⟩ = some (.int .u64 a1_1) := (blk_cell BK525.out 1).trans rfl; have hcz24_2 : w19.cell? ⟨gb525, 2, none⟩ = some (.int .u64 a1_2) := (blk_cell BK525.out 2).trans rfl; have hfz24_0 := blk_frozen BK525.out 0; have hfz24_1 := blk_frozen BK525.out 1; have hfz24_2 := blk_frozen BK525.out 2) | ((with_reducible refine gate_callee (f := 77) rfl ?_); refine goesL_ (some 42) rfl rfl Try.func77 (by kernel_rfl) rfl #[.agg #[.bool true, .int .u64 a0_1, .int .u64 a0_2], .agg #[.bool false, .int .u64 a1_1, .int .u64 a1_2]] rfl (by (try simp only [List.map_toArray, List.map_cons, List.map_nil]); first | done | rfl | (simp only [List.length_drop, List.length_take]; rfl)) ?_; (with_reducible refine (bagatelleref01_less.calls true a0_1 a0_2 false a1_1 a1_2 true _ A15.out).mono ?_); rintro e w25 ⟨rfl, hb⟩; refine ⟨_, rfl, ?_⟩; have n0_ := Aside0.mk (blk_below (g := gb524) (o := .cells #[.bool true, .int .u64 a0_1, .int .u64 a0_2] 64 (0, 0)) (by (with_reducible repeat (first | refine blk_drewN ?_ _ | refine blk_drew ?_ | refine blk_alloc ?_ _)); exact BK524.out) hb); have n1_ := Aside0.mk (blk_below (g := gb525) (o := .cells #[.bool false, .int .u64 a1_1, .int .u64 a1_2] 64 (0, 0)) (by (with_reducible repeat (first | refine blk_drewN ?_ _ | refine blk_drew ?_ | refine blk_alloc ?_ _)); exact BK525.out) hb); have n2_ := Aside0.mk (blk_below (g := gb526) (o := .cells #[.bool false, .int .u64 0, .int .u64 0] 64 (0, 0)) (by (with_reducible repeat (first | refine blk_drewN ?_ _ | refine blk_drew ?_ | refine blk_alloc ?_ _)); exact BK526.out) hb); have n3_ := Aside0.mk (below_step (by repeat (first | (with_reducible first | exact HB.out | apply below_alloc | apply pw_below_drewN | apply below_drew1 | refine below_set ?_ GE524.out | refine below_set ?_ GE525.out | refine below_set ?_ GE526.out) | exact HB.out)) hb); clear BK524; clear BK525; clear BK526; clear HB; have BK524 := n0_; have BK525 := n1_; have BK526 := n2_; have HB := n3_; clear n0_ n1_ n2_ n3_; (try clear hb); (try clear hb2); (try clear hk); (try clear hi); have hcz26_0 : w25.cell? ⟨gb525, 0, none⟩ = some (.bool false) := (blk_cell BK525.out 0).trans rfl; have hcz26_1 : w25.cell? ⟨gb525, 1, none⟩ = some (.int .u64 a1_1) := (blk_cell BK525.out 1).trans rfl; have hcz26_2 : w25.cell? ⟨gb525, 2, none⟩ = some (.int .u64 a1_2) := (blk_cell BK525.out 2).trans rfl; have hfz26_0 := blk_frozen BK525.out 0; have hfz26_1 := blk_frozen BK525.out 1; have hfz26_2 := blk_frozen BK525.out 2; have hcz27_0 : w25.cell? ⟨gb524, 0, none⟩ = some (.bool true) := (blk_cell BK524.out 0).trans rfl; have hcz27_1 : w25.cell? ⟨gb524, 1, none⟩ = some (.int .u64 a0_1) := (blk_cell BK524.out 1).trans rfl; have hcz27_2 : w25.cell? ⟨gb524, 2, none⟩ = some (.int .u64 a0_2) := (blk_cell BK524.out 2).trans rfl; have hfz27_0 := blk_frozen BK524.out 0; have hfz27_1 := blk_frozen BK524.out 1; have hfz27_2 := blk_frozen BK524.out 2; have hcz28_0 : w25.cell? ⟨gb526, 0, none⟩ = some (.bool false) := (blk_cell BK526.out 0).trans rfl; have hcz28_1 : w25.cell? ⟨gb526, 1, none⟩ = some (.int .u64 0) := (blk_cell BK526.out 1).trans rfl; have hcz28_2 : w25.cell? ⟨gb526, 2, none⟩ = some (.int .u64 0) := (blk_cell BK526.out 2).trans rfl; have hfz28_0 := blk_frozen BK526.out 0; have hfz28_1 := blk_frozen BK526.out 1; have hfz28_2 := blk_frozen BK526.out 2))
        refine bodyPost_ret (results_cell_row rfl _ _ gb526 64 #[.bool false, .int .u64 (sub64s a1_1 a0_1 (sub64c a1_2 a0_2 0)), .int .u64 (sub64s a1_2 a0_2 0)] (0, 0) _ rfl (by (with_reducible repeat (first | refine blk_drewN ?_ _ | refine blk_drew ?_ | refine blk_alloc ?_ _)); refine blk_put (cs := #[.bool false, .int .u64 (sub64s a1_1 a0_1 (sub64c a1_2 a0_2 0)), .int .u64 0]) ?_ 2 _ rfl; (with_reducible repeat (first | refine blk_drewN ?_ _ | refine blk_drew ?_ | refine blk_alloc ?_ _)); refine blk_put (cs := #[.bool false, .int .u64 0, .int .u64 0]) ?_ 1 _ rfl; (with_reducible repeat (first | refine blk_drewN ?_ _ | refine blk_drew ?_ | refine blk_alloc ?_ _)); refine blk_put (cs := #[.bool false, .int .u64 0, .int .u64 0]) ?_ 0 _ rfl; (with_reducible repeat (first | refine blk_drewN ?_ _ | refine blk_drew ?_ | refine blk_alloc ?_ _)); refine blk_far ?_ NB526_525.out _; (with_reducible repeat (first | refine blk_drewN ?_ _ | refine blk_drew ?_ | refine blk_alloc ?_ _)); refine blk_far ?_ NB526_525.out _; (with_reducible repeat (first | refine blk_drewN ?_ _ | refine blk_drew ?_ | refine blk_alloc ?_ _)); refine blk_far ?_ NB526_525.out _; (with_reducible repeat (first | refine blk_drewN ?_ _ | refine blk_drew ?_ | refine blk_alloc ?_ _)); refine blk_far ?_ NB526_524.out _; (with_reducible repeat (first | refine blk_drewN ?_ _ | refine blk_drew ?_ | refine blk_alloc ?_ _)); refine blk_far ?_ NB526_524.out _; (with_reducible repeat (first | refine blk_drewN ?_ _ | refine blk_drew ?_ | refine blk_alloc ?_ _)); refine blk_far ?_ NB526_524.out _; (with_reducible repeat (first | refine blk_drewN ?_ _ | refine blk_drew ?_ | refine blk_alloc ?_ _)); exact BK526.out) Try.underlying64 rfl (by kernel_rfl)) rfl ?_
        exact ⟨by first | rfl | (simp [errW_none, errW_some] <;> rfl) | (simp [*, errW_none, errW_some] <;> rfl), by repeat (first | (with_reducible first | exact HB.out | apply below_alloc | apply pw_below_drewN | apply below_drew1 | refine below_set ?_ GE524.out | refine below_set ?_ GE525.out | refine below_set ?_ GE526.out) | exact HB.out)⟩
      · replace c16 := Bool.eq_false_iff.mpr c16
        subst c16
        have H1 : (if (sub64s a0_1 a1_1 (sub64c a0_2 a1_2 0)) = 0 then (some (((sub64s a0_2 a1_2 0) != 0), sub64s a0_1 a1_1 (sub64c a0_2 a1_2 0), sub64s a0_2 a1_2 0)) else (some (true, sub64s a0_1 a1_1 (sub64c a0_2 a1_2 0), sub64s a0_2 a1_2 0))) = some (r1, r2, r3) := by rw [if_neg (show ¬ (false = true) by decide)] at H; exact H
        clear H
        have H := H1
        clear H1
        by_cases c29 : (sub64s a0_1 a1_1 (sub64c a0_2 a1_2 0)) = 0
        · rw [if_pos c29] at H
          have c29b0 : ((sub64s a0_1 a1_1 (sub64c a0_2 a1_2 0)) == 0) = true := beq_iff_eq.mpr c29
          have c29b1 : ((sub64s a0_1 a1_1 (sub64c a0_2 a1_2 0)) != 0) = false := bne_eq_false_iff_eq.mpr c29
          clear c29
          simp only [Option.some.injEq, Prod.mk.injEq] at H
          obtain ⟨rfl, rfl, rfl⟩ := H
          go_enter Try.func84, Try.ntmps84
          go_wp2_with (first | ((with_reducible refine gate_dst (N := 2) rfl ?_); refine box_event ?hg (N := 2) ?hd (cs := #[.bool true, .int .u64 a0_1, .int .u64 a0_2]) (t := 64) ?hr ?_; (case hd => rfl); (case hg => rfl); (case hr => first | (go_simp; done) | (go_simp; rfl)); intro gb524 hg w30 hbox hb; have n0_ := Aside0.mk (below_step (by repeat (first | (with_reducible first | exact HB.out | apply below_alloc | apply pw_below_drewN | apply below_drew1) | exact HB.out)) hb); have n1_ := Aside0.mk (hbox); have n2_ := Aside0.mk ((by rw [hg]; exact (below_size (by repeat (first | (with_reducible first | exact HB.out | apply below_alloc | apply pw_below_drewN | apply below_drew1) | exact HB.out))) : w.heap.size ≤ gb524)); have n3_ := Aside0.mk ((by rw [hg]; exact (below_size (by repeat (first | (with_reducible first | exact HB.out | apply below_alloc | apply pw_below_drewN | apply below_drew1) | exact HB.out))) : w.heap.size ≤ gb524)); clear HB; have HB := n0_; have BK524 := n1_; have GW524 := n2_; have GE524 := n3_; clear n0_ n1_ n2_ n3_; clear hb hbox hg) | ((with_reducible refine gate_dst (N := 3) rfl ?_); refine box_event ?hg (N := 3) ?hd (cs := #[.bool false, .int .u64 a1_1, .int .u64 a1_2]) (t := 64) ?hr ?_; (case hd => rfl); (case hg => rfl); (case hr => first | (go_simp; done) | (go_simp; rfl)); intro gb525 hg w31 hbox hb; have n0_ := Aside0.mk (blk_below (g := gb524) (o := .cells #[.bool true, .int .u64 a0_1, .int .u64 a0_2] 64 (0, 0)) (by (with_reducible repeat (first | refine blk_drewN ?_ _ | refine blk_drew ?_ | refine blk_alloc ?_ _)); exact BK524.out) hb); have n1_ := Aside0.mk (below_step (by repeat (first | (with_reducible first | exact HB.out | apply below_alloc | apply pw_below_drewN | apply below_drew1 | refine below_set ?_ GE524.out) | exact HB.out)) hb); have n2_ := Aside0.mk (hbox); have n3_ := Aside0.mk ((by rw [hg]; exact (below_size (by repeat (first | (with_reducible first | exact HB.out | apply below_alloc | apply pw_below_drewN | apply below_drew1 | refine below_set ?_ GE524.out) | exact HB.out))) : w.heap.size ≤ gb525)); have n4_ := Aside0.mk ((by rw [hg]; exact (below_size (by repeat (first | (with_reducible first | exact HB.out | apply below_alloc | apply pw_below_drewN | apply below_drew1 | refine below_set ?_ GE524.out) | exact HB.out))) : w.heap.size ≤ gb525)); have n5_ := Aside0.mk ((by rw [hg]; exact Nat.ne_of_lt (blk_lt (g := gb524) (o := .cells #[.bool true, .int .u64 a0_1, .int .u64 a0_2] 64 (0, 0)) (by (with_reducible repeat (first | refine blk_drewN ?_ _ | refine blk_drew ?_ | refine blk_alloc ?_ _)); exact BK524.out)) : gb524 ≠ gb525)); have n6_ := Aside0.mk ((by rw [hg]; exact Nat.ne_of_gt (blk_lt (g := gb524) (o := .cells #[.bool true, .int .u64 a0_1, .int .u64 a0_2] 64 (0, 0)) (by (with_reducible repeat (first | refine blk_drewN ?_ _ | refine blk_drew ?_ | refine blk_alloc ?_ _)); exact BK524.out)) : gb525 ≠ gb524)); clear BK524; clear HB; have BK524 := n0_; have HB := n1_; have BK525 := n2_; have GW525 := n3_; have GE525 := n4_; have NB524_525 := n5_; have NB525_524 := n6_; clear n0_ n1_ n2_ n3_ n4_ n5_ n6_; clear hb hbox hg) | ((with_reducible refine gate_dst (N := 4) rfl ?_); refine box_event ?hg (N := 4) ?hd (cs := #[.bool false, .int .u64 0, .int .u64 0]) (t := 64) ?hr ?_; (case hd => rfl); (case hg => rfl); (case hr => first | (go_simp; done) | (go_simp; rfl)); intro gb526 hg w32 hbox hb; have n0_ := Aside0.mk (blk_below (g := gb524) (o := .cells #[.bool true, .int .u64 a0_1, .int .u64 a0_2] 64 (0, 0)) (by (with_reducible repeat (first | refine blk_drewN ?_ _ | refine blk_drew ?_ | refine blk_alloc ?_ _)); exact BK524.out) hb); have n1_ := Aside0.mk (blk_below (g := gb525) (o := .cells #[.bool false, .int .u64 a1_1, .int .u64 a1_2] 64 (0, 0)) (by (with_reducible repeat (first | refine blk_drewN ?_ _ | refine blk_drew ?_ | refine blk_alloc ?_ _)); exact BK525.out) hb); have n2_ := Aside0.mk (below_step (by repeat (first | (with_reducible first | exact HB.out | apply below_alloc | apply pw_below_drewN | apply below_drew1 | refine below_set ?_ GE524.out | refine below_set ?_ GE525.out) | exact HB.out)) hb); have n3_ := Aside0.mk (hbox); have n4_ := Aside0.mk ((by rw [hg]; exact (below_size (by repeat (first | (with_reducible first | exact HB.out | apply below_alloc | apply pw_below_drewN | apply below_drew1 | refine below_set ?_ GE524.out | refine below_set ?_ GE525.out) | exact HB.out))) : w.heap.size ≤ gb526)); have n5_ := Aside0.mk ((by rw [hg]; exact (below_size (by repeat (first | (with_reducible first | exact HB.out | apply below_alloc | apply pw_below_drewN | apply below_drew1 | refine below_set ?_ GE524.out | refine below_set ?_ GE525.out) | exact HB.out))) : w.heap.size ≤ gb526)); have n6_ := Aside0.mk ((by rw [hg]; exact Nat.ne_of_lt (blk_lt (g := gb524) (o := .cells #[.bool true, .int .u64 a0_1, .int .u64 a0_2] 64 (0, 0)) (by (with_reducible repeat (first | refine blk_drewN ?_ _ | refine blk_drew ?_ | refine blk_alloc ?_ _)); exact BK524.out)) : gb524 ≠ gb526)); have n7_ := Aside0.mk ((by rw [hg]; exact Nat.ne_of_gt (blk_lt (g := gb524) (o := .cells #[.bool true, .int .u64 a0_1, .int .u64 a0_2] 64 (0, 0)) (by (with_reducible repeat (first | refine blk_drewN ?_ _ | refine blk_drew ?_ | refine blk_alloc ?_ _)); exact BK524.out)) : gb526 ≠ gb524)); have n8_ := Aside0.mk ((by rw [hg]; exact Nat.ne_of_lt (blk_lt (g := gb525) (o := .cells #[.bool false, .int .u64 a1_1, .int .u64 a1_2] 64 (0, 0)) (by (with_reducible repeat (first | refine blk_drewN ?_ _ | refine blk_drew ?_ | refine blk_alloc ?_ _)); exact BK525.out)) : gb525 ≠ gb526)); have n9_ := Aside0.mk ((by rw [hg]; exact Nat.ne_of_gt (blk_lt (g := gb525) (o := .cells #[.bool false, .int .u64 a1_1, .int .u64 a1_2] 64 (0, 0)) (by (with_reducible repeat (first | refine blk_drewN ?_ _ | refine blk_drew ?_ | refine blk_alloc ?_ _)); exact BK525.out)) : gb526 ≠ gb525)); clear BK524; clear BK525; clear HB; have BK524 := n0_; have BK525 := n1_; have HB := n2_; have BK526 := n3_; have GW526 := n4_; have GE526 := n5_; have NB524_526 := n6_; have NB526_524 := n7_; have NB525_526 := n8_; have NB526_525 := n9_; clear n0_ n1_ n2_ n3_ n4_ n5_ n6_ n7_ n8_ n9_; clear hb hbox hg; have hnb33 := NB524_525.out; have hnc33 := NB525_524.out; have hnb34 := NB524_526.out; have hnc34 := NB526_524.out; have hcz35_0 : w32.cell? ⟨gb524, 0, none⟩ = some (.bool true) := (blk_cell BK524.out 0).trans rfl; have hcz35_1 : w32.cell? ⟨gb524, 1, none⟩ = some (.int .u64 a0_1) := (blk_cell BK524.out 1).trans rfl; have hcz35_2 : w32.cell? ⟨gb524, 2, none⟩ = some (.int .u64 a0_2) := (blk_cell BK524.out 2).trans rfl; have hfz35_0 := blk_frozen BK524.out 0; have hfz35_1 := blk_frozen BK524.out 1; have hfz35_2 := blk_frozen BK524.out 2; have hnb36 := NB525_526.out; have hnc36 := NB526_525.out; have hcz37_0 : w32.cell? ⟨gb525, 0, none⟩ = some (.bool false) := (blk_cell BK525.out 0).trans rfl; have hcz37_1 : w32.cell? ⟨gb525, 1, none⟩ = some (.int .u64 a1_1) := (blk_cell BK525.out 1).trans rfl; have hcz37_2 : w32.cell? ⟨gb525, 2, none⟩ = some (.int .u64 a1_2) := (blk_cell BK525.out 2).trans rfl; have hfz37_0 := blk_frozen BK525.out 0; have hfz37_1 := blk_frozen BK525.out 1; have hfz37_2 := blk_frozen BK525.out 2) | ((with_reducible refine gate_callee (f := 77) rfl ?_); refine goesL_ (some 42) rfl rfl Try.func77 (by kernel_rfl) rfl #[.agg #[.bool true, .int .u64 a0_1, .int .u64 a0_2], .agg #[.bool false, .int .u64 a1_1, .int .u64 a1_2]] rfl (by (try simp only [List.map_toArray, List.map_cons, List.map_nil]); first | done | rfl | (simp only [List.length_drop, List.length_take]; rfl)) ?_; (with_reducible refine (bagatelleref01_less.calls true a0_1 a0_2 false a1_1 a1_2 false _ A15.out).mono ?_); rintro e w38 ⟨rfl, hb⟩; refine ⟨_, rfl, ?_⟩; have n0_ := Aside0.mk (blk_below (g := gb524) (o := .cells #[.bool true, .int .u64 a0_1, .int .u64 a0_2] 64 (0, 0)) (by (with_reducible repeat (first | refine blk_drewN ?_ _ | refine blk_drew ?_ | refine blk_alloc ?_ _)); exact BK524.out) hb); have n1_ := Aside0.mk (blk_below (g := gb525) (o := .cells #[.bool false, .int .u64 a1_1, .int .u64 a1_2] 64 (0, 0)) (by (with_reducible repeat (first | refine blk_drewN ?_ _ | refine blk_drew ?_ | refine blk_alloc ?_ _)); exact BK525.out) hb); have n2_ := Aside0.mk (blk_below (g := gb526) (o := .cells #[.bool false, .int .u64 0, .int .u64 0] 64 (0, 0)) (by (with_reducible repeat (first | refine blk_drewN ?_ _ | refine blk_drew ?_ | refine blk_alloc ?_ _)); exact BK526.out) hb); have n3_ := Aside0.mk (below_step (by repeat (first | (with_reducible first | exact HB.out | apply below_alloc | apply pw_below_drewN | apply below_drew1 | refine below_set ?_ GE524.out | refine below_set ?_ GE525.out | refine below_set ?_ GE526.out) | exact HB.out)) hb); clear BK524; clear BK525; clear BK526; clear HB; have BK524 := n0_; have BK525 := n1_; have BK526 := n2_; have HB := n3_; clear n0_ n1_ n2_ n3_; (try clear hb); (try clear hb2); (try clear hk); (try clear hi); have hcz39_0 : w38.cell? ⟨gb524, 0, none⟩ = some (.bool true) := (blk_cell BK524.out 0).trans rfl; have hcz39_1 : w38.cell? ⟨gb524, 1, none⟩ = some (.int .u64 a0_1) := (blk_cell BK524.out 1).trans rfl; have hcz39_2 : w38.cell? ⟨gb524, 2, none⟩ = some (.int .u64 a0_2) := (blk_cell BK524.out 2).trans rfl; have hfz39_0 := blk_frozen BK524.out 0; have hfz39_1 := blk_frozen BK524.out 1; have hfz39_2 := blk_frozen BK524.out 2; have hcz40_0 : w38.cell? ⟨gb525, 0, none⟩ = some (.bool false) := (blk_cell BK525.out 0).trans rfl; have hcz40_1 : w38.cell? ⟨gb525, 1, none⟩ = some (.int .u64 a1_1) := (blk_cell BK525.out 1).trans rfl; have hcz40_2 : w38.cell? ⟨gb525, 2, none⟩ = some (.int .u64 a1_2) := (blk_cell BK525.out 2).trans rfl; have hfz40_0 := blk_frozen BK525.out 0; have hfz40_1 := blk_frozen BK525.out 1; have hfz40_2 := blk_frozen BK525.out 2; have hcz41_0 : w38.cell? ⟨gb526, 0, none⟩ = some (.bool false) := (blk_cell BK526.out 0).trans rfl; have hcz41_1 : w38.cell? ⟨gb526, 1, none⟩ = some (.int .u64 0) := (blk_cell BK526.out 1).trans rfl; have hcz41_2 : w38.cell? ⟨gb526, 2, none⟩ = some (.int .u64 0) := (blk_cell BK526.out 2).trans rfl; have hfz41_0 := blk_frozen BK526.out 0; have hfz41_1 := blk_frozen BK526.out 1; have hfz41_2 := blk_frozen BK526.out 2))
          refine bodyPost_ret (results_cell_row rfl _ _ gb526 64 #[.bool ((sub64s a0_2 a1_2 0) != 0), .int .u64 (sub64s a0_1 a1_1 (sub64c a0_2 a1_2 0)), .int .u64 (sub64s a0_2 a1_2 0)] (0, 0) _ rfl (by (with_reducible repeat (first | refine blk_drewN ?_ _ | refine blk_drew ?_ | refine blk_alloc ?_ _)); refine blk_put (cs := #[.bool ((sub64s a0_2 a1_2 0) != 0), .int .u64 (sub64s a0_1 a1_1 (sub64c a0_2 a1_2 0)), .int .u64 0]) ?_ 2 _ rfl; (with_reducible repeat (first | refine blk_drewN ?_ _ | refine blk_drew ?_ | refine blk_alloc ?_ _)); refine blk_put (cs := #[.bool ((sub64s a0_2 a1_2 0) != 0), .int .u64 0, .int .u64 0]) ?_ 1 _ rfl; (with_reducible repeat (first | refine blk_drewN ?_ _ | refine blk_drew ?_ | refine blk_alloc ?_ _)); refine blk_put (cs := #[.bool false, .int .u64 0, .int .u64 0]) ?_ 0 _ rfl; (with_reducible repeat (first | refine blk_drewN ?_ _ | refine blk_drew ?_ | refine blk_alloc ?_ _)); exact BK526.out) Try.underlying64 rfl (by kernel_rfl)) rfl ?_
          exact ⟨by first | rfl | (simp [errW_none, errW_some] <;> rfl) | (simp [*, errW_none, errW_some] <;> rfl), by repeat (first | (with_reducible first | exact HB.out | apply below_alloc | apply pw_below_drewN | apply below_drew1 | refine below_set ?_ GE524.out | refine below_set ?_ GE525.out | refine below_set ?_ GE526.out) | exact HB.out)⟩
        · rw [if_neg c29] at H
          have c29b0 : ((sub64s a0_1 a1_1 (sub64c a0_2 a1_2 0)) == 0) = false := beq_eq_false_iff_ne.mpr c29
          have c29b1 : ((sub64s a0_1 a1_1 (sub64c a0_2 a1_2 0)) != 0) = true := bne_iff_ne.mpr c29
          simp only [Option.some.injEq, Prod.mk.injEq] at H
          obtain ⟨rfl, rfl, rfl⟩ := H
          go_enter Try.func84, Try.ntmps84
          go_wp2_with (first | ((with_reducible refine gate_dst (N := 2) rfl ?_); refine box_event ?hg (N := 2) ?hd (cs := #[.bool true, .int .u64 a0_1, .int .u64 a0_2]) (t := 64) ?hr ?_; (case hd => rfl); (case hg => rfl); (case hr => first | (go_simp; done) | (go_simp; rfl)); intro gb524 hg w42 hbox hb; have n0_ := Aside0.mk (below_step (by repeat (first | (with_reducible first | exact HB.out | apply below_alloc | apply pw_below_drewN | apply below_drew1) | exact HB.out)) hb); have n1_ := Aside0.mk (hbox); have n2_ := Aside0.mk ((by rw [hg]; exact (below_size (by repeat (first | (with_reducible first | exact HB.out | apply below_alloc | apply pw_below_drewN | apply below_drew1) | exact HB.out))) : w.heap.size ≤ gb524)); have n3_ := Aside0.mk ((by rw [hg]; exact (below_size (by repeat (first | (with_reducible first | exact HB.out | apply below_alloc | apply pw_below_drewN | apply below_drew1) | exact HB.out))) : w.heap.size ≤ gb524)); clear HB; have HB := n0_; have BK524 := n1_; have GW524 := n2_; have GE524 := n3_; clear n0_ n1_ n2_ n3_; clear hb hbox hg) | ((with_reducible refine gate_dst (N := 3) rfl ?_); refine box_event ?hg (N := 3) ?hd (cs := #[.bool false, .int .u64 a1_1, .int .u64 a1_2]) (t := 64) ?hr ?_; (case hd => rfl); (case hg => rfl); (case hr => first | (go_simp; done) | (go_simp; rfl)); intro gb525 hg w43 hbox hb; have n0_ := Aside0.mk (blk_below (g := gb524) (o := .cells #[.bool true, .int .u64 a0_1, .int .u64 a0_2] 64 (0, 0)) (by (with_reducible repeat (first | refine blk_drewN ?_ _ | refine blk_drew ?_ | refine blk_alloc ?_ _)); exact BK524.out) hb); have n1_ := Aside0.mk (below_step (by repeat (first | (with_reducible first | exact HB.out | apply below_alloc | apply pw_below_drewN | apply below_drew1 | refine below_set ?_ GE524.out) | exact HB.out)) hb); have n2_ := Aside0.mk (hbox); have n3_ := Aside0.mk ((by rw [hg]; exact (below_size (by repeat (first | (with_reducible first | exact HB.out | apply below_alloc | apply pw_below_drewN | apply below_drew1 | refine below_set ?_ GE524.out) | exact HB.out))) : w.heap.size ≤ gb525)); have n4_ := Aside0.mk ((by rw [hg]; exact (below_size (by repeat (first | (with_reducible first | exact HB.out | apply below_alloc | apply pw_below_drewN | apply below_drew1 | refine below_set ?_ GE524.out) | exact HB.out))) : w.heap.size ≤ gb525)); have n5_ := Aside0.mk ((by rw [hg]; exact Nat.ne_of_lt (blk_lt (g := gb524) (o := .cells #[.bool true, .int .u64 a0_1, .int .u64 a0_2] 64 (0, 0)) (by (with_reducible repeat (first | refine blk_drewN ?_ _ | refine blk_drew ?_ | refine blk_alloc ?_ _)); exact BK524.out)) : gb524 ≠ gb525)); have n6_ := Aside0.mk ((by rw [hg]; exact Nat.ne_of_gt (blk_lt (g := gb524) (o := .cells #[.bool true, .int .u64 a0_1, .int .u64 a0_2] 64 (0, 0)) (by (with_reducible repeat (first | refine blk_drewN ?_ _ | refine blk_drew ?_ | refine blk_alloc ?_ _)); exact BK524.out)) : gb525 ≠ gb524)); clear BK524; clear HB; have BK524 := n0_; have HB := n1_; have BK525 := n2_; have GW525 := n3_; have GE525 := n4_; have NB524_525 := n5_; have NB525_524 := n6_; clear n0_ n1_ n2_ n3_ n4_ n5_ n6_; clear hb hbox hg) | ((with_reducible refine gate_dst (N := 4) rfl ?_); refine box_event ?hg (N := 4) ?hd (cs := #[.bool false, .int .u64 0, .int .u64 0]) (t := 64) ?hr ?_; (case hd => rfl); (case hg => rfl); (case hr => first | (go_simp; done) | (go_simp; rfl)); intro gb526 hg w44 hbox hb; have n0_ := Aside0.mk (blk_below (g := gb524) (o := .cells #[.bool true, .int .u64 a0_1, .int .u64 a0_2] 64 (0, 0)) (by (with_reducible repeat (first | refine blk_drewN ?_ _ | refine blk_drew ?_ | refine blk_alloc ?_ _)); exact BK524.out) hb); have n1_ := Aside0.mk (blk_below (g := gb525) (o := .cells #[.bool false, .int .u64 a1_1, .int .u64 a1_2] 64 (0, 0)) (by (with_reducible repeat (first | refine blk_drewN ?_ _ | refine blk_drew ?_ | refine blk_alloc ?_ _)); exact BK525.out) hb); have n2_ := Aside0.mk (below_step (by repeat (first | (with_reducible first | exact HB.out | apply below_alloc | apply pw_below_drewN | apply below_drew1 | refine below_set ?_ GE524.out | refine below_set ?_ GE525.out) | exact HB.out)) hb); have n3_ := Aside0.mk (hbox); have n4_ := Aside0.mk ((by rw [hg]; exact (below_size (by repeat (first | (with_reducible first | exact HB.out | apply below_alloc | apply pw_below_drewN | apply below_drew1 | refine below_set ?_ GE524.out | refine below_set ?_ GE525.out) | exact HB.out))) : w.heap.size ≤ gb526)); have n5_ := Aside0.mk ((by rw [hg]; exact (below_size (by repeat (first | (with_reducible first | exact HB.out | apply below_alloc | apply pw_below_drewN | apply below_drew1 | refine below_set ?_ GE524.out | refine below_set ?_ GE525.out) | exact HB.out))) : w.heap.size ≤ gb526)); have n6_ := Aside0.mk ((by rw [hg]; exact Nat.ne_of_lt (blk_lt (g := gb524) (o := .cells #[.bool true, .int .u64 a0_1, .int .u64 a0_2] 64 (0, 0)) (by (with_reducible repeat (first | refine blk_drewN ?_ _ | refine blk_drew ?_ | refine blk_alloc ?_ _)); exact BK524.out)) : gb524 ≠ gb526)); have n7_ := Aside0.mk ((by rw [hg]; exact Nat.ne_of_gt (blk_lt (g := gb524) (o := .cells #[.bool true, .int .u64 a0_1, .int .u64 a0_2] 64 (0, 0)) (by (with_reducible repeat (first | refine blk_drewN ?_ _ | refine blk_drew ?_ | refine blk_alloc ?_ _)); exact BK524.out)) : gb526 ≠ gb524)); have n8_ := Aside0.mk ((by rw [hg]; exact Nat.ne_of_lt (blk_lt (g := gb525) (o := .cells #[.bool false, .int .u64 a1_1, .int .u64 a1_2] 64 (0, 0)) (by (with_reducible repeat (first | refine blk_drewN ?_ _ | refine blk_drew ?_ | refine blk_alloc ?_ _)); exact BK525.out)) : gb525 ≠ gb526)); have n9_ := Aside0.mk ((by rw [hg]; exact Nat.ne_of_gt (blk_lt (g := gb525) (o := .cells #[.bool false, .int .u64 a1_1, .int .u64 a1_2] 64 (0, 0)) (by (with_reducible repeat (first | refine blk_drewN ?_ _ | refine blk_drew ?_ | refine blk_alloc ?_ _)); exact BK525.out)) : gb526 ≠ gb525)); clear BK524; clear BK525; clear HB; have BK524 := n0_; have BK525 := n1_; have HB := n2_; have BK526 := n3_; have GW526 := n4_; have GE526 := n5_; have NB524_526 := n6_; have NB526_524 := n7_; have NB525_526 := n8_; have NB526_525 := n9_; clear n0_ n1_ n2_ n3_ n4_ n5_ n6_ n7_ n8_ n9_; clear hb hbox hg; have hnb45 := NB524_525.out; have hnc45 := NB525_524.out; have hnb46 := NB524_526.out; have hnc46 := NB526_524.out; have hcz47_0 : w44.cell? ⟨gb524, 0, none⟩ = some (.bool true) := (blk_cell BK524.out 0).trans rfl; have hcz47_1 : w44.cell? ⟨gb524, 1, none⟩ = some (.int .u64 a0_1) := (blk_cell BK524.out 1).trans rfl; have hcz47_2 : w44.cell? ⟨gb524, 2, none⟩ = some (.int .u64 a0_2) := (blk_cell BK524.out 2).trans rfl; have hfz47_0 := blk_frozen BK524.out 0; have hfz47_1 := blk_frozen BK524.out 1; have hfz47_2 := blk_frozen BK524.out 2; have hnb48 := NB525_526.out; have hnc48 := NB526_525.out; have hcz49_0 : w44.cell? ⟨gb525, 0, none⟩ = some (.bool false) := (blk_cell BK525.out 0).trans rfl; have hcz49_1 : w44.cell? ⟨gb525, 1, none⟩ = some (.int .u64 a1_1) := (blk_cell BK525.out 1).trans rfl; have hcz49_2 : w44.cell? ⟨gb525, 2, none⟩ = some (.int .u64 a1_2) := (blk_cell BK525.out 2).trans rfl; have hfz49_0 := blk_frozen BK525.out 0; have hfz49_1 := blk_frozen BK525.out 1; have hfz49_2 := blk_frozen BK525.out 2) | ((with_reducible refine gate_callee (f := 77) rfl ?_); refine goesL_ (some 42) rfl rfl Try.func77 (by kernel_rfl) rfl #[.agg #[.bool true, .int .u64 a0_1, .int .u64 a0_2], .agg #[.bool false, .int .u64 a1_1, .int .u64 a1_2]] rfl (by (try simp only [List.map_toArray, List.map_cons, List.map_nil]); first | done | rfl | (simp only [List.length_drop, List.length_take]; rfl)) ?_; (with_reducible refine (bagatelleref01_less.calls true a0_1 a0_2 false a1_1 a1_2 false _ A15.out).mono ?_); rintro e w50 ⟨rfl, hb⟩; refine ⟨_, rfl, ?_⟩; have n0_ := Aside0.mk (blk_below (g := gb524) (o := .cells #[.bool true, .int .u64 a0_1, .int .u64 a0_2] 64 (0, 0)) (by (with_reducible repeat (first | refine blk_drewN ?_ _ | refine blk_drew ?_ | refine blk_alloc ?_ _)); exact BK524.out) hb); have n1_ := Aside0.mk (blk_below (g := gb525) (o := .cells #[.bool false, .int .u64 a1_1, .int .u64 a1_2] 64 (0, 0)) (by (with_reducible repeat (first | refine blk_drewN ?_ _ | refine blk_drew ?_ | refine blk_alloc ?_ _)); exact BK525.out) hb); have n2_ := Aside0.mk (blk_below (g := gb526) (o := .cells #[.bool false, .int .u64 0, .int .u64 0] 64 (0, 0)) (by (with_reducible repeat (first | refine blk_drewN ?_ _ | refine blk_drew ?_ | refine blk_alloc ?_ _)); exact BK526.out) hb); have n3_ := Aside0.mk (below_step (by repeat (first | (with_reducible first | exact HB.out | apply below_alloc | apply pw_below_drewN | apply below_drew1 | refine below_set ?_ GE524.out | refine below_set ?_ GE525.out | refine below_set ?_ GE526.out) | exact HB.out)) hb); clear BK524; clear BK525; clear BK526; clear HB; have BK524 := n0_; have BK525 := n1_; have BK526 := n2_; have HB := n3_; clear n0_ n1_ n2_ n3_; (try clear hb); (try clear hb2); (try clear hk); (try clear hi); have hcz51_0 : w50.cell? ⟨gb524, 0, none⟩ = some (.bool true) := (blk_cell BK524.out 0).trans rfl; have hcz51_1 : w50.cell? ⟨gb524, 1, none⟩ = some (.int .u64 a0_1) := (blk_cell BK524.out 1).trans rfl; have hcz51_2 : w50.cell? ⟨gb524, 2, none⟩ = some (.int .u64 a0_2) := (blk_cell BK524.out 2).trans rfl; have hfz51_0 := blk_frozen BK524.out 0; have hfz51_1 := blk_frozen BK524.out 1; have hfz51_2 := blk_frozen BK524.out 2; have hcz52_0 : w50.cell? ⟨gb525, 0, none⟩ = some (.bool false) := (blk_cell BK525.out 0).trans rfl; have hcz52_1 : w50.cell? ⟨gb525, 1, none⟩ = some (.int .u64 a1_1) := (blk_cell BK525.out 1).trans rfl; have hcz52_2 : w50.cell? ⟨gb525, 2, none⟩ = some (.int .u64 a1_2) := (blk_cell BK525.out 2).trans rfl; have hfz52_0 := blk_frozen BK525.out 0; have hfz52_1 := blk_frozen BK525.out 1; have hfz52_2 := blk_frozen BK525.out 2; have hcz53_0 : w50.cell? ⟨gb526, 0, none⟩ = some (.bool false) := (blk_cell BK526.out 0).trans rfl; have hcz53_1 : w50.cell? ⟨gb526, 1, none⟩ = some (.int .u64 0) := (blk_cell BK526.out 1).trans rfl; have hcz53_2 : w50.cell? ⟨gb526, 2, none⟩ = some (.int .u64 0) := (blk_cell BK526.out 2).trans rfl; have hfz53_0 := blk_frozen BK526.out 0; have hfz53_1 := blk_frozen BK526.out 1; have hfz53_2 := blk_frozen BK526.out 2))
          refine bodyPost_ret (results_cell_row rfl _ _ gb526 64 #[.bool true, .int .u64 (sub64s a0_1 a1_1 (sub64c a0_2 a1_2 0)), .int .u64 (sub64s a0_2 a1_2 0)] (0, 0) _ rfl (by (with_reducible repeat (first | refine blk_drewN ?_ _ | refine blk_drew ?_ | refine blk_alloc ?_ _)); refine blk_put (cs := #[.bool true, .int .u64 (sub64s a0_1 a1_1 (sub64c a0_2 a1_2 0)), .int .u64 0]) ?_ 2 _ rfl; (with_reducible repeat (first | refine blk_drewN ?_ _ | refine blk_drew ?_ | refine blk_alloc ?_ _)); refine blk_put (cs := #[.bool true, .int .u64 0, .int .u64 0]) ?_ 1 _ rfl; (with_reducible repeat (first | refine blk_drewN ?_ _ | refine blk_drew ?_ | refine blk_alloc ?_ _)); refine blk_put (cs := #[.bool false, .int .u64 0, .int .u64 0]) ?_ 0 _ rfl; (with_reducible repeat (first | refine blk_drewN ?_ _ | refine blk_drew ?_ | refine blk_alloc ?_ _)); exact BK526.out) Try.underlying64 rfl (by kernel_rfl)) rfl ?_
          exact ⟨by first | rfl | (simp [errW_none, errW_some] <;> rfl) | (simp [*, errW_none, errW_some] <;> rfl), by repeat (first | (with_reducible first | exact HB.out | apply below_alloc | apply pw_below_drewN | apply below_drew1 | refine below_set ?_ GE524.out | refine below_set ?_ GE525.out | refine below_set ?_ GE526.out) | exact HB.out)⟩
  · replace c3 := Bool.eq_false_iff.mpr c3
    subst c3
    have H1 : (if a1_0 = true then ((bagatelleref01_less.f false a0_1 a0_2 a1_0 a1_1 a1_2).bind fun t531 => (if t531 = true then (if (sub64s a1_1 a0_1 (sub64c a1_2 a0_2 0)) = 0 then (some (((sub64s a1_2 a0_2 0) != 0), sub64s a1_1 a0_1 (sub64c a1_2 a0_2 0), sub64s a1_2 a0_2 0)) else (some (true, sub64s a1_1 a0_1 (sub64c a1_2 a0_2 0), sub64s a1_2 a0_2 0))) else (some (false, sub64s a0_1 a1_1 (sub64c a0_2 a1_2 0), sub64s a0_2 a1_2 0)))) else (if add64c a0_2 a1_2 0 ≤ 1 then (some (false, add64s a0_1 a1_1 (add64c a0_2 a1_2 0), add64s a0_2 a1_2 0)) else (none))) = some (r1, r2, r3) := by rw [if_neg (show ¬ (false = true) by decide)] at H; exact H
    clear H
    have H := H1
    clear H1
    by_cases c54 : a1_0 = true
    · subst c54
      have H1 : ((bagatelleref01_less.f false a0_1 a0_2 true a1_1 a1_2).bind fun t531 => (if t531 = true then (if (sub64s a1_1 a0_1 (sub64c a1_2 a0_2 0)) = 0 then (some (((sub64s a1_2 a0_2 0) != 0), sub64s a1_1 a0_1 (sub64c a1_2 a0_2 0), sub64s a1_2 a0_2 0)) else (some (true, sub64s a1_1 a0_1 (sub64c a1_2 a0_2 0), sub64s a1_2 a0_2 0))) else (some (false, sub64s a0_1 a1_1 (sub64c a0_2 a1_2 0), sub64s a0_2 a1_2 0)))) = some (r1, r2, r3) := by rw [if_pos rfl] at H; exact H
      clear H
      have H := H1
      clear H1
      replace H := Option.bind_eq_some_iff.mp H
      obtain ⟨t531, A550, H⟩ := H
      replace H : (if t531 = true then (if (sub64s a1_1 a0_1 (sub64c a1_2 a0_2 0)) = 0 then (some (((sub64s a1_2 a0_2 0) != 0), sub64s a1_1 a0_1 (sub64c a1_2 a0_2 0), sub64s a1_2 a0_2 0)) else (some (true, sub64s a1_1 a0_1 (sub64c a1_2 a0_2 0), sub64s a1_2 a0_2 0))) else (some (false, sub64s a0_1 a1_1 (sub64c a0_2 a1_2 0), sub64s a0_2 a1_2 0))) = some (r1, r2, r3) := H
      have A55 := Aside0.mk A550
      clear A550
      by_cases c56 : t531 = true
      · subst c56
        have H1 : (if (sub64s a1_1 a0_1 (sub64c a1_2 a0_2 0)) = 0 then (some (((sub64s a1_2 a0_2 0) != 0), sub64s a1_1 a0_1 (sub64c a1_2 a0_2 0), sub64s a1_2 a0_2 0)) else (some (true, sub64s a1_1 a0_1 (sub64c a1_2 a0_2 0), sub64s a1_2 a0_2 0))) = some (r1, r2, r3) := by rw [if_pos rfl] at H; exact H
        clear H
        have H := H1
        clear H1
        by_cases c57 : (sub64s a1_1 a0_1 (sub64c a1_2 a0_2 0)) = 0
        · rw [if_pos c57] at H
          have c57b0 : ((sub64s a1_1 a0_1 (sub64c a1_2 a0_2 0)) == 0) = true := beq_iff_eq.mpr c57
          have c57b1 : ((sub64s a1_1 a0_1 (sub64c a1_2 a0_2 0)) != 0) = false := bne_eq_false_iff_eq.mpr c57
          clear c57
          simp only [Option.some.injEq, Prod.mk.injEq] at H
          obtain ⟨rfl, rfl, rfl⟩ := H
          go_enter Try.func84, Try.ntmps84
          go_wp2_with (first | ((with_reducible refine gate_dst (N := 2) rfl ?_); refine box_event ?hg (N := 2) ?hd (cs := #[.bool false, .int .u64 a0_1, .int .u64 a0_2]) (t := 64) ?hr ?_; (case hd => rfl); (case hg => rfl); (case hr => first | (go_simp; done) | (go_simp; rfl)); intro gb528 hg w58 hbox hb; have n0_ := Aside0.mk (below_step (by repeat (first | (with_reducible first | exact HB.out | apply below_alloc | apply pw_below_drewN | apply below_drew1) | exact HB.out)) hb); have n1_ := Aside0.mk (hbox); have n2_ := Aside0.mk ((by rw [hg]; exact (below_size (by repeat (first | (with_reducible first | exact HB.out | apply below_alloc | apply pw_below_drewN | apply below_drew1) | exact HB.out))) : w.heap.size ≤ gb528)); have n3_ := Aside0.mk ((by rw [hg]; exact (below_size (by repeat (first | (with_reducible first | exact HB.out | apply below_alloc | apply pw_below_drewN | apply below_drew1) | exact HB.out))) : w.heap.size ≤ gb528)); clear HB; have HB := n0_; have BK528 := n1_; have GW528 := n2_; have GE528 := n3_; clear n0_ n1_ n2_ n3_; clear hb hbox hg) | ((with_reducible refine gate_dst (N := 3) rfl ?_); refine box_event ?hg (N := 3) ?hd (cs := #[.bool true, .int .u64 a1_1, .int .u64 a1_2]) (t := 64) ?hr ?_; (case hd => rfl); (case hg => rfl); (case hr => first | (go_simp; done) | (go_simp; rfl)); intro gb529 hg w59 hbox hb; have n0_ := Aside0.mk (blk_below (g := gb528) (o := .cells #[.bool false, .int .u64 a0_1, .int .u64 a0_2] 64 (0, 0)) (by (with_reducible repeat (first | refine blk_drewN ?_ _ | refine blk_drew ?_ | refine blk_alloc ?_ _)); exact BK528.out) hb); have n1_ := Aside0.mk (below_step (by repeat (first | (with_reducible first | exact HB.out | apply below_alloc | apply pw_below_drewN | apply below_drew1 | refine below_set ?_ GE528.out) | exact HB.out)) hb); have n2_ := Aside0.mk (hbox); have n3_ := Aside0.mk ((by rw [hg]; exact (below_size (by repeat (first | (with_reducible first | exact HB.out | apply below_alloc | apply pw_below_drewN | apply below_drew1 | refine below_set ?_ GE528.out) | exact HB.out))) : w.heap.size ≤ gb529)); have n4_ := Aside0.mk ((by rw [hg]; exact (below_size (by repeat (first | (with_reducible first | exact HB.out | apply below_alloc | apply pw_below_drewN | apply below_drew1 | refine below_set ?_ GE528.out) | exact HB.out))) : w.heap.size ≤ gb529)); have n5_ := Aside0.mk ((by rw [hg]; exact Nat.ne_of_lt (blk_lt (g := gb528) (o := .cells #[.bool false, .int .u64 a0_1, .int .u64 a0_2] 64 (0, 0)) (by (with_reducible repeat (first | refine blk_drewN ?_ _ | refine blk_drew ?_ | refine blk_alloc ?_ _)); exact BK528.out)) : gb528 ≠ gb529)); have n6_ := Aside0.mk ((by rw [hg]; exact Nat.ne_of_gt (blk_lt (g := gb528) (o := .cells #[.bool false, .int .u64 a0_1, .int .u64 a0_2] 64 (0, 0)) (by (with_reducible repeat (first | refine blk_drewN ?_ _ | refine blk_drew ?_ | refine blk_alloc ?_ _)); exact BK528.out)) : gb529 ≠ gb528)); clear BK528; clear HB; have BK528 := n0_; have HB := n1_; have BK529 := n2_; have GW529 := n3_; have GE529 := n4_; have NB528_529 := n5_; have NB529_528 := n6_; clear n0_ n1_ n2_ n3_ n4_ n5_ n6_; clear hb hbox hg) | ((with_reducible refine gate_dst (N := 4) rfl ?_); refine box_event ?hg (N := 4) ?hd (cs := #[.bool false, .int .u64 0, .int .u64 0]) (t := 64) ?hr ?_; (case hd => rfl); (case hg => rfl); (case hr => first | (go_simp; done) | (go_simp; rfl)); intro gb530 hg w60 hbox hb; have n0_ := Aside0.mk (blk_below (g := gb528) (o := .cells #[.bool false, .int .u64 a0_1, .int .u64 a0_2] 64 (0, 0)) (by (with_reducible repeat (first | refine blk_drewN ?_ _ | refine blk_drew ?_ | refine blk_alloc ?_ _)); exact BK528.out) hb); have n1_ := Aside0.mk (blk_below (g := gb529) (o := .cells #[.bool true, .int .u64 a1_1, .int .u64 a1_2] 64 (0, 0)) (by (with_reducible repeat (first | refine blk_drewN ?_ _ | refine blk_drew ?_ | refine blk_alloc ?_ _)); exact BK529.out) hb); have n2_ := Aside0.mk (below_step (by repeat (first | (with_reducible first | exact HB.out | apply below_alloc | apply pw_below_drewN | apply below_drew1 | refine below_set ?_ GE528.out | refine below_set ?_ GE529.out) | exact HB.out)) hb); have n3_ := Aside0.mk (hbox); have n4_ := Aside0.mk ((by rw [hg]; exact (below_size (by repeat (first | (with_reducible first | exact HB.out | apply below_alloc | apply pw_below_drewN | apply below_drew1 | refine below_set ?_ GE528.out | refine below_set ?_ GE529.out) | exact HB.out))) : w.heap.size ≤ gb530)); have n5_ := Aside0.mk ((by rw [hg]; exact (below_size (by repeat (first | (with_reducible first | exact HB.out | apply below_alloc | apply pw_below_drewN | apply below_drew1 | refine below_set ?_ GE528.out | refine below_set ?_ GE529.out) | exact HB.out))) : w.heap.size ≤ gb530)); have n6_ := Aside0.mk ((by rw [hg]; exact Nat.ne_of_lt (blk_lt (g := gb528) (o := .cells #[.bool false, .int .u64 a0_1, .int .u64 a0_2] 64 (0, 0)) (by (with_reducible repeat (first | refine blk_drewN ?_ _ | refine blk_drew ?_ | refine blk_alloc ?_ _)); exact BK528.out)) : gb528 ≠ gb530)); have n7_ := Aside0.mk ((by rw [hg]; exact Nat.ne_of_gt (blk_lt (g := gb528) (o := .cells #[.bool false, .int .u64 a0_1, .int .u64 a0_2] 64 (0, 0)) (by (with_reducible repeat (first | refine blk_drewN ?_ _ | refine blk_drew ?_ | refine blk_alloc ?_ _)); exact BK528.out)) : gb530 ≠ gb528)); have n8_ := Aside0.mk ((by rw [hg]; exact Nat.ne_of_lt (blk_lt (g := gb529) (o := .cells #[.bool true, .int .u64 a1_1, .int .u64 a1_2] 64 (0, 0)) (by (with_reducible repeat (first | refine blk_drewN ?_ _ | refine blk_drew ?_ | refine blk_alloc ?_ _)); exact BK529.out)) : gb529 ≠ gb530)); have n9_ := Aside0.mk ((by rw [hg]; exact Nat.ne_of_gt (blk_lt (g := gb529) (o := .cells #[.bool true, .int .u64 a1_1, .int .u64 a1_2] 64 (0, 0)) (by (with_reducible repeat (first | refine blk_drewN ?_ _ | refine blk_drew ?_ | refine blk_alloc ?_ _)); exact BK529.out)) : gb530 ≠ gb529)); clear BK528; clear BK529; clear HB; have BK528 := n0_; have BK529 := n1_; have HB := n2_; have BK530 := n3_; have GW530 := n4_; have GE530 := n5_; have NB528_530 := n6_; have NB530_528 := n7_; have NB529_530 := n8_; have NB530_529 := n9_; clear n0_ n1_ n2_ n3_ n4_ n5_ n6_ n7_ n8_ n9_; clear hb hbox hg; have hnb61 := NB528_529.out; have hnc61 := NB529_528.out; have hnb62 := NB528_530.out; have hnc62 := NB530_528.out; have hcz63_0 : w60.cell? ⟨gb528, 0, none⟩ = some (.bool false) := (blk_cell BK528.out 0).trans rfl; have hcz63_1 : w60.cell? ⟨gb528, 1, none⟩ = some (.int .u64 a0_1) := (blk_cell BK528.out 1).trans rfl; have hcz63_2 : w60.cell? ⟨gb528, 2, none⟩ = some (.int .u64 a0_2) := (blk_cell BK528.out 2).trans rfl; have hfz63_0 := blk_frozen BK528.out 0; have hfz63_1 := blk_frozen BK528.out 1; have hfz63_2 := blk_frozen BK528.out 2; have hnb64 := NB529_530.out; have hnc64 := NB530_529.out; have hcz65_0 : w60.cell? ⟨gb529, 0, none⟩ = some (.bool true) := (blk_cell BK529.out 0).trans rfl; have hcz65_1 : w60.cell? ⟨gb529, 1, none⟩ = some (.int .u64 a1_1) := (blk_cell BK529.out 1).trans rfl; have hcz65_2 : w60.cell? ⟨gb529, 2, none⟩ = some (.int .u64 a1_2) := (blk_cell BK529.out 2).trans rfl; have hfz65_0 := blk_frozen BK529.out 0; have hfz65_1 := blk_frozen BK529.out 1; have hfz65_2 := blk_frozen BK529.out 2) | ((with_reducible refine gate_callee (f := 77) rfl ?_); refine goesL_ (some 42) rfl rfl Try.func77 (by kernel_rfl) rfl #[.agg #[.bool false, .int .u64 a0_1, .int .u64 a0_2], .agg #[.bool true, .int .u64 a1_1, .int .u64 a1_2]] rfl (by (try simp only [List.map_toArray, List.map_cons, List.map_nil]); first | done | rfl | (simp only [List.length_drop, List.length_take]; rfl)) ?_; (with_reducible refine (bagatelleref01_less.calls false a0_1 a0_2 true a1_1 a1_2 true _ A55.out).mono ?_); rintro e w66 ⟨rfl, hb⟩; refine ⟨_, rfl, ?_⟩; have n0_ := Aside0.mk (blk_below (g := gb528) (o := .cells #[.bool false, .int .u64 a0_1, .int .u64 a0_2] 64 (0, 0)) (by (with_reducible repeat (first | refine blk_drewN ?_ _ | refine blk_drew ?_ | refine blk_alloc ?_ _)); exact BK528.out) hb); have n1_ := Aside0.mk (blk_below (g := gb529) (o := .cells #[.bool true, .int .u64 a1_1, .int .u64 a1_2] 64 (0, 0)) (by (with_reducible repeat (first | refine blk_drewN ?_ _ | refine blk_drew ?_ | refine blk_alloc ?_ _)); exact BK529.out) hb); have n2_ := Aside0.mk (blk_below (g := gb530) (o := .cells #[.bool false, .int .u64 0, .int .u64 0] 64 (0, 0)) (by (with_reducible repeat (first | refine blk_drewN ?_ _ | refine blk_drew ?_ | refine blk_alloc ?_ _)); exact BK530.out) hb); have n3_ := Aside0.mk (below_step (by repeat (first | (with_reducible first | exact HB.out | apply below_alloc | apply pw_below_drewN | apply below_drew1 | refine below_set ?_ GE528.out | refine below_set ?_ GE529.out | refine below_set ?_ GE530.out) | exact HB.out)) hb); clear BK528; clear BK529; clear BK530; clear HB; have BK528 := n0_; have BK529 := n1_; have BK530 := n2_; have HB := n3_; clear n0_ n1_ n2_ n3_; (try clear hb); (try clear hb2); (try clear hk); (try clear hi); have hcz67_0 : w66.cell? ⟨gb529, 0, none⟩ = some (.bool true) := (blk_cell BK529.out 0).trans rfl; have hcz67_1 : w66.cell? ⟨gb529, 1, none⟩ = some (.int .u64 a1_1) := (blk_cell BK529.out 1).trans rfl; have hcz67_2 : w66.cell? ⟨gb529, 2, none⟩ = some (.int .u64 a1_2) := (blk_cell BK529.out 2).trans rfl; have hfz67_0 := blk_frozen BK529.out 0; have hfz67_1 := blk_frozen BK529.out 1; have hfz67_2 := blk_frozen BK529.out 2; have hcz68_0 : w66.cell? ⟨gb528, 0, none⟩ = some (.bool false) := (blk_cell BK528.out 0).trans rfl; have hcz68_1 : w66.cell? ⟨gb528, 1, none⟩ = some (.int .u64 a0_1) := (blk_cell BK528.out 1).trans rfl; have hcz68_2 : w66.cell? ⟨gb528, 2, none⟩ = some (.int .u64 a0_2) := (blk_cell BK528.out 2).trans rfl; have hfz68_0 := blk_frozen BK528.out 0; have hfz68_1 := blk_frozen BK528.out 1; have hfz68_2 := blk_frozen BK528.out 2; have hcz69_0 : w66.cell? ⟨gb530, 0, none⟩ = some (.bool false) := (blk_cell BK530.out 0).trans rfl; have hcz69_1 : w66.cell? ⟨gb530, 1, none⟩ = some (.int .u64 0) := (blk_cell BK530.out 1).trans rfl; have hcz69_2 : w66.cell? ⟨gb530, 2, none⟩ = some (.int .u64 0) := (blk_cell BK530.out 2).trans rfl; have hfz69_0 := blk_frozen BK530.out 0; have hfz69_1 := blk_frozen BK530.out 1; have hfz69_2 := blk_frozen BK530.out 2))
          refine bodyPost_ret (results_cell_row rfl _ _ gb530 64 #[.bool ((sub64s a1_2 a0_2 0) != 0), .int .u64 (sub64s a1_1 a0_1 (sub64c a1_2 a0_2 0)), .int .u64 (sub64s a1_2 a0_2 0)] (0, 0) _ rfl (by (with_reducible repeat (first | refine blk_drewN ?_ _ | refine blk_drew ?_ | refine blk_alloc ?_ _)); refine blk_put (cs := #[.bool ((sub64s a1_2 a0_2 0) != 0), .int .u64 (sub64s a1_1 a0_1 (sub64c a1_2 a0_2 0)), .int .u64 0]) ?_ 2 _ rfl; (with_reducible repeat (first | refine blk_drewN ?_ _ | refine blk_drew ?_ | refine blk_alloc ?_ _)); refine blk_put (cs := #[.bool ((sub64s a1_2 a0_2 0) != 0), .int .u64 0, .int .u64 0]) ?_ 1 _ rfl; (with_reducible repeat (first | refine blk_drewN ?_ _ | refine blk_drew ?_ | refine blk_alloc ?_ _)); refine blk_put (cs := #[.bool false, .int .u64 0, .int .u64 0]) ?_ 0 _ rfl; (with_reducible repeat (first | refine blk_drewN ?_ _ | refine blk_drew ?_ | refine blk_alloc ?_ _)); refine blk_far ?_ NB530_529.out _; (with_reducible repeat (first | refine blk_drewN ?_ _ | refine blk_drew ?_ | refine blk_alloc ?_ _)); refine blk_far ?_ NB530_529.out _; (with_reducible repeat (first | refine blk_drewN ?_ _ | refine blk_drew ?_ | refine blk_alloc ?_ _)); refine blk_far ?_ NB530_529.out _; (with_reducible repeat (first | refine blk_drewN ?_ _ | refine blk_drew ?_ | refine blk_alloc ?_ _)); refine blk_far ?_ NB530_528.out _; (with_reducible repeat (first | refine blk_drewN ?_ _ | refine blk_drew ?_ | refine blk_alloc ?_ _)); refine blk_far ?_ NB530_528.out _; (with_reducible repeat (first | refine blk_drewN ?_ _ | refine blk_drew ?_ | refine blk_alloc ?_ _)); refine blk_far ?_ NB530_528.out _; (with_reducible repeat (first | refine blk_drewN ?_ _ | refine blk_drew ?_ | refine blk_alloc ?_ _)); exact BK530.out) Try.underlying64 rfl (by kernel_rfl)) rfl ?_
          exact ⟨by first | rfl | (simp [errW_none, errW_some] <;> rfl) | (simp [*, errW_none, errW_some] <;> rfl), by repeat (first | (with_reducible first | exact HB.out | apply below_alloc | apply pw_below_drewN | apply below_drew1 | refine below_set ?_ GE528.out | refine below_set ?_ GE529.out | refine below_set ?_ GE530.out) | exact HB.out)⟩
        · rw [if_neg c57] at H
          have c57b0 : ((sub64s a1_1 a0_1 (sub64c a1_2 a0_2 0)) == 0) = false := beq_eq_false_iff_ne.mpr c57
          have c57b1 : ((sub64s a1_1 a0_1 (sub64c a1_2 a0_2 0)) != 0) = true := bne_iff_ne.mpr c57
          simp only [Option.some.injEq, Prod.mk.injEq] at H
          obtain ⟨rfl, rfl, rfl⟩ := H
          go_enter Try.func84, Try.ntmps84
          go_wp2_with (first | ((with_reducible refine gate_dst (N := 2) rfl ?_); refine box_event ?hg (N := 2) ?hd (cs := #[.bool false, .int .u64 a0_1, .int .u64 a0_2]) (t := 64) ?hr ?_; (case hd => rfl); (case hg => rfl); (case hr => first | (go_simp; done) | (go_simp; rfl)); intro gb528 hg w70 hbox hb; have n0_ := Aside0.mk (below_step (by repeat (first | (with_reducible first | exact HB.out | apply below_alloc | apply pw_below_drewN | apply below_drew1) | exact HB.out)) hb); have n1_ := Aside0.mk (hbox); have n2_ := Aside0.mk ((by rw [hg]; exact (below_size (by repeat (first | (with_reducible first | exact HB.out | apply below_alloc | apply pw_below_drewN | apply below_drew1) | exact HB.out))) : w.heap.size ≤ gb528)); have n3_ := Aside0.mk ((by rw [hg]; exact (below_size (by repeat (first | (with_reducible first | exact HB.out | apply below_alloc | apply pw_below_drewN | apply below_drew1) | exact HB.out))) : w.heap.size ≤ gb528)); clear HB; have HB := n0_; have BK528 := n1_; have GW528 := n2_; have GE528 := n3_; clear n0_ n1_ n2_ n3_; clear hb hbox hg) | ((with_reducible refine gate_dst (N := 3) rfl ?_); refine box_event ?hg (N := 3) ?hd (cs := #[.bool true, .int .u64 a1_1, .int .u64 a1_2]) (t := 64) ?hr ?_; (case hd => rfl); (case hg => rfl); (case hr => first | (go_simp; done) | (go_simp; rfl)); intro gb529 hg w71 hbox hb; have n0_ := Aside0.mk (blk_below (g := gb528) (o := .cells #[.bool false, .int .u64 a0_1, .int .u64 a0_2] 64 (0, 0)) (by (with_reducible repeat (first | refine blk_drewN ?_ _ | refine blk_drew ?_ | refine blk_alloc ?_ _)); exact BK528.out) hb); have n1_ := Aside0.mk (below_step (by repeat (first | (with_reducible first | exact HB.out | apply below_alloc | apply pw_below_drewN | apply below_drew1 | refine below_set ?_ GE528.out) | exact HB.out)) hb); have n2_ := Aside0.mk (hbox); have n3_ := Aside0.mk ((by rw [hg]; exact (below_size (by repeat (first | (with_reducible first | exact HB.out | apply below_alloc | apply pw_below_drewN | apply below_drew1 | refine below_set ?_ GE528.out) | exact HB.out))) : w.heap.size ≤ gb529)); have n4_ := Aside0.mk ((by rw [hg]; exact (below_size (by repeat (first | (with_reducible first | exact HB.out | apply below_alloc | apply pw_below_drewN | apply below_drew1 | refine below_set ?_ GE528.out) | exact HB.out))) : w.heap.size ≤ gb529)); have n5_ := Aside0.mk ((by rw [hg]; exact Nat.ne_of_lt (blk_lt (g := gb528) (o := .cells #[.bool false, .int .u64 a0_1, .int .u64 a0_2] 64 (0, 0)) (by (with_reducible repeat (first | refine blk_drewN ?_ _ | refine blk_drew ?_ | refine blk_alloc ?_ _)); exact BK528.out)) : gb528 ≠ gb529)); have n6_ := Aside0.mk ((by rw [hg]; exact Nat.ne_of_gt (blk_lt (g := gb528) (o := .cells #[.bool false, .int .u64 a0_1, .int .u64 a0_2] 64 (0, 0)) (by (with_reducible repeat (first | refine blk_drewN ?_ _ | refine blk_drew ?_ | refine blk_alloc ?_ _)); exact BK528.out)) : gb529 ≠ gb528)); clear BK528; clear HB; have BK528 := n0_; have HB := n1_; have BK529 := n2_; have GW529 := n3_; have GE529 := n4_; have NB528_529 := n5_; have NB529_528 := n6_; clear n0_ n1_ n2_ n3_ n4_ n5_ n6_; clear hb hbox hg) | ((with_reducible refine gate_dst (N := 4) rfl ?_); refine box_event ?hg (N := 4) ?hd (cs := #[.bool false, .int .u64 0, .int .u64 0]) (t := 64) ?hr ?_; (case hd => rfl); (case hg => rfl); (case hr => first | (go_simp; done) | (go_simp; rfl)); intro gb530 hg w72 hbox hb; have n0_ := Aside0.mk (blk_below (g := gb528) (o := .cells #[.bool false, .int .u64 a0_1, .int .u64 a0_2] 64 (0, 0)) (by (with_reducible repeat (first | refine blk_drewN ?_ _ | refine blk_drew ?_ | refine blk_alloc ?_ _)); exact BK528.out) hb); have n1_ := Aside0.mk (blk_below (g := gb529) (o := .cells #[.bool true, .int .u64 a1_1, .int .u64 a1_2] 64 (0, 0)) (by (with_reducible repeat (first | refine blk_drewN ?_ _ | refine blk_drew ?_ | refine blk_alloc ?_ _)); exact BK529.out) hb); have n2_ := Aside0.mk (below_step (by repeat (first | (with_reducible first | exact HB.out | apply below_alloc | apply pw_below_drewN | apply below_drew1 | refine below_set ?_ GE528.out | refine below_set ?_ GE529.out) | exact HB.out)) hb); have n3_ := Aside0.mk (hbox); have n4_ := Aside0.mk ((by rw [hg]; exact (below_size (by repeat (first | (with_reducible first | exact HB.out | apply below_alloc | apply pw_below_drewN | apply below_drew1 | refine below_set ?_ GE528.out | refine below_set ?_ GE529.out) | exact HB.out))) : w.heap.size ≤ gb530)); have n5_ := Aside0.mk ((by rw [hg]; exact (below_size (by repeat (first | (with_reducible first | exact HB.out | apply below_alloc | apply pw_below_drewN | apply below_drew1 | refine below_set ?_ GE528.out | refine below_set ?_ GE529.out) | exact HB.out))) : w.heap.size ≤ gb530)); have n6_ := Aside0.mk ((by rw [hg]; exact Nat.ne_of_lt (blk_lt (g := gb528) (o := .cells #[.bool false, .int .u64 a0_1, .int .u64 a0_2] 64 (0, 0)) (by (with_reducible repeat (first | refine blk_drewN ?_ _ | refine blk_drew ?_ | refine blk_alloc ?_ _)); exact BK528.out)) : gb528 ≠ gb530)); have n7_ := Aside0.mk ((by rw [hg]; exact Nat.ne_of_gt (blk_lt (g := gb528) (o := .cells #[.bool false, .int .u64 a0_1, .int .u64 a0_2] 64 (0, 0)) (by (with_reducible repeat (first | refine blk_drewN ?_ _ | refine blk_drew ?_ | refine blk_alloc ?_ _)); exact BK528.out)) : gb530 ≠ gb528)); have n8_ := Aside0.mk ((by rw [hg]; exact Nat.ne_of_lt (blk_lt (g := gb529) (o := .cells #[.bool true, .int .u64 a1_1, .int .u64 a1_2] 64 (0, 0)) (by (with_reducible repeat (first | refine blk_drewN ?_ _ | refine blk_drew ?_ | refine blk_alloc ?_ _)); exact BK529.out)) : gb529 ≠ gb530)); have n9_ := Aside0.mk ((by rw [hg]; exact Nat.ne_of_gt (blk_lt (g := gb529) (o := .cells #[.bool true, .int .u64 a1_1, .int .u64 a1_2] 64 (0, 0)) (by (with_reducible repeat (first | refine blk_drewN ?_ _ | refine blk_drew ?_ | refine blk_alloc ?_ _)); exact BK529.out)) : gb530 ≠ gb529)); clear BK528; clear BK529; clear HB; have BK528 := n0_; have BK529 := n1_; have HB := n2_; have BK530 := n3_; have GW530 := n4_; have GE530 := n5_; have NB528_530 := n6_; have NB530_528 := n7_; have NB529_530 := n8_; have NB530_529 := n9_; clear n0_ n1_ n2_ n3_ n4_ n5_ n6_ n7_ n8_ n9_; clear hb hbox hg; have hnb73 := NB528_529.out; have hnc73 := NB529_528.out; have hnb74 := NB528_530.out; have hnc74 := NB530_528.out; have hcz75_0 : w72.cell? ⟨gb528, 0, none⟩ = some (.bool false) := (blk_cell BK528.out 0).trans rfl; have hcz75_1 : w72.cell? ⟨gb528, 1, none⟩ = some (.int .u64 a0_1) := (blk_cell BK528.out 1).trans rfl; have hcz75_2 : w72.cell? ⟨gb528, 2, none⟩ = some (.int .u64 a0_2) := (blk_cell BK528.out 2).trans rfl; have hfz75_0 := blk_frozen BK528.out 0; have hfz75_1 := blk_frozen BK528.out 1; have hfz75_2 := blk_frozen BK528.out 2; have hnb76 := NB529_530.out; have hnc76 := NB530_529.out; have hcz77_0 : w72.cell? ⟨gb529, 0, none⟩ = some (.bool true) := (blk_cell BK529.out 0).trans rfl; have hcz77_1 : w72.cell? ⟨gb529, 1, none⟩ = some (.int .u64 a1_1) := (blk_cell BK529.out 1).trans rfl; have hcz77_2 : w72.cell? ⟨gb529, 2, none⟩ = some (.int .u64 a1_2) := (blk_cell BK529.out 2).trans rfl; have hfz77_0 := blk_frozen BK529.out 0; have hfz77_1 := blk_frozen BK529.out 1; have hfz77_2 := blk_frozen BK529.out 2) | ((with_reducible refine gate_callee (f := 77) rfl ?_); refine goesL_ (some 42) rfl rfl Try.func77 (by kernel_rfl) rfl #[.agg #[.bool false, .int .u64 a0_1, .int .u64 a0_2], .agg #[.bool true, .int .u64 a1_1, .int .u64 a1_2]] rfl (by (try simp only [List.map_toArray, List.map_cons, List.map_nil]); first | done | rfl | (simp only [List.length_drop, List.length_take]; rfl)) ?_; (with_reducible refine (bagatelleref01_less.calls false a0_1 a0_2 true a1_1 a1_2 true _ A55.out).mono ?_); rintro e w78 ⟨rfl, hb⟩; refine ⟨_, rfl, ?_⟩; have n0_ := Aside0.mk (blk_below (g := gb528) (o := .cells #[.bool false, .int .u64 a0_1, .int .u64 a0_2] 64 (0, 0)) (by (with_reducible repeat (first | refine blk_drewN ?_ _ | refine blk_drew ?_ | refine blk_alloc ?_ _)); exact BK528.out) hb); have n1_ := Aside0.mk (blk_below (g := gb529) (o := .cells #[.bool true, .int .u64 a1_1, .int .u64 a1_2] 64 (0, 0)) (by (with_reducible repeat (first | refine blk_drewN ?_ _ | refine blk_drew ?_ | refine blk_alloc ?_ _)); exact BK529.out) hb); have n2_ := Aside0.mk (blk_below (g := gb530) (o := .cells #[.bool false, .int .u64 0, .int .u64 0] 64 (0, 0)) (by (with_reducible repeat (first | refine blk_drewN ?_ _ | refine blk_drew ?_ | refine blk_alloc ?_ _)); exact BK530.out) hb); have n3_ := Aside0.mk (below_step (by repeat (first | (with_reducible first | exact HB.out | apply below_alloc | apply pw_below_drewN | apply below_drew1 | refine below_set ?_ GE528.out | refine below_set ?_ GE529.out | refine below_set ?_ GE530.out) | exact HB.out)) hb); clear BK528; clear BK529; clear BK530; clear HB; have BK528 := n0_; have BK529 := n1_; have BK530 := n2_; have HB := n3_; clear n0_ n1_ n2_ n3_; (try clear hb); (try clear hb2); (try clear hk); (try clear hi); have hcz79_0 : w78.cell? ⟨gb529, 0, none⟩ = some (.bool true) := (blk_cell BK529.out 0).trans rfl; have hcz79_1 : w78.cell? ⟨gb529, 1, none⟩ = some (.int .u64 a1_1) := (blk_cell BK529.out 1).trans rfl; have hcz79_2 : w78.cell? ⟨gb529, 2, none⟩ = some (.int .u64 a1_2) := (blk_cell BK529.out 2).trans rfl; have hfz79_0 := blk_frozen BK529.out 0; have hfz79_1 := blk_frozen BK529.out 1; have hfz79_2 := blk_frozen BK529.out 2; have hcz80_0 : w78.cell? ⟨gb528, 0, none⟩ = some (.bool false) := (blk_cell BK528.out 0).trans rfl; have hcz80_1 : w78.cell? ⟨gb528, 1, none⟩ = some (.int .u64 a0_1) := (blk_cell BK528.out 1).trans rfl; have hcz80_2 : w78.cell? ⟨gb528, 2, none⟩ = some (.int .u64 a0_2) := (blk_cell BK528.out 2).trans rfl; have hfz80_0 := blk_frozen BK528.out 0; have hfz80_1 := blk_frozen BK528.out 1; have hfz80_2 := blk_frozen BK528.out 2; have hcz81_0 : w78.cell? ⟨gb530, 0, none⟩ = some (.bool false) := (blk_cell BK530.out 0).trans rfl; have hcz81_1 : w78.cell? ⟨gb530, 1, none⟩ = some (.int .u64 0) := (blk_cell BK530.out 1).trans rfl; have hcz81_2 : w78.cell? ⟨gb530, 2, none⟩ = some (.int .u64 0) := (blk_cell BK530.out 2).trans rfl; have hfz81_0 := blk_frozen BK530.out 0; have hfz81_1 := blk_frozen BK530.out 1; have hfz81_2 := blk_frozen BK530.out 2))
          refine bodyPost_ret (results_cell_row rfl _ _ gb530 64 #[.bool true, .int .u64 (sub64s a1_1 a0_1 (sub64c a1_2 a0_2 0)), .int .u64 (sub64s a1_2 a0_2 0)] (0, 0) _ rfl (by (with_reducible repeat (first | refine blk_drewN ?_ _ | refine blk_drew ?_ | refine blk_alloc ?_ _)); refine blk_put (cs := #[.bool true, .int .u64 (sub64s a1_1 a0_1 (sub64c a1_2 a0_2 0)), .int .u64 0]) ?_ 2 _ rfl; (with_reducible repeat (first | refine blk_drewN ?_ _ | refine blk_drew ?_ | refine blk_alloc ?_ _)); refine blk_put (cs := #[.bool true, .int .u64 0, .int .u64 0]) ?_ 1 _ rfl; (with_reducible repeat (first | refine blk_drewN ?_ _ | refine blk_drew ?_ | refine blk_alloc ?_ _)); refine blk_put (cs := #[.bool false, .int .u64 0, .int .u64 0]) ?_ 0 _ rfl; (with_reducible repeat (first | refine blk_drewN ?_ _ | refine blk_drew ?_ | refine blk_alloc ?_ _)); refine blk_far ?_ NB530_529.out _; (with_reducible repeat (first | refine blk_drewN ?_ _ | refine blk_drew ?_ | refine blk_alloc ?_ _)); refine blk_far ?_ NB530_529.out _; (with_reducible repeat (first | refine blk_drewN ?_ _ | refine blk_drew ?_ | refine blk_alloc ?_ _)); refine blk_far ?_ NB530_529.out _; (with_reducible repeat (first | refine blk_drewN ?_ _ | refine blk_drew ?_ | refine blk_alloc ?_ _)); refine blk_far ?_ NB530_528.out _; (with_reducible repeat (first | refine blk_drewN ?_ _ | refine blk_drew ?_ | refine blk_alloc ?_ _)); refine blk_far ?_ NB530_528.out _; (with_reducible repeat (first | refine blk_drewN ?_ _ | refine blk_drew ?_ | refine blk_alloc ?_ _)); refine blk_far ?_ NB530_528.out _; (with_reducible repeat (first | refine blk_drewN ?_ _ | refine blk_drew ?_ | refine blk_alloc ?_ _)); exact BK530.out) Try.underlying64 rfl (by kernel_rfl)) rfl ?_
          exact ⟨by first | rfl | (simp [errW_none, errW_some] <;> rfl) | (simp [*, errW_none, errW_some] <;> rfl), by repeat (first | (with_reducible first | exact HB.out | apply below_alloc | apply pw_below_drewN | apply below_drew1 | refine below_set ?_ GE528.out | refine below_set ?_ GE529.out | refine below_set ?_ GE530.out) | exact HB.out)⟩
      · replace c56 := Bool.eq_false_iff.mpr c56
        subst c56
        have H1 : (some (false, sub64s a0_1 a1_1 (sub64c a0_2 a1_2 0), sub64s a0_2 a1_2 0)) = some (r1, r2, r3) := by rw [if_neg (show ¬ (false = true) by decide)] at H; exact H
        clear H
        have H := H1
        clear H1
        simp only [Option.some.injEq, Prod.mk.injEq] at H
        obtain ⟨rfl, rfl, rfl⟩ := H
        go_enter Try.func84, Try.ntmps84
        go_wp2_with (first | ((with_reducible refine gate_dst (N := 2) rfl ?_); refine box_event ?hg (N := 2) ?hd (cs := #[.bool false, .int .u64 a0_1, .int .u64 a0_2]) (t := 64) ?hr ?_; (case hd => rfl); (case hg => rfl); (case hr => first | (go_simp; done) | (go_simp; rfl)); intro gb528 hg w82 hbox hb; have n0_ := Aside0.mk (below_step (by repeat (first | (with_reducible first | exact HB.out | apply below_alloc | apply pw_below_drewN | apply below_drew1) | exact HB.out)) hb); have n1_ := Aside0.mk (hbox); have n2_ := Aside0.mk ((by rw [hg]; exact (below_size (by repeat (first | (with_reducible first | exact HB.out | apply below_alloc | apply pw_below_drewN | apply below_drew1) | exact HB.out))) : w.heap.size ≤ gb528)); have n3_ := Aside0.mk ((by rw [hg]; exact (below_size (by repeat (first | (with_reducible first | exact HB.out | apply below_alloc | apply pw_below_drewN | apply below_drew1) | exact HB.out))) : w.heap.size ≤ gb528)); clear HB; have HB := n0_; have BK528 := n1_; have GW528 := n2_; have GE528 := n3_; clear n0_ n1_ n2_ n3_; clear hb hbox hg) | ((with_reducible refine gate_dst (N := 3) rfl ?_); refine box_event ?hg (N := 3) ?hd (cs := #[.bool true, .int .u64 a1_1, .int .u64 a1_2]) (t := 64) ?hr ?_; (case hd => rfl); (case hg => rfl); (case hr => first | (go_simp; done) | (go_simp; rfl)); intro gb529 hg w83 hbox hb; have n0_ := Aside0.mk (blk_below (g := gb528) (o := .cells #[.bool false, .int .u64 a0_1, .int .u64 a0_2] 64 (0, 0)) (by (with_reducible repeat (first | refine blk_drewN ?_ _ | refine blk_drew ?_ | refine blk_alloc ?_ _)); exact BK528.out) hb); have n1_ := Aside0.mk (below_step (by repeat (first | (with_reducible first | exact HB.out | apply below_alloc | apply pw_below_drewN | apply below_drew1 | refine below_set ?_ GE528.out) | exact HB.out)) hb); have n2_ := Aside0.mk (hbox); have n3_ := Aside0.mk ((by rw [hg]; exact (below_size (by repeat (first | (with_reducible first | exact HB.out | apply below_alloc | apply pw_below_drewN | apply below_drew1 | refine below_set ?_ GE528.out) | exact HB.out))) : w.heap.size ≤ gb529)); have n4_ := Aside0.mk ((by rw [hg]; exact (below_size (by repeat (first | (with_reducible first | exact HB.out | apply below_alloc | apply pw_below_drewN | apply below_drew1 | refine below_set ?_ GE528.out) | exact HB.out))) : w.heap.size ≤ gb529)); have n5_ := Aside0.mk ((by rw [hg]; exact Nat.ne_of_lt (blk_lt (g := gb528) (o := .cells #[.bool false, .int .u64 a0_1, .int .u64 a0_2] 64 (0, 0)) (by (with_reducible repeat (first | refine blk_drewN ?_ _ | refine blk_drew ?_ | refine blk_alloc ?_ _)); exact BK528.out)) : gb528 ≠ gb529)); have n6_ := Aside0.mk ((by rw [hg]; exact Nat.ne_of_gt (blk_lt (g := gb528) (o := .cells #[.bool false, .int .u64 a0_1, .int .u64 a0_2] 64 (0, 0)) (by (with_reducible repeat (first | refine blk_drewN ?_ _ | refine blk_drew ?_ | refine blk_alloc ?_ _)); exact BK528.out)) : gb529 ≠ gb528)); clear BK528; clear HB; have BK528 := n0_; have HB := n1_; have BK529 := n2_; have GW529 := n3_; have GE529 := n4_; have NB528_529 := n5_; have NB529_528 := n6_; clear n0_ n1_ n2_ n3_ n4_ n5_ n6_; clear hb hbox hg) | ((with_reducible refine gate_dst (N := 4) rfl ?_); refine box_event ?hg (N := 4) ?hd (cs := #[.bool false, .int .u64 0, .int .u64 0]) (t := 64) ?hr ?_; (case hd => rfl); (case hg => rfl); (case hr => first | (go_simp; done) | (go_simp; rfl)); intro gb530 hg w84 hbox hb; have n0_ := Aside0.mk (blk_below (g := gb528) (o := .cells #[.bool false, .int .u64 a0_1, .int .u64 a0_2] 64 (0, 0)) (by (with_reducible repeat (first | refine blk_drewN ?_ _ | refine blk_drew ?_ | refine blk_alloc ?_ _)); exact BK528.out) hb); have n1_ := Aside0.mk (blk_below (g := gb529) (o := .cells #[.bool true, .int .u64 a1_1, .int .u64 a1_2] 64 (0, 0)) (by (with_reducible repeat (first | refine blk_drewN ?_ _ | refine blk_drew ?_ | refine blk_alloc ?_ _)); exact BK529.out) hb); have n2_ := Aside0.mk (below_step (by repeat (first | (with_reducible first | exact HB.out | apply below_alloc | apply pw_below_drewN | apply below_drew1 | refine below_set ?_ GE528.out | refine below_set ?_ GE529.out) | exact HB.out)) hb); have n3_ := Aside0.mk (hbox); have n4_ := Aside0.mk ((by rw [hg]; exact (below_size (by repeat (first | (with_reducible first | exact HB.out | apply below_alloc | apply pw_below_drewN | apply below_drew1 | refine below_set ?_ GE528.out | refine below_set ?_ GE529.out) | exact HB.out))) : w.heap.size ≤ gb530)); have n5_ := Aside0.mk ((by rw [hg]; exact (below_size (by repeat (first | (with_reducible first | exact HB.out | apply below_alloc | apply pw_below_drewN | apply below_drew1 | refine below_set ?_ GE528.out | refine below_set ?_ GE529.out) | exact HB.out))) : w.heap.size ≤ gb530)); have n6_ := Aside0.mk ((by rw [hg]; exact Nat.ne_of_lt (blk_lt (g := gb528) (o := .cells #[.bool false, .int .u64 a0_1, .int .u64 a0_2] 64 (0, 0)) (by (with_reducible repeat (first | refine blk_drewN ?_ _ | refine blk_drew ?_ | refine blk_alloc ?_ _)); exact BK528.out)) : gb528 ≠ gb530)); have n7_ := Aside0.mk ((by rw [hg]; exact Nat.ne_of_gt (blk_lt (g := gb528) (o := .cells #[.bool false, .int .u64 a0_1, .int .u64 a0_2] 64 (0, 0)) (by (with_reducible repeat (first | refine blk_drewN ?_ _ | refine blk_drew ?_ | refine blk_alloc ?_ _)); exact BK528.out)) : gb530 ≠ gb528)); have n8_ := Aside0.mk ((by rw [hg]; exact Nat.ne_of_lt (blk_lt (g := gb529) (o := .cells #[.bool true, .int .u64 a1_1, .int .u64 a1_2] 64 (0, 0)) (by (with_reducible repeat (first | refine blk_drewN ?_ _ | refine blk_drew ?_ | refine blk_alloc ?_ _)); exact BK529.out)) : gb529 ≠ gb530)); have n9_ := Aside0.mk ((by rw [hg]; exact Nat.ne_of_gt (blk_lt (g := gb529) (o := .cells #[.bool true, .int .u64 a1_1, .int .u64 a1_2] 64 (0, 0)) (by (with_reducible repeat (first | refine blk_drewN ?_ _ | refine blk_drew ?_ | refine blk_alloc ?_ _)); exact BK529.out)) : gb530 ≠ gb529)); clear BK528; clear BK529; clear HB; have BK528 := n0_; have BK529 := n1_; have HB := n2_; have BK530 := n3_; have GW530 := n4_; have GE530 := n5_; have NB528_530 := n6_; have NB530_528 := n7_; have NB529_530 := n8_; have NB530_529 := n9_; clear n0_ n1_ n2_ n3_ n4_ n5_ n6_ n7_ n8_ n9_; clear hb hbox hg; have hnb85 := NB528_529.out; have hnc85 := NB529_528.out; have hnb86 := NB528_530.out; have hnc86 := NB530_528.out; have hcz87_0 : w84.cell? ⟨gb528, 0, none⟩ = some (.bool false) := (blk_cell BK528.out 0).trans rfl; have hcz87_1 : w84.cell? ⟨gb528, 1, none⟩ = some (.int .u64 a0_1) := (blk_cell BK528.out 1).trans rfl; have hcz87_2 : w84.cell? ⟨gb528, 2, none⟩ = some (.int .u64 a0_2) := (blk_cell BK528.out 2).trans rfl; have hfz87_0 := blk_frozen BK528.out 0; have hfz87_1 := blk_frozen BK528.out 1; have hfz87_2 := blk_frozen BK528.out 2; have hnb88 := NB529_530.out; have hnc88 := NB530_529.out; have hcz89_0 : w84.cell? ⟨gb529, 0, none⟩ = some (.bool true) := (blk_cell BK529.out 0).trans rfl; have hcz89_1 : w84.cell? ⟨gb529, 1, none⟩ = some (.int .u64 a1_1) := (blk_cell BK529.out 1).trans rfl; have hcz89_2 : w84.cell? ⟨gb529, 2, none⟩ = some (.int .u64 a1_2) := (blk_cell BK529.out 2).trans rfl; have hfz89_0 := blk_frozen BK529.out 0; have hfz89_1 := blk_frozen BK529.out 1; have hfz89_2 := blk_frozen BK529.out 2) | ((with_reducible refine gate_callee (f := 77) rfl ?_); refine goesL_ (some 42) rfl rfl Try.func77 (by kernel_rfl) rfl #[.agg #[.bool false, .int .u64 a0_1, .int .u64 a0_2], .agg #[.bool true, .int .u64 a1_1, .int .u64 a1_2]] rfl (by (try simp only [List.map_toArray, List.map_cons, List.map_nil]); first | done | rfl | (simp only [List.length_drop, List.length_take]; rfl)) ?_; (with_reducible refine (bagatelleref01_less.calls false a0_1 a0_2 true a1_1 a1_2 false _ A55.out).mono ?_); rintro e w90 ⟨rfl, hb⟩; refine ⟨_, rfl, ?_⟩; have n0_ := Aside0.mk (blk_below (g := gb528) (o := .cells #[.bool false, .int .u64 a0_1, .int .u64 a0_2] 64 (0, 0)) (by (with_reducible repeat (first | refine blk_drewN ?_ _ | refine blk_drew ?_ | refine blk_alloc ?_ _)); exact BK528.out) hb); have n1_ := Aside0.mk (blk_below (g := gb529) (o := .cells #[.bool true, .int .u64 a1_1, .int .u64 a1_2] 64 (0, 0)) (by (with_reducible repeat (first | refine blk_drewN ?_ _ | refine blk_drew ?_ | refine blk_alloc ?_ _)); exact BK529.out) hb); have n2_ := Aside0.mk (blk_below (g := gb530) (o := .cells #[.bool false, .int .u64 0, .int .u64 0] 64 (0, 0)) (by (with_reducible repeat (first | refine blk_drewN ?_ _ | refine blk_drew ?_ | refine blk_alloc ?_ _)); exact BK530.out) hb); have n3_ := Aside0.mk (below_step (by repeat (first | (with_reducible first | exact HB.out | apply below_alloc | apply pw_below_drewN | apply below_drew1 | refine below_set ?_ GE528.out | refine below_set ?_ GE529.out | refine below_set ?_ GE530.out) | exact HB.out)) hb); clear BK528; clear BK529; clear BK530; clear HB; have BK528 := n0_; have BK529 := n1_; have BK530 := n2_; have HB := n3_; clear n0_ n1_ n2_ n3_; (try clear hb); (try clear hb2); (try clear hk); (try clear hi); have hcz91_0 : w90.cell? ⟨gb528, 0, none⟩ = some (.bool false) := (blk_cell BK528.out 0).trans rfl; have hcz91_1 : w90.cell? ⟨gb528, 1, none⟩ = some (.int .u64 a0_1) := (blk_cell BK528.out 1).trans rfl; have hcz91_2 : w90.cell? ⟨gb528, 2, none⟩ = some (.int .u64 a0_2) := (blk_cell BK528.out 2).trans rfl; have hfz91_0 := blk_frozen BK528.out 0; have hfz91_1 := blk_frozen BK528.out 1; have hfz91_2 := blk_frozen BK528.out 2; have hcz92_0 : w90.cell? ⟨gb529, 0, none⟩ = some (.bool true) := (blk_cell BK529.out 0).trans rfl; have hcz92_1 : w90.cell? ⟨gb529, 1, none⟩ = some (.int .u64 a1_1) := (blk_cell BK529.out 1).trans rfl; have hcz92_2 : w90.cell? ⟨gb529, 2, none⟩ = some (.int .u64 a1_2) := (blk_cell BK529.out 2).trans rfl; have hfz92_0 := blk_frozen BK529.out 0; have hfz92_1 := blk_frozen BK529.out 1; have hfz92_2 := blk_frozen BK529.out 2; have hcz93_0 : w90.cell? ⟨gb530, 0, none⟩ = some (.bool false) := (blk_cell BK530.out 0).trans rfl; have hcz93_1 : w90.cell? ⟨gb530, 1, none⟩ = some (.int .u64 0) := (blk_cell BK530.out 1).trans rfl; have hcz93_2 : w90.cell? ⟨gb530, 2, none⟩ = some (.int .u64 0) := (blk_cell BK530.out 2).trans rfl; have hfz93_0 := blk_frozen BK530.out 0; have hfz93_1 := blk_frozen BK530.out 1; have hfz93_2 := blk_frozen BK530.out 2))
        refine bodyPost_ret (results_cell_row rfl _ _ gb530 64 #[.bool false, .int .u64 (sub64s a0_1 a1_1 (sub64c a0_2 a1_2 0)), .int .u64 (sub64s a0_2 a1_2 0)] (0, 0) _ rfl (by (with_reducible repeat (first | refine blk_drewN ?_ _ | refine blk_drew ?_ | refine blk_alloc ?_ _)); refine blk_put (cs := #[.bool false, .int .u64 (sub64s a0_1 a1_1 (sub64c a0_2 a1_2 0)), .int .u64 0]) ?_ 2 _ rfl; (with_reducible repeat (first | refine blk_drewN ?_ _ | refine blk_drew ?_ | refine blk_alloc ?_ _)); refine blk_put (cs := #[.bool false, .int .u64 0, .int .u64 0]) ?_ 1 _ rfl; (with_reducible repeat (first | refine blk_drewN ?_ _ | refine blk_drew ?_ | refine blk_alloc ?_ _)); refine blk_put (cs := #[.bool false, .int .u64 0, .int .u64 0]) ?_ 0 _ rfl; (with_reducible repeat (first | refine blk_drewN ?_ _ | refine blk_drew ?_ | refine blk_alloc ?_ _)); exact BK530.out) Try.underlying64 rfl (by kernel_rfl)) rfl ?_
        exact ⟨by first | rfl | (simp [errW_none, errW_some] <;> rfl) | (simp [*, errW_none, errW_some] <;> rfl), by repeat (first | (with_reducible first | exact HB.out | apply below_alloc | apply pw_below_drewN | apply below_drew1 | refine below_set ?_ GE528.out | refine below_set ?_ GE529.out | refine below_set ?_ GE530.out) | exact HB.out)⟩
    · replace c54 := Bool.eq_false_iff.mpr c54
      subst c54
      have H1 : (if add64c a0_2 a1_2 0 ≤ 1 then (some (false, add64s a0_1 a1_1 (add64c a0_2 a1_2 0), add64s a0_2 a1_2 0)) else (none)) = some (r1, r2, r3) := by rw [if_neg (show ¬ (false = true) by decide)] at H; exact H
      clear H
      have H := H1
      clear H1
      by_cases c94 : add64c a0_2 a1_2 0 ≤ 1
      · rw [if_pos c94] at H
        have c94b0 := eq_true c94
        have c94b1 : decide (add64c a0_2 a1_2 0 ≤ 1) = true := decide_eq_true c94
        clear c94
        simp only [Option.some.injEq, Prod.mk.injEq] at H
        obtain ⟨rfl, rfl, rfl⟩ := H
        go_enter Try.func84, Try.ntmps84
        go_wp2_with (first | ((with_reducible refine gate_dst (N := 2) rfl ?_); refine box_event ?hg (N := 2) ?hd (cs := #[.bool false, .int .u64 a0_1, .int .u64 a0_2]) (t := 64) ?hr ?_; (case hd => rfl); (case hg => rfl); (case hr => first | (go_simp; done) | (go_simp; rfl)); intro gb532 hg w95 hbox hb; have n0_ := Aside0.mk (below_step (by repeat (first | (with_reducible first | exact HB.out | apply below_alloc | apply pw_below_drewN | apply below_drew1) | exact HB.out)) hb); have n1_ := Aside0.mk (hbox); have n2_ := Aside0.mk ((by rw [hg]; exact (below_size (by repeat (first | (with_reducible first | exact HB.out | apply below_alloc | apply pw_below_drewN | apply below_drew1) | exact HB.out))) : w.heap.size ≤ gb532)); have n3_ := Aside0.mk ((by rw [hg]; exact (below_size (by repeat (first | (with_reducible first | exact HB.out | apply below_alloc | apply pw_below_drewN | apply below_drew1) | exact HB.out))) : w.heap.size ≤ gb532)); clear HB; have HB := n0_; have BK532 := n1_; have GW532 := n2_; have GE532 := n3_; clear n0_ n1_ n2_ n3_; clear hb hbox hg) | ((with_reducible refine gate_dst (N := 3) rfl ?_); refine box_event ?hg (N := 3) ?hd (cs := #[.bool false, .int .u64 a1_1, .int .u64 a1_2]) (t := 64) ?hr ?_; (case hd => rfl); (case hg => rfl); (case hr => first | (go_simp; done) | (go_simp; rfl)); intro gb533 hg w96 hbox hb; have n0_ := Aside0.mk (blk_below (g := gb532) (o := .cells #[.bool false, .int .u64 a0_1, .int .u64 a0_2] 64 (0, 0)) (by (with_reducible repeat (first | refine blk_drewN ?_ _ | refine blk_drew ?_ | refine blk_alloc ?_ _)); exact BK532.out) hb); have n1_ := Aside0.mk (below_step (by repeat (first | (with_reducible first | exact HB.out | apply below_alloc | apply pw_below_drewN | apply below_drew1 | refine below_set ?_ GE532.out) | exact HB.out)) hb); have n2_ := Aside0.mk (hbox); have n3_ := Aside0.mk ((by rw [hg]; exact (below_size (by repeat (first | (with_reducible first | exact HB.out | apply below_alloc | apply pw_below_drewN | apply below_drew1 | refine below_set ?_ GE532.out) | exact HB.out))) : w.heap.size ≤ gb533)); have n4_ := Aside0.mk ((by rw [hg]; exact (below_size (by repeat (first | (with_reducible first | exact HB.out | apply below_alloc | apply pw_below_drewN | apply below_drew1 | refine below_set ?_ GE532.out) | exact HB.out))) : w.heap.size ≤ gb533)); have n5_ := Aside0.mk ((by rw [hg]; exact Nat.ne_of_lt (blk_lt (g := gb532) (o := .cells #[.bool false, .int .u64 a0_1, .int .u64 a0_2] 64 (0, 0)) (by (with_reducible repeat (first | refine blk_drewN ?_ _ | refine blk_drew ?_ | refine blk_alloc ?_ _)); exact BK532.out)) : gb532 ≠ gb533)); have n6_ := Aside0.mk ((by rw [hg]; exact Nat.ne_of_gt (blk_lt (g := gb532) (o := .cells #[.bool false, .int .u64 a0_1, .int .u64 a0_2] 64 (0, 0)) (by (with_reducible repeat (first | refine blk_drewN ?_ _ | refine blk_drew ?_ | refine blk_alloc ?_ _)); exact BK532.out)) : gb533 ≠ gb532)); clear BK532; clear HB; have BK532 := n0_; have HB := n1_; have BK533 := n2_; have GW533 := n3_; have GE533 := n4_; have NB532_533 := n5_; have NB533_532 := n6_; clear n0_ n1_ n2_ n3_ n4_ n5_ n6_; clear hb hbox hg) | ((with_reducible refine gate_dst (N := 4) rfl ?_); refine box_event ?hg (N := 4) ?hd (cs := #[.bool false, .int .u64 0, .int .u64 0]) (t := 64) ?hr ?_; (case hd => rfl); (case hg => rfl); (case hr => first | (go_simp; done) | (go_simp; rfl)); intro gb534 hg w97 hbox hb; have n0_ := Aside0.mk (blk_below (g := gb532) (o := .cells #[.bool false, .int .u64 a0_1, .int .u64 a0_2] 64 (0, 0)) (by (with_reducible repeat (first | refine blk_drewN ?_ _ | refine blk_drew ?_ | refine blk_alloc ?_ _)); exact BK532.out) hb); have n1_ := Aside0.mk (blk_below (g := gb533) (o := .cells #[.bool false, .int .u64 a1_1, .int .u64 a1_2] 64 (0, 0)) (by (with_reducible repeat (first | refine blk_drewN ?_ _ | refine blk_drew ?_ | refine blk_alloc ?_ _)); exact BK533.out) hb); have n2_ := Aside0.mk (below_step (by repeat (first | (with_reducible first | exact HB.out | apply below_alloc | apply pw_below_drewN | apply below_drew1 | refine below_set ?_ GE532.out | refine below_set ?_ GE533.out) | exact HB.out)) hb); have n3_ := Aside0.mk (hbox); have n4_ := Aside0.mk ((by rw [hg]; exact (below_size (by repeat (first | (with_reducible first | exact HB.out | apply below_alloc | apply pw_below_drewN | apply below_drew1 | refine below_set ?_ GE532.out | refine below_set ?_ GE533.out) | exact HB.out))) : w.heap.size ≤ gb534)); have n5_ := Aside0.mk ((by rw [hg]; exact (below_size (by repeat (first | (with_reducible first | exact HB.out | apply below_alloc | apply pw_below_drewN | apply below_drew1 | refine below_set ?_ GE532.out | refine below_set ?_ GE533.out) | exact HB.out))) : w.heap.size ≤ gb534)); have n6_ := Aside0.mk ((by rw [hg]; exact Nat.ne_of_lt (blk_lt (g := gb532) (o := .cells #[.bool false, .int .u64 a0_1, .int .u64 a0_2] 64 (0, 0)) (by (with_reducible repeat (first | refine blk_drewN ?_ _ | refine blk_drew ?_ | refine blk_alloc ?_ _)); exact BK532.out)) : gb532 ≠ gb534)); have n7_ := Aside0.mk ((by rw [hg]; exact Nat.ne_of_gt (blk_lt (g := gb532) (o := .cells #[.bool false, .int .u64 a0_1, .int .u64 a0_2] 64 (0, 0)) (by (with_reducible repeat (first | refine blk_drewN ?_ _ | refine blk_drew ?_ | refine blk_alloc ?_ _)); exact BK532.out)) : gb534 ≠ gb532)); have n8_ := Aside0.mk ((by rw [hg]; exact Nat.ne_of_lt (blk_lt (g := gb533) (o := .cells #[.bool false, .int .u64 a1_1, .int .u64 a1_2] 64 (0, 0)) (by (with_reducible repeat (first | refine blk_drewN ?_ _ | refine blk_drew ?_ | refine blk_alloc ?_ _)); exact BK533.out)) : gb533 ≠ gb534)); have n9_ := Aside0.mk ((by rw [hg]; exact Nat.ne_of_gt (blk_lt (g := gb533) (o := .cells #[.bool false, .int .u64 a1_1, .int .u64 a1_2] 64 (0, 0)) (by (with_reducible repeat (first | refine blk_drewN ?_ _ | refine blk_drew ?_ | refine blk_alloc ?_ _)); exact BK533.out)) : gb534 ≠ gb533)); clear BK532; clear BK533; clear HB; have BK532 := n0_; have BK533 := n1_; have HB := n2_; have BK534 := n3_; have GW534 := n4_; have GE534 := n5_; have NB532_534 := n6_; have NB534_532 := n7_; have NB533_534 := n8_; have NB534_533 := n9_; clear n0_ n1_ n2_ n3_ n4_ n5_ n6_ n7_ n8_ n9_; clear hb hbox hg; have hnb98 := NB532_533.out; have hnc98 := NB533_532.out; have hnb99 := NB532_534.out; have hnc99 := NB534_532.out; have hcz100_0 : w97.cell? ⟨gb532, 0, none⟩ = some (.bool false) := (blk_cell BK532.out 0).trans rfl; have hcz100_1 : w97.cell? ⟨gb532, 1, none⟩ = some (.int .u64 a0_1) := (blk_cell BK532.out 1).trans rfl; have hcz100_2 : w97.cell? ⟨gb532, 2, none⟩ = some (.int .u64 a0_2) := (blk_cell BK532.out 2).trans rfl; have hfz100_0 := blk_frozen BK532.out 0; have hfz100_1 := blk_frozen BK532.out 1; have hfz100_2 := blk_frozen BK532.out 2; have hnb101 := NB533_534.out; have hnc101 := NB534_533.out; have hcz102_0 : w97.cell? ⟨gb533, 0, none⟩ = some (.bool false) := (blk_cell BK533.out 0).trans rfl; have hcz102_1 : w97.cell? ⟨gb533, 1, none⟩ = some (.int .u64 a1_1) := (blk_cell BK533.out 1).trans rfl; have hcz102_2 : w97.cell? ⟨gb533, 2, none⟩ = some (.int .u64 a1_2) := (blk_cell BK533.out 2).trans rfl; have hfz102_0 := blk_frozen BK533.out 0; have hfz102_1 := blk_frozen BK533.out 1; have hfz102_2 := blk_frozen BK533.out 2; have hcz103_0 : w97.cell? ⟨gb534, 0, none⟩ = some (.bool false) := (blk_cell BK534.out 0).trans rfl; have hcz103_1 : w97.cell? ⟨gb534, 1, none⟩ = some (.int .u64 0) := (blk_cell BK534.out 1).trans rfl; have hcz103_2 : w97.cell? ⟨gb534, 2, none⟩ = some (.int .u64 0) := (blk_cell BK534.out 2).trans rfl; have hfz103_0 := blk_frozen BK534.out 0; have hfz103_1 := blk_frozen BK534.out 1; have hfz103_2 := blk_frozen BK534.out 2))
        refine bodyPost_ret (results_cell_row rfl _ _ gb534 64 #[.bool false, .int .u64 (add64s a0_1 a1_1 (add64c a0_2 a1_2 0)), .int .u64 (add64s a0_2 a1_2 0)] (0, 0) _ rfl (by (with_reducible repeat (first | refine blk_drewN ?_ _ | refine blk_drew ?_ | refine blk_alloc ?_ _)); refine blk_put (cs := #[.bool false, .int .u64 (add64s a0_1 a1_1 (add64c a0_2 a1_2 0)), .int .u64 0]) ?_ 2 _ rfl; (with_reducible repeat (first | refine blk_drewN ?_ _ | refine blk_drew ?_ | refine blk_alloc ?_ _)); refine blk_put (cs := #[.bool false, .int .u64 0, .int .u64 0]) ?_ 1 _ rfl; (with_reducible repeat (first | refine blk_drewN ?_ _ | refine blk_drew ?_ | refine blk_alloc ?_ _)); refine blk_put (cs := #[.bool false, .int .u64 0, .int .u64 0]) ?_ 0 _ rfl; (with_reducible repeat (first | refine blk_drewN ?_ _ | refine blk_drew ?_ | refine blk_alloc ?_ _)); exact BK534.out) Try.underlying64 rfl (by kernel_rfl)) rfl ?_
        exact ⟨by first | rfl | (simp [errW_none, errW_some] <;> rfl) | (simp [*, errW_none, errW_some] <;> rfl), by repeat (first | (with_reducible first | exact HB.out | apply below_alloc | apply pw_below_drewN | apply below_drew1 | refine below_set ?_ GE532.out | refine below_set ?_ GE533.out | refine below_set ?_ GE534.out) | exact HB.out)⟩
      · rw [if_neg c94] at H
        exact absurd H (by simp)
end Go.Proofs.Ytenpiaafkmfjfaa.B

end
section
namespace Go.Proofs.Ytenpiaafkmfjfaa.B
open Go.RowKit Go.Proofs.YtenpiaafkmfjfaaW.PrintWords Go.Proofs.YtenpiaafkmfjfaaW.PrintLast Go.Proofs.YtenpiaafkmfjfaaW.PrintMore
attribute [local go_sem] max2_int min2_int max_two min_two max_three min_three max_four min_four
set_option linter.unusedVariables false
set_option linter.unusedSimpArgs false
def bagatelleref01_down.f (a0_0 : Bool) (a0_1 : Int) (a0_2 : Int) : Option (Bool × Int × Int) := some (a0_0, a0_1 / 4294967296, Go.bits .or .u64 (IntKind.u64.wrap (a0_1 * 4294967296)) (a0_2 / 4294967296))
set_option maxHeartbeats 8000000 in
set_option maxRecDepth 100000 in
theorem bagatelleref01_down.calls (a0_0 : Bool) (a0_1 : Int) (a0_2 : Int) (r1 : Bool) (r2 : Int) (r3 : Int) (w : World) (h : bagatelleref01_down.f a0_0 a0_1 a0_2 = some (r1, r2, r3)) :
    Calls Try.prog 99 #[.agg #[.bool a0_0, .int .u64 a0_1, .int .u64 a0_2]] w fun e w' => e = .returned (.agg #[.bool r1, .int .u64 r2, .int .u64 r3]) ∧ Below w.heap.size w w' := by
  have hu64 := Try.underlying64
  have HB := Aside0.mk (Below.refl w.heap.size w)
  have H : (some (a0_0, a0_1 / 4294967296, Go.bits .or .u64 (IntKind.u64.wrap (a0_1 * 4294967296)) (a0_2 / 4294967296))) = some (r1, r2, r3) := h
  clear h
  simp only [Option.some.injEq, Prod.mk.injEq] at H
  obtain ⟨rfl, rfl, rfl⟩ := H
  go_enter Try.func99, Try.ntmps99
  go_wp2_with (first | ((with_reducible refine gate_dst (N := 1) rfl ?_); refine box_event ?hg (N := 1) ?hd (cs := #[.bool a0_0, .int .u64 a0_1, .int .u64 a0_2]) (t := 64) ?hr ?_; (case hd => rfl); (case hg => rfl); (case hr => first | (go_simp; done) | (go_simp; rfl)); intro gb567 hg w2 hbox hb; have n0_ := Aside0.mk (below_step (by repeat (first | (with_reducible first | exact HB.out | apply below_alloc | apply pw_below_drewN | apply below_drew1) | exact HB.out)) hb); have n1_ := Aside0.mk (hbox); have n2_ := Aside0.mk ((by rw [hg]; exact (below_size (by repeat (first | (with_reducible first | exact HB.out | apply below_alloc | apply pw_below_drewN | apply below_drew1) | exact HB.out))) : w.heap.size ≤ gb567)); have n3_ := Aside0.mk ((by rw [hg]; exact (below_size (by repeat (first | (with_reducible first | exact HB.out | apply below_alloc | apply pw_below_drewN | apply below_drew1) | exact HB.out))) : w.heap.size ≤ gb567)); clear HB; have HB := n0_; have BK567 := n1_; have GW567 := n2_; have GE567 := n3_; clear n0_ n1_ n2_ n3_; clear hb hbox hg) | ((with_reducible refine gate_dst (N := 2) rfl ?_); refine box_event ?hg (N := 2) ?hd (cs := #[.bool false, .int .u64 0, .int .u64 0]) (t := 64) ?hr ?_; (case hd => rfl); (case hg => rfl); (case hr => first | (go_simp; done) | (go_simp; rfl)); intro gb568 hg w3 hbox hb; have n0_ := Aside0.mk (blk_below (g := gb567) (o := .cells #[.bool a0_0, .int .u64 a0_1, .int .u64 a0_2] 64 (0, 0)) (by (with_reducible repeat (first | refine blk_drewN ?_ _ | refine blk_drew ?_ | refine blk_alloc ?_ _)); exact BK567.out) hb); have n1_ := Aside0.mk (below_step (by repeat (first | (with_reducible first | exact HB.out | apply below_alloc | apply pw_below_drewN | apply below_drew1 | refine below_set ?_ GE567.out) | exact HB.out)) hb); have n2_ := Aside0.mk (hbox); have n3_ := Aside0.mk ((by rw [hg]; exact (below_size (by repeat (first | (with_reducible first | exact HB.out | apply below_alloc | apply pw_below_drewN | apply below_drew1 | refine below_set ?_ GE567.out) | exact HB.out))) : w.heap.size ≤ gb568)); have n4_ := Aside0.mk ((by rw [hg]; exact (below_size (by repeat (first | (with_reducible first | exact HB.out | apply below_alloc | apply pw_below_drewN | apply below_drew1 | refine below_set ?_ GE567.out) | exact HB.out))) : w.heap.size ≤ gb568)); have n5_ := Aside0.mk ((by rw [hg]; exact Nat.ne_of_lt (blk_lt (g := gb567) (o := .cells #[.bool a0_0, .int .u64 a0_1, .int .u64 a0_2] 64 (0, 0)) (by (with_reducible repeat (first | refine blk_drewN ?_ _ | refine blk_drew ?_ | refine blk_alloc ?_ _)); exact BK567.out)) : gb567 ≠ gb568)); have n6_ := Aside0.mk ((by rw [hg]; exact Nat.ne_of_gt (blk_lt (g := gb567) (o := .cells #[.bool a0_0, .int .u64 a0_1, .int .u64 a0_2] 64 (0, 0)) (by (with_reducible repeat (first | refine blk_drewN ?_ _ | refine blk_drew ?_ | refine blk_alloc ?_ _)); exact BK567.out)) : gb568 ≠ gb567)); clear BK567; clear HB; have BK567 := n0_; have HB := n1_; have BK568 := n2_; have GW568 := n3_; have GE568 := n4_; have NB567_568 := n5_; have NB568_567 := n6_; clear n0_ n1_ n2_ n3_ n4_ n5_ n6_; clear hb hbox hg; have hnb4 := NB567_568.out; have hnc4 := NB568_567.out; have hcz5_0 : w3.cell? ⟨gb567, 0, none⟩ = some (.bool a0_0) := (blk_cell BK567.out 0).trans rfl; have hcz5_1 : w3.cell? ⟨gb567, 1, none⟩ = some (.int .u64 a0_1) := (blk_cell BK567.out 1).trans rfl; have hcz5_2 : w3.cell? ⟨gb567, 2, none⟩ = some (.int .u64 a0_2) := (blk_cell BK567.out 2).trans rfl; have hfz5_0 := blk_frozen BK567.out 0; have hfz5_1 := blk_frozen BK567.out 1; have hfz5_2 := blk_frozen BK567.out 2; have hcz6_0 : w3.cell? ⟨gb568, 0, none⟩ = some (.bool false) := (blk_cell BK568.out 0).trans rfl; have hcz6_1 : w3.cell? ⟨gb568, 1, none⟩ = some (.int .u64 0) := (blk_cell BK568.out 1).trans rfl; have hcz6_2 : w3.cell? ⟨gb568, 2, none⟩ = some (.int .u64 0) := (blk_cell BK568.out 2).trans rfl; have hfz6_0 := blk_frozen BK568.out 0; have hfz6_1 := blk_frozen BK568.out 1; have hfz6_2 := blk_frozen BK568.out 2))
  refine bodyPost_ret (results_cell_row rfl _ _ gb568 64 #[.bool a0_0, .int .u64 (a0_1 / 4294967296), .int .u64 (Go.bits .or .u64 (IntKind.u64.wrap (a0_1 * 4294967296)) (a0_2 / 4294967296))] (0, 0) _ rfl (by (with_reducible repeat (first | refine blk_drewN ?_ _ | refine blk_drew ?_ | refine blk_alloc ?_ _)); refine blk_put (cs := #[.bool a0_0, .int .u64 (a0_1 / 4294967296), .int .u64 0]) ?_ 2 _ rfl; (with_reducible repeat (first | refine blk_drewN ?_ _ | refine blk_drew ?_ | refine blk_alloc ?_ _)); refine blk_put (cs := #[.bool a0_0, .int .u64 0, .int .u64 0]) ?_ 1 _ rfl; (with_reducible repeat (first | refine blk_drewN ?_ _ | refine blk_drew ?_ | refine blk_alloc ?_ _)); refine blk_put (cs := #[.bool false, .int .u64 0, .int .u64 0]) ?_ 0 _ rfl; (with_reducible repeat (first | refine blk_drewN ?_ _ | refine blk_drew ?_ | refine blk_alloc ?_ _)); exact BK568.out) Try.underlying64 rfl (by kernel_rfl)) rfl ?_
  exact ⟨by first | rfl | (simp [errW_none, errW_some] <;> rfl) | (simp [*, errW_none, errW_some] <;> rfl), by repeat (first | (with_reducible first | exact HB.out | apply below_alloc | apply pw_below_drewN | apply below_drew1 | refine below_set ?_ GE567.out | refine below_set ?_ GE568.out) | exact HB.out)⟩
def bagatelleref01_root.l0 : Nat → Int → Int → Bool → Int → Int → Option (Bool × Int × Int)
  | 0, _, _, _, _, _ => none
  | k + 1, x3, x4, x599000, x599001, x599002 => if x4 ≥ 0 then (if 0 ≤ (IntKind.u64.wrap (x4)) then ((bits_Mul64.f (Go.bits .or .u64 x3 (shl .u64 1 (IntKind.u64.wrap (x4)))) (Go.bits .or .u64 x3 (shl .u64 1 (IntKind.u64.wrap (x4))))).bind fun bt600 => ((bagatelleref01_less.f x599000 x599001 x599002 false bt600.1 bt600.2).bind fun t602 => (if t602 = true then (bagatelleref01_root.l0 k x3 (wrap64 (x4 - 1)) x599000 x599001 x599002) else (bagatelleref01_root.l0 k (Go.bits .or .u64 x3 (shl .u64 1 (IntKind.u64.wrap (x4)))) (wrap64 (x4 - 1)) x599000 x599001 x599002)))) else (none)) else (some (false, 0, x3))
def bagatelleref01_root.f (k : Nat) (a0_0 : Bool) (a0_1 : Int) (a0_2 : Int) : Option (Bool × Int × Int) := bagatelleref01_root.l0 k 0 63 a0_0 a0_1 a0_2
set_option maxHeartbeats 8000000 in
set_option maxRecDepth 100000 in
theorem bagatelleref01_root.calls (k : Nat) (a0_0 : Bool) (a0_1 : Int) (a0_2 : Int) (r1 : Bool) (r2 : Int) (r3 : Int) (w : World) (h : bagatelleref01_root.f k a0_0 a0_1 a0_2 = some (r1, r2, r3)) :
    Calls Try.prog 100 #[.agg #[.bool a0_0, .int .u64 a0_1, .int .u64 a0_2]] w fun e w' => e = .returned (.agg #[.bool r1, .int .u64 r2, .int .u64 r3]) ∧ Below w.heap.size w w' := by
  have hu64 := Try.underlying64
  have HB := Aside0.mk (Below.refl w.heap.size w)
  have H : (bagatelleref01_root.l0 k 0 63 a0_0 a0_1 a0_2) = some (r1, r2, r3) := h
  clear h
  have H' := Aside0.mk H
  clear H
  go_enter Try.func100, Try.ntmps100
  go_wp2_with (first | ((with_reducible refine gate_dst (N := 1) rfl ?_); refine box_event ?hg (N := 1) ?hd (cs := #[.bool a0_0, .int .u64 a0_1, .int .u64 a0_2]) (t := 64) ?hr ?_; (case hd => rfl); (case hg => rfl); (case hr => first | (go_simp; done) | (go_simp; rfl)); intro gb598 hg w2 hbox hb; have n0_ := Aside0.mk (below_step (by repeat (first | (with_reducible first | exact HB.out | apply below_alloc | apply pw_below_drewN | apply below_drew1) | exact HB.out)) hb); have n1_ := Aside0.mk (hbox); have n2_ := Aside0.mk ((by rw [hg]; exact (below_size (by repeat (first | (with_reducible first | exact HB.out | apply below_alloc | apply pw_below_drewN | apply below_drew1) | exact HB.out))) : w.heap.size ≤ gb598)); have n3_ := Aside0.mk ((by rw [hg]; exact (below_size (by repeat (first | (with_reducible first | exact HB.out | apply below_alloc | apply pw_below_drewN | apply below_drew1) | exact HB.out))) : w.heap.size ≤ gb598)); clear HB; have HB := n0_; have BK598 := n1_; have GW598 := n2_; have GE598 := n3_; clear n0_ n1_ n2_ n3_; clear hb hbox hg) | ((with_reducible refine gate_dst (N := 2) rfl ?_); refine box_event ?hg (N := 2) ?hd (cs := #[.bool false, .int .u64 0, .int .u64 0]) (t := 64) ?hr ?_; (case hd => rfl); (case hg => rfl); (case hr => first | (go_simp; done) | (go_simp; rfl)); intro gb599 hg w3 hbox hb; have n0_ := Aside0.mk (blk_below (g := gb598) (o := .cells #[.bool a0_0, .int .u64 a0_1, .int .u64 a0_2] 64 (0, 0)) (by (with_reducible repeat (first | refine blk_drewN ?_ _ | refine blk_drew ?_ | refine blk_alloc ?_ _)); exact BK598.out) hb); have n1_ := Aside0.mk (below_step (by repeat (first | (with_reducible first | exact HB.out | apply below_alloc | apply pw_below_drewN | apply below_drew1 | refine below_set ?_ GE598.out) | exact HB.out)) hb); have n2_ := Aside0.mk (hbox); have n3_ := Aside0.mk ((by rw [hg]; exact (below_size (by repeat (first | (with_reducible first | exact HB.out | apply below_alloc | apply pw_below_drewN | apply below_drew1 | refine below_set ?_ GE598.out) | exact HB.out))) : w.heap.size ≤ gb599)); have n4_ := Aside0.mk ((by rw [hg]; exact (below_size (by repeat (first | (with_reducible first | exact HB.out | apply below_alloc | apply pw_below_drewN | apply below_drew1 | refine below_set ?_ GE598.out) | exact HB.out))) : w.heap.size ≤ gb599)); have n5_ := Aside0.mk ((by rw [hg]; exact Nat.ne_of_lt (blk_lt (g := gb598) (o := .cells #[.bool a0_0, .int .u64 a0_1, .int .u64 a0_2] 64 (0, 0)) (by (with_reducible repeat (first | refine blk_drewN ?_ _ | refine blk_drew ?_ | refine blk_alloc ?_ _)); exact BK598.out)) : gb598 ≠ gb599)); have n6_ := Aside0.mk ((by rw [hg]; exact Nat.ne_of_gt (blk_lt (g := gb598) (o := .cells #[.bool a0_0, .int .u64 a0_1, .int .u64 a0_2] 64 (0, 0)) (by (with_reducible repeat (first | refine blk_drewN ?_ _ | refine blk_drew ?_ | refine blk_alloc ?_ _)); exact BK598.out)) : gb599 ≠ gb598)); clear BK598; clear HB; have BK598 := n0_; have HB := n1_; have BK599 := n2_; have GW599 := n3_; have GE599 := n4_; have NB598_599 := n5_; have NB599_598 := n6_; clear n0_ n1_ n2_ n3_ n4_ n5_ n6_; clear hb hbox hg))
  go_loopg [3, 4] k (fun kq v3 v4 w' => ∃ (x3_1 : Int) (x4_1 : Int), v3 = .int .u64 x3_1 ∧ v4 = .int .i64 x4_1 ∧ Aside0 (bagatelleref01_root.l0 kq x3_1 x4_1 a0_0 a0_1 a0_2 = some (r1, r2, r3)) ∧ Aside0 (kq ≤ k) ∧ Aside0 (w'.heap[gb598]? = some (.cells #[.bool a0_0, .int .u64 a0_1, .int .u64 a0_2] 64 (0, 0))) ∧ Aside0 (w'.heap[gb599]? = some (.cells #[.bool false, .int .u64 0, .int .u64 0] 64 (0, 0))) ∧ Aside0 (Below w.heap.size w w'))
  case atStart => exact ⟨(0), (63), (by first | rfl | (simp; done) | (simp [*]; done)), (by first | rfl | (simp; done) | (simp [*]; done)), H', ⟨Nat.le_refl _⟩, ⟨by (with_reducible repeat (first | refine blk_drewN ?_ _ | refine blk_drew ?_ | refine blk_alloc ?_ _)); exact BK598.out⟩, ⟨by (with_reducible repeat (first | refine blk_drewN ?_ _ | refine blk_drew ?_ | refine blk_alloc ?_ _)); exact BK599.out⟩, ⟨by repeat (first | (with_reducible first | exact HB.out | apply below_alloc | apply pw_below_drewN | apply below_drew1 | refine below_set ?_ GE598.out | refine below_set ?_ GE599.out) | exact HB.out)⟩⟩
  case round =>
    clear H'
    try clear c1
    try clear p2
    obtain ⟨x3_1, x4_1, rfl, rfl, HA, HK1, BK598, BK599, HB⟩ := hrel
    cases gk with
    | zero => exact absurd HA.out (by simp [bagatelleref01_root.l0])
    | succ k1 =>
      have H := HA.out
      clear HA
      simp only [bagatelleref01_root.l0] at H
      by_cases c4 : x4_1 ≥ 0
      · rw [if_pos c4] at H
        have c4b0 : decide (0 ≤ x4_1) = true := decide_eq_true c4
        clear c4
        obtain ⟨ji5, hji5⟩ : ∃ j_ : Int, (IntKind.u64.wrap (x4_1)) = j_ := ⟨_, rfl⟩
        replace H : (if 0 ≤ (ji5) then ((bits_Mul64.f (Go.bits .or .u64 x3_1 (shl .u64 1 (ji5))) (Go.bits .or .u64 x3_1 (shl .u64 1 (ji5)))).bind fun bt600 => ((bagatelleref01_less.f a0_0 a0_1 a0_2 false bt600.1 bt600.2).bind fun t602 => (if t602 = true then (bagatelleref01_root.l0 k1 x3_1 (wrap64 (x4_1 - 1)) a0_0 a0_1 a0_2) else (bagatelleref01_root.l0 k1 (Go.bits .or .u64 x3_1 (shl .u64 1 (ji5))) (wrap64 (x4_1 - 1)) a0_0 a0_1 a0_2)))) else (none)) = some (r1, r2, r3) := by first | (rw [hji5] at H; exact H) | (simp only [hji5] at H ⊢; exact H)
        by_cases c6 : 0 ≤ (ji5)
        · rw [if_pos c6] at H
          have c6b0 := eq_true c6
          have c6b1 : decide (0 ≤ (ji5)) = true := decide_eq_true c6
          clear c6
          obtain ⟨ji7, hji7⟩ : ∃ j_ : Int, (shl .u64 1 (ji5)) = j_ := ⟨_, rfl⟩
          replace H : ((bits_Mul64.f (Go.bits .or .u64 x3_1 (ji7)) (Go.bits .or .u64 x3_1 (ji7))).bind fun bt600 => ((bagatelleref01_less.f a0_0 a0_1 a0_2 false bt600.1 bt600.2).bind fun t602 => (if t602 = true then (bagatelleref01_root.l0 k1 x3_1 (wrap64 (x4_1 - 1)) a0_0 a0_1 a0_2) else (bagatelleref01_root.l0 k1 (Go.bits .or .u64 x3_1 (ji7)) (wrap64 (x4_1 - 1)) a0_0 a0_1 a0_2)))) = some (r1, r2, r3) := by first | (rw [hji7] at H; exact H) | (simp only [hji7] at H ⊢; exact H)
          have hji7_ : (IntKind.u64.wrap (1 * 2 ^ min (ji5).toNat 64)) = ji7 := hji7
          have hji7z : (ji5) ≤ 64 → (IntKind.u64.wrap (1 * 2 ^ (ji5).toNat)) = ji7 := shl_small hji7
          have hji7u : (IntKind.u64.wrap (2 ^ min (ji5).toNat 64)) = ji7 := by have h_ := hji7_; rw [Int.one_mul] at h_; exact h_
          have hji7v : (ji5) ≤ 64 → (IntKind.u64.wrap (2 ^ (ji5).toNat)) = ji7 := fun hle_ => by have h_ := hji7z hle_; rw [Int.one_mul] at h_; exact h_
          replace H := Option.bind_eq_some_iff.mp H
          obtain ⟨⟨t600, t601⟩, A80, H⟩ := H
          replace H : ((bagatelleref01_less.f a0_0 a0_1 a0_2 false t600 t601).bind fun t602 => (if t602 = true then (bagatelleref01_root.l0 k1 x3_1 (wrap64 (x4_1 - 1)) a0_0 a0_1 a0_2) else (bagatelleref01_root.l0 k1 (Go.bits .or .u64 x3_1 (ji7)) (wrap64 (x4_1 - 1)) a0_0 a0_1 a0_2))) = some (r1, r2, r3) := H
          have A8 := Aside0.mk A80
          clear A80
          replace H := Option.bind_eq_some_iff.mp H
          obtain ⟨t602, A90, H⟩ := H
          replace H : (if t602 = true then (bagatelleref01_root.l0 k1 x3_1 (wrap64 (x4_1 - 1)) a0_0 a0_1 a0_2) else (bagatelleref01_root.l0 k1 (Go.bits .or .u64 x3_1 (ji7)) (wrap64 (x4_1 - 1)) a0_0 a0_1 a0_2)) = some (r1, r2, r3) := H
          have A9 := Aside0.mk A90
          clear A90
          by_cases c10 : t602 = true
          · subst c10
            have H1 : (bagatelleref01_root.l0 k1 x3_1 (wrap64 (x4_1 - 1)) a0_0 a0_1 a0_2) = some (r1, r2, r3) := by rw [if_pos rfl] at H; exact H
            clear H
            have H := H1
            clear H1
            have H' := Aside0.mk H
            clear H
            go_wp2_with (first | ((with_reducible refine gate_callee (f := 107) rfl ?_); refine goesL_ (some 20) rfl rfl Try.func107 (by kernel_rfl) rfl #[.int .u64 (Go.bits .or .u64 x3_1 (ji7)), .int .u64 (Go.bits .or .u64 x3_1 (ji7))] rfl (by (try simp only [List.map_toArray, List.map_cons, List.map_nil]); first | done | (simp only [hji7]; rfl) | rfl | (simp only [List.length_drop, List.length_take]; rfl)) ?_; (with_reducible refine (bits_Mul64.calls (Go.bits .or .u64 x3_1 (ji7)) (Go.bits .or .u64 x3_1 (ji7)) t600 t601 _ A8.out).mono ?_); rintro e w' ⟨rfl, ⟨nd, rfl⟩⟩; refine ⟨_, rfl, ?_⟩; have hnb11 := NB598_599.out; have hnc11 := NB599_598.out; have hcz12_0 : wr.cell? ⟨gb598, 0, none⟩ = some (.bool a0_0) := (blk_cell BK598.out 0).trans rfl; have hcz12_1 : wr.cell? ⟨gb598, 1, none⟩ = some (.int .u64 a0_1) := (blk_cell BK598.out 1).trans rfl; have hcz12_2 : wr.cell? ⟨gb598, 2, none⟩ = some (.int .u64 a0_2) := (blk_cell BK598.out 2).trans rfl; have hfz12_0 := blk_frozen BK598.out 0; have hfz12_1 := blk_frozen BK598.out 1; have hfz12_2 := blk_frozen BK598.out 2) | ((with_reducible refine gate_callee (f := 77) rfl ?_); refine goesL_ (some 27) rfl rfl Try.func77 (by kernel_rfl) rfl #[.agg #[.bool a0_0, .int .u64 a0_1, .int .u64 a0_2], .agg #[.bool false, .int .u64 t600, .int .u64 t601]] rfl (by (try simp only [List.map_toArray, List.map_cons, List.map_nil]); first | done | rfl | (simp only [List.length_drop, List.length_take]; rfl)) ?_; (with_reducible refine (bagatelleref01_less.calls a0_0 a0_1 a0_2 false t600 t601 true _ A9.out).mono ?_); rintro e w13 ⟨rfl, hb⟩; refine ⟨_, rfl, ?_⟩; have n0_ := Aside0.mk (blk_below (g := gb598) (o := .cells #[.bool a0_0, .int .u64 a0_1, .int .u64 a0_2] 64 (0, 0)) (by (with_reducible repeat (first | refine blk_drewN ?_ _ | refine blk_drew ?_ | refine blk_alloc ?_ _)); exact BK598.out) hb); have n1_ := Aside0.mk (blk_below (g := gb599) (o := .cells #[.bool false, .int .u64 0, .int .u64 0] 64 (0, 0)) (by (with_reducible repeat (first | refine blk_drewN ?_ _ | refine blk_drew ?_ | refine blk_alloc ?_ _)); exact BK599.out) hb); have n2_ := Aside0.mk (below_step (by repeat (first | (with_reducible first | exact HB.out | apply below_alloc | apply pw_below_drewN | apply below_drew1 | refine below_set ?_ GE598.out | refine below_set ?_ GE599.out) | exact HB.out)) hb); clear BK598; clear BK599; clear HB; have BK598 := n0_; have BK599 := n1_; have HB := n2_; clear n0_ n1_ n2_; (try clear hb); (try clear hb2); (try clear hk); (try clear hi)))
            go_roundg k1
            case measure => have := HK1.out; omega
            case rel => exact ⟨(x3_1), (wrap64 (x4_1 - 1)), (by first | rfl | (simp; done) | (simp [*]; done)), (by first | rfl | (simp; done) | (simp [*]; done)), H', ⟨by have := HK1.out; omega⟩, ⟨by (with_reducible repeat (first | refine blk_drewN ?_ _ | refine blk_drew ?_ | refine blk_alloc ?_ _)); exact BK598.out⟩, ⟨by (with_reducible repeat (first | refine blk_drewN ?_ _ | refine blk_drew ?_ | refine blk_alloc ?_ _)); exact BK599.out⟩, ⟨by repeat (first | (with_reducible first | exact HB.out | apply below_alloc | apply pw_below_drewN | apply below_drew1 | refine below_set ?_ GE598.out | refine below_set ?_ GE599.out) | exact HB.out)⟩⟩
          · replace c10 := Bool.eq_false_iff.mpr c10
            subst c10
            have H1 : (bagatelleref01_root.l0 k1 (Go.bits .or .u64 x3_1 (ji7)) (wrap64 (x4_1 - 1)) a0_0 a0_1 a0_2) = some (r1, r2, r3) := by rw [if_neg (show ¬ (false = true) by decide)] at H; exact H
            clear H
            have H := H1
            clear H1
            have H' := Aside0.mk H
            clear H
            go_wp2_with (first | ((with_reducible refine gate_callee (f := 107) rfl ?_); refine goesL_ (some 20) rfl rfl Try.func107 (by kernel_rfl) rfl #[.int .u64 (Go.bits .or .u64 x3_1 (ji7)), .int .u64 (Go.bits .or .u64 x3_1 (ji7))] rfl (by (try simp only [List.map_toArray, List.map_cons, List.map_nil]); first | done | (simp only [hji7]; rfl) | rfl | (simp only [List.length_drop, List.length_take]; rfl)) ?_; (with_reducible refine (bits_Mul64.calls (Go.bits .or .u64 x3_1 (ji7)) (Go.bits .or .u64 x3_1 (ji7)) t600 t601 _ A8.out).mono ?_); rintro e w' ⟨rfl, ⟨nd, rfl⟩⟩; refine ⟨_, rfl, ?_⟩; have hnb14 := NB598_599.out; have hnc14 := NB599_598.out; have hcz15_0 : wr.cell? ⟨gb598, 0, none⟩ = some (.bool a0_0) := (blk_cell BK598.out 0).trans rfl; have hcz15_1 : wr.cell? ⟨gb598, 1, none⟩ = some (.int .u64 a0_1) := (blk_cell BK598.out 1).trans rfl; have hcz15_2 : wr.cell? ⟨gb598, 2, none⟩ = some (.int .u64 a0_2) := (blk_cell BK598.out 2).trans rfl; have hfz15_0 := blk_frozen BK598.out 0; have hfz15_1 := blk_frozen BK598.out 1; have hfz15_2 := blk_frozen BK598.out 2) | ((with_reducible refine gate_callee (f := 77) rfl ?_); refine goesL_ (some 27) rfl rfl Try.func77 (by kernel_rfl) rfl #[.agg #[.bool a0_0, .int .u64 a0_1, .int .u64 a0_2], .agg #[.bool false, .int .u64 t600, .int .u64 t601]] rfl (by (try simp only [List.map_toArray, List.map_cons, List.map_nil]); first | done | rfl | (simp only [List.length_drop, List.length_take]; rfl)) ?_; (with_reducible refine (bagatelleref01_less.calls a0_0 a0_1 a0_2 false t600 t601 false _ A9.out).mono ?_); rintro e w16 ⟨rfl, hb⟩; refine ⟨_, rfl, ?_⟩; have n0_ := Aside0.mk (blk_below (g := gb598) (o := .cells #[.bool a0_0, .int .u64 a0_1, .int .u64 a0_2] 64 (0, 0)) (by (with_reducible repeat (first | refine blk_drewN ?_ _ | refine blk_drew ?_ | refine blk_alloc ?_ _)); exact BK598.out) hb); have n1_ := Aside0.mk (blk_below (g := gb599) (o := .cells #[.bool false, .int .u64 0, .int .u64 0] 64 (0, 0)) (by (with_reducible repeat (first | refine blk_drewN ?_ _ | refine blk_drew ?_ | refine blk_alloc ?_ _)); exact BK599.out) hb); have n2_ := Aside0.mk (below_step (by repeat (first | (with_reducible first | exact HB.out | apply below_alloc | apply pw_below_drewN | apply below_drew1 | refine below_set ?_ GE598.out | refine below_set ?_ GE599.out) | exact HB.out)) hb); clear BK598; clear BK599; clear HB; have BK598 := n0_; have BK599 := n1_; have HB := n2_; clear n0_ n1_ n2_; (try clear hb); (try clear hb2); (try clear hk); (try clear hi)))
            go_roundg k1
            case measure => have := HK1.out; omega
            case rel => exact ⟨(Go.bits .or .u64 x3_1 (ji7)), (wrap64 (x4_1 - 1)), (by first | rfl | (simp; done) | (simp only [← hji7] <;> (first | rfl | simp)) | (simp [*]; done)), (by first | rfl | (simp; done) | (simp [*]; done)), H', ⟨by have := HK1.out; omega⟩, ⟨by (with_reducible repeat (first | refine blk_drewN ?_ _ | refine blk_drew ?_ | refine blk_alloc ?_ _)); exact BK598.out⟩, ⟨by (with_reducible repeat (first | refine blk_drewN ?_ _ | refine blk_drew ?_ | refine blk_alloc ?_ _)); exact BK599.out⟩, ⟨by repeat (first | (with_reducible first | exact HB.out | apply below_alloc | apply pw_below_drewN | apply below_drew1 | refine below_set ?_ GE598.out | refine below_set ?_ GE599.out) | exact HB.out)⟩⟩
        · rw [if_neg c6] at H
          exact absurd H (by simp)
      · rw [if_neg c4] at H
        have c4b0 : decide (0 ≤ x4_1) = false := decide_eq_false c4
        clear c4
        simp only [Option.some.injEq, Prod.mk.injEq] at H
        obtain ⟨rfl, rfl, rfl⟩ := H
        have hnb17 := NB599_598.out
        have hnc17 := NB598_599.out
        have hcz18_0 : wr.cell? ⟨gb599, 0, none⟩ = some (.bool false) := (blk_cell BK599.out 0).trans rfl
        have hcz18_1 : wr.cell? ⟨gb599, 1, none⟩ = some (.int .u64 0) := (blk_cell BK599.out 1).trans rfl
        have hcz18_2 : wr.cell? ⟨gb599, 2, none⟩ = some (.int .u64 0) := (blk_cell BK599.out 2).trans rfl
        have hfz18_0 := blk_frozen BK599.out 0
        have hfz18_1 := blk_frozen BK599.out 1
        have hfz18_2 := blk_frozen BK599.out 2
        go_wp2
        refine bodyPost_ret (results_cell_row rfl _ _ gb599 64 #[.bool false, .int .u64 0, .int .u64 x3_1] (0, 0) _ rfl (by (with_reducible repeat (first | refine blk_drewN ?_ _ | refine blk_drew ?_ | refine blk_alloc ?_ _)); refine blk_put (cs := #[.bool false, .int .u64 0, .int .u64 0]) ?_ 2 _ rfl; (with_reducible repeat (first | refine blk_drewN ?_ _ | refine blk_drew ?_ | refine blk_alloc ?_ _)); refine blk_put (cs := #[.bool false, .int .u64 0, .int .u64 0]) ?_ 1 _ rfl; (with_reducible repeat (first | refine blk_drewN ?_ _ | refine blk_drew ?_ | refine blk_alloc ?_ _)); refine blk_put (cs := #[.bool false, .int .u64 0, .int .u64 0]) ?_ 0 _ rfl; (with_reducible repeat (first | refine blk_drewN ?_ _ | refine blk_drew ?_ | refine blk_alloc ?_ _)); exact BK599.out) Try.underlying64 rfl (by kernel_rfl)) rfl ?_
        exact ⟨by first | rfl | (simp [errW_none, errW_some] <;> rfl) | (simp [*, errW_none, errW_some] <;> rfl), by repeat (first | (with_reducible first | exact HB.out | apply below_alloc | apply pw_below_drewN | apply below_drew1 | refine below_set ?_ GE598.out | refine below_set ?_ GE599.out) | exact HB.out)⟩
end Go.Proofs.Ytenpiaafkmfjfaa.B

end
