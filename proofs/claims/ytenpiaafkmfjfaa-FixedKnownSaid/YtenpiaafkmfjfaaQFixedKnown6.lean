/- FixedKnown: part 6 of the proof. -/
import Derived.Test.YtenpiaafkmfjfaaQFixedKnown5
import Derived.Laws.IdiomStrings
section
namespace Go.Proofs.Ytenpiaafkmfjfaa.B
open Go.RowKit Go.Proofs.YtenpiaafkmfjfaaW.PrintWords Go.Proofs.YtenpiaafkmfjfaaW.PrintLast Go.Proofs.YtenpiaafkmfjfaaW.PrintMore
attribute [local go_sem] max2_int min2_int max_two min_two max_three min_three max_four min_four
set_option linter.unusedVariables false
set_option linter.unusedSimpArgs false
mutual
def fixed_Sin.j0 : Nat → Int → Bool → Option (Int × Bool)
  | 0, _, _ => none
  | k + 1, x391000, x391001 => fixed_Sin.l0 k 0 x391000 x391001 x391000 x391001 x391000 x391001
def fixed_Sin.l0 : Nat → Int → Int → Bool → Int → Bool → Int → Bool → Option (Int × Bool)
  | 0, _, _, _, _, _, _, _ => none
  | k + 1, x28, x391000, x391001, x392000, x392001, x393000, x393001 => if x28 < 8 then ((fixed_Mul.f k x392000 x392001 x391000 x391001).bind fun bt399 => ((fixed_Mul.f k bt399.1 bt399.2 x391000 x391001).bind fun bt401 => ((fixed_Int.f k (wrap64 ((wrap64 (2 * (wrap64 (x28 + 1)))) * (wrap64 ((wrap64 (2 * (wrap64 (x28 + 1)))) + 1))))).bind fun bt403 => ((fixed_Div.f k bt401.1 bt401.2 bt403.1 bt403.2).bind fun bt405 => ((fixed_Neg.f bt405.1 bt405.2).bind fun bt407 => ((fixed_Add.f k x393000 x393001 bt407.1 bt407.2).bind fun bt409 => (fixed_Sin.l0 k (wrap64 (x28 + 1)) x391000 x391001 bt407.1 bt407.2 bt409.1 bt409.2))))))) else ((fixed_Int.f k (-1)).bind fun bt393 => ((fixed_Int.f k 1).bind fun bt395 => ((fixed_Clamp.f k x393000 x393001 bt393.1 bt393.2 bt395.1 bt395.2).bind fun bt397 => (some (bt397.1, bt397.2)))))
end
def fixed_Sin.f (k : Nat) (a0_0 : Int) (a0_1 : Bool) : Option (Int × Bool) := (fixed_Wrap.f a0_0 a0_1).bind fun bt388 => (if bt388.1 > 6746518852 then (fixed_Sin.j0 k (wrap64 (13493037704 - bt388.1)) bt388.2) else (if bt388.1 < (-6746518852) then (fixed_Sin.j0 k (wrap64 ((-13493037704) - bt388.1)) bt388.2) else (fixed_Sin.j0 k bt388.1 bt388.2)))
def fixed_Sin.T11 : Bool × List (List Nat × List Nat) := (true, [([], []), ([], []), ([0, 1], [0, 1]), ([], []), ([2, 3, 2], [2, 3]), ([], []), ([], []), ([6], [6]), ([5, 7], [5, 7]), ([8, 4], [8]), ([4, 9, 9], [4, 9]), ([10, 10], [10]), ([11, 11, 0, 1, 2, 3, 4, 5, 6, 7, 8, 9, 10, 11], [11])])
def fixed_Sin.B11 : List Nat := [0, 0, 3, 0, 15, 0, 0, 64, 224, 511, 1023, 2047, 4095]
theorem fixed_Sin.tab11 : rtab .any (opsOf Try.f46 11) = fixed_Sin.T11 := by kernel_rfl
theorem fixed_Sin.bits11 : waitsOk fixed_Sin.T11.2 fixed_Sin.B11 = true := by kernel_rfl
set_option maxHeartbeats 8000000 in
set_option maxRecDepth 100000 in
theorem fixed_Sin.calls (k : Nat) (a0_0 : Int) (a0_1 : Bool) (r1 : Int) (r2 : Bool) (w : World) (h : fixed_Sin.f k a0_0 a0_1 = some (r1, r2)) :
    Calls Try.prog 46 #[.agg #[.int .i64 a0_0, .bool a0_1]] w fun e w' => e = .returned (.agg #[.int .i64 r1, .bool r2]) ∧ Below w.heap.size w w' := by
  have hu23 := Try.underlying23
  have HB := Aside0.mk (Below.refl w.heap.size w)
  have H : ((fixed_Wrap.f a0_0 a0_1).bind fun bt388 => (if bt388.1 > 6746518852 then (fixed_Sin.j0 k (wrap64 (13493037704 - bt388.1)) bt388.2) else (if bt388.1 < (-6746518852) then (fixed_Sin.j0 k (wrap64 ((-13493037704) - bt388.1)) bt388.2) else (fixed_Sin.j0 k bt388.1 bt388.2)))) = some (r1, r2) := h
  clear h
  replace H := Option.bind_eq_some_iff.mp H
  obtain ⟨⟨t388, t389⟩, A20, H⟩ := H
  replace H : (if t388 > 6746518852 then (fixed_Sin.j0 k (wrap64 (13493037704 - t388)) t389) else (if t388 < (-6746518852) then (fixed_Sin.j0 k (wrap64 ((-13493037704) - t388)) t389) else (fixed_Sin.j0 k t388 t389))) = some (r1, r2) := H
  have A2 := Aside0.mk A20
  clear A20
  have HC3 := Aside0.mk H
  clear H
  go_enter Try.func46, Try.ntmps46
  go_upto_block 0 with (first | ((with_reducible refine gate_dst (N := 1) rfl ?_); refine box_event ?hg (N := 1) ?hd (cs := #[.int .i64 a0_0, .bool a0_1]) (t := 23) ?hr ?_; (case hd => rfl); (case hg => rfl); (case hr => first | (go_simp; done) | (go_simp; rfl)); intro gb386 hg w4 hbox hb; have n0_ := Aside0.mk (below_step (by repeat (first | (with_reducible first | exact HB.out | apply below_alloc | apply pw_below_drewN | apply below_drew1) | exact HB.out)) hb); have n1_ := Aside0.mk (hbox); have n2_ := Aside0.mk ((by rw [hg]; exact (below_size (by repeat (first | (with_reducible first | exact HB.out | apply below_alloc | apply pw_below_drewN | apply below_drew1) | exact HB.out))) : w.heap.size ≤ gb386)); have n3_ := Aside0.mk ((by rw [hg]; exact (below_size (by repeat (first | (with_reducible first | exact HB.out | apply below_alloc | apply pw_below_drewN | apply below_drew1) | exact HB.out))) : w.heap.size ≤ gb386)); clear HB; have HB := n0_; have BK386 := n1_; have GW386 := n2_; have GE386 := n3_; clear n0_ n1_ n2_ n3_; clear hb hbox hg) | ((with_reducible refine gate_dst (N := 2) rfl ?_); refine box_event ?hg (N := 2) ?hd (cs := #[.int .i64 0, .bool false]) (t := 23) ?hr ?_; (case hd => rfl); (case hg => rfl); (case hr => first | (go_simp; done) | (go_simp; rfl)); intro gb387 hg w5 hbox hb; have n0_ := Aside0.mk (blk_below (g := gb386) (o := .cells #[.int .i64 a0_0, .bool a0_1] 23 (0, 0)) (by (with_reducible repeat (first | refine blk_drewN ?_ _ | refine blk_drew ?_ | refine blk_alloc ?_ _)); exact BK386.out) hb); have n1_ := Aside0.mk (below_step (by repeat (first | (with_reducible first | exact HB.out | apply below_alloc | apply pw_below_drewN | apply below_drew1 | refine below_set ?_ GE386.out) | exact HB.out)) hb); have n2_ := Aside0.mk (hbox); have n3_ := Aside0.mk ((by rw [hg]; exact (below_size (by repeat (first | (with_reducible first | exact HB.out | apply below_alloc | apply pw_below_drewN | apply below_drew1 | refine below_set ?_ GE386.out) | exact HB.out))) : w.heap.size ≤ gb387)); have n4_ := Aside0.mk ((by rw [hg]; exact (below_size (by repeat (first | (with_reducible first | exact HB.out | apply below_alloc | apply pw_below_drewN | apply below_drew1 | refine below_set ?_ GE386.out) | exact HB.out))) : w.heap.size ≤ gb387)); have n5_ := Aside0.mk ((by rw [hg]; exact Nat.ne_of_lt (blk_lt (g := gb386) (o := .cells #[.int .i64 a0_0, .bool a0_1] 23 (0, 0)) (by (with_reducible repeat (first | refine blk_drewN ?_ _ | refine blk_drew ?_ | refine blk_alloc ?_ _)); exact BK386.out)) : gb386 ≠ gb387)); have n6_ := Aside0.mk ((by rw [hg]; exact Nat.ne_of_gt (blk_lt (g := gb386) (o := .cells #[.int .i64 a0_0, .bool a0_1] 23 (0, 0)) (by (with_reducible repeat (first | refine blk_drewN ?_ _ | refine blk_drew ?_ | refine blk_alloc ?_ _)); exact BK386.out)) : gb387 ≠ gb386)); clear BK386; clear HB; have BK386 := n0_; have HB := n1_; have BK387 := n2_; have GW387 := n3_; have GE387 := n4_; have NB386_387 := n5_; have NB387_386 := n6_; clear n0_ n1_ n2_ n3_ n4_ n5_ n6_; clear hb hbox hg; have hnb6 := NB386_387.out; have hnc6 := NB387_386.out; have hcz7_0 : w5.cell? ⟨gb386, 0, none⟩ = some (.int .i64 a0_0) := (blk_cell BK386.out 0).trans rfl; have hcz7_1 : w5.cell? ⟨gb386, 1, none⟩ = some (.bool a0_1) := (blk_cell BK386.out 1).trans rfl; have hfz7_0 := blk_frozen BK386.out 0; have hfz7_1 := blk_frozen BK386.out 1) | ((with_reducible refine gate_callee (f := 45) rfl ?_); refine goesL_ (some 9) rfl rfl Try.func45 (by kernel_rfl) rfl #[.agg #[.int .i64 a0_0, .bool a0_1]] rfl (by (try simp only [List.map_toArray, List.map_cons, List.map_nil]); first | done | rfl | (simp only [List.length_drop, List.length_take]; rfl)) ?_; (with_reducible refine (fixed_Wrap.calls a0_0 a0_1 t388 t389 _ A2.out).mono ?_); rintro e w8 ⟨rfl, hb⟩; refine ⟨_, rfl, ?_⟩; have n0_ := Aside0.mk (blk_below (g := gb386) (o := .cells #[.int .i64 a0_0, .bool a0_1] 23 (0, 0)) (by (with_reducible repeat (first | refine blk_drewN ?_ _ | refine blk_drew ?_ | refine blk_alloc ?_ _)); exact BK386.out) hb); have n1_ := Aside0.mk (blk_below (g := gb387) (o := .cells #[.int .i64 0, .bool false] 23 (0, 0)) (by (with_reducible repeat (first | refine blk_drewN ?_ _ | refine blk_drew ?_ | refine blk_alloc ?_ _)); exact BK387.out) hb); have n2_ := Aside0.mk (below_step (by repeat (first | (with_reducible first | exact HB.out | apply below_alloc | apply pw_below_drewN | apply below_drew1 | refine below_set ?_ GE386.out | refine below_set ?_ GE387.out) | exact HB.out)) hb); clear BK386; clear BK387; clear HB; have BK386 := n0_; have BK387 := n1_; have HB := n2_; clear n0_ n1_ n2_; (try clear hb); (try clear hb2); (try clear hk); (try clear hi)) | ((with_reducible refine gate_dst (N := 3) rfl ?_); refine box_event ?hg (N := 3) ?hd (cs := #[.int .i64 0, .bool false]) (t := 23) ?hr ?_; (case hd => rfl); (case hg => rfl); (case hr => first | (go_simp; done) | (go_simp; rfl)); intro gb390 hg w9 hbox hb; have n0_ := Aside0.mk (blk_below (g := gb386) (o := .cells #[.int .i64 a0_0, .bool a0_1] 23 (0, 0)) (by (with_reducible repeat (first | refine blk_drewN ?_ _ | refine blk_drew ?_ | refine blk_alloc ?_ _)); exact BK386.out) hb); have n1_ := Aside0.mk (blk_below (g := gb387) (o := .cells #[.int .i64 0, .bool false] 23 (0, 0)) (by (with_reducible repeat (first | refine blk_drewN ?_ _ | refine blk_drew ?_ | refine blk_alloc ?_ _)); exact BK387.out) hb); have n2_ := Aside0.mk (below_step (by repeat (first | (with_reducible first | exact HB.out | apply below_alloc | apply pw_below_drewN | apply below_drew1 | refine below_set ?_ GE386.out | refine below_set ?_ GE387.out) | exact HB.out)) hb); have n3_ := Aside0.mk (hbox); have n4_ := Aside0.mk ((by rw [hg]; exact (below_size (by repeat (first | (with_reducible first | exact HB.out | apply below_alloc | apply pw_below_drewN | apply below_drew1 | refine below_set ?_ GE386.out | refine below_set ?_ GE387.out) | exact HB.out))) : w.heap.size ≤ gb390)); have n5_ := Aside0.mk ((by rw [hg]; exact (below_size (by repeat (first | (with_reducible first | exact HB.out | apply below_alloc | apply pw_below_drewN | apply below_drew1 | refine below_set ?_ GE386.out | refine below_set ?_ GE387.out) | exact HB.out))) : w.heap.size ≤ gb390)); have n6_ := Aside0.mk ((by rw [hg]; exact Nat.ne_of_lt (blk_lt (g := gb386) (o := .cells #[.int .i64 a0_0, .bool a0_1] 23 (0, 0)) (by (with_reducible repeat (first | refine blk_drewN ?_ _ | refine blk_drew ?_ | refine blk_alloc ?_ _)); exact BK386.out)) : gb386 ≠ gb390)); have n7_ := Aside0.mk ((by rw [hg]; exact Nat.ne_of_gt (blk_lt (g := gb386) (o := .cells #[.int .i64 a0_0, .bool a0_1] 23 (0, 0)) (by (with_reducible repeat (first | refine blk_drewN ?_ _ | refine blk_drew ?_ | refine blk_alloc ?_ _)); exact BK386.out)) : gb390 ≠ gb386)); have n8_ := Aside0.mk ((by rw [hg]; exact Nat.ne_of_lt (blk_lt (g := gb387) (o := .cells #[.int .i64 0, .bool false] 23 (0, 0)) (by (with_reducible repeat (first | refine blk_drewN ?_ _ | refine blk_drew ?_ | refine blk_alloc ?_ _)); exact BK387.out)) : gb387 ≠ gb390)); have n9_ := Aside0.mk ((by rw [hg]; exact Nat.ne_of_gt (blk_lt (g := gb387) (o := .cells #[.int .i64 0, .bool false] 23 (0, 0)) (by (with_reducible repeat (first | refine blk_drewN ?_ _ | refine blk_drew ?_ | refine blk_alloc ?_ _)); exact BK387.out)) : gb390 ≠ gb387)); clear BK386; clear BK387; clear HB; have BK386 := n0_; have BK387 := n1_; have HB := n2_; have BK390 := n3_; have GW390 := n4_; have GE390 := n5_; have NB386_390 := n6_; have NB390_386 := n7_; have NB387_390 := n8_; have NB390_387 := n9_; clear n0_ n1_ n2_ n3_ n4_ n5_ n6_ n7_ n8_ n9_; clear hb hbox hg; have hnb10 := NB390_386.out; have hnc10 := NB386_390.out; have hnb11 := NB390_387.out; have hnc11 := NB387_390.out; have hcz12_0 : w9.cell? ⟨gb390, 0, none⟩ = some (.int .i64 0) := (blk_cell BK390.out 0).trans rfl; have hcz12_1 : w9.cell? ⟨gb390, 1, none⟩ = some (.bool false) := (blk_cell BK390.out 1).trans rfl; have hfz12_0 := blk_frozen BK390.out 0; have hfz12_1 := blk_frozen BK390.out 1))
  (try simp only [Act.put, List.setIfInBounds_toArray, List.set_cons_zero, List.set_cons_succ])
  go_cut [] (fun wc => ∃ (kq : Nat) (x391000_2 : Int), Aside0 (fixed_Sin.j0 kq x391000_2 t389 = some (r1, r2)) ∧ Aside0 (kq ≤ k) ∧ Aside0 (wc.heap[gb386]? = some (.cells #[.int .i64 a0_0, .bool a0_1] 23 (0, 0))) ∧ Aside0 (wc.heap[gb387]? = some (.cells #[.int .i64 0, .bool false] 23 (0, 0))) ∧ Aside0 (wc.heap[gb390]? = some (.cells #[.int .i64 x391000_2, .bool t389] 23 (0, 0))) ∧ Aside0 (Below w.heap.size w wc))
  case first =>
    have H := HC3.out
    clear HC3
    by_cases c13 : t388 > 6746518852
    · rw [if_pos c13] at H
      have c13b0 : decide (6746518852 < t388) = true := decide_eq_true c13
      clear c13
      (first | rw [c13b0] | (simp only [i64_w, i32_w]; rw [c13b0]) | skip)
      have H' := Aside0.mk H
      clear H
      have hnb14 := NB390_386.out
      have hnc14 := NB386_390.out
      have hnb15 := NB390_387.out
      have hnc15 := NB387_390.out
      have hcz16_0 : w9.cell? ⟨gb390, 0, none⟩ = some (.int .i64 0) := (blk_cell BK390.out 0).trans rfl
      have hcz16_1 : w9.cell? ⟨gb390, 1, none⟩ = some (.bool false) := (blk_cell BK390.out 1).trans rfl
      have hfz16_0 := blk_frozen BK390.out 0
      have hfz16_1 := blk_frozen BK390.out 1
      go_wp2
      go_meet
      case rel => exact ⟨_, (wrap64 (13493037704 - t388)), H', ⟨by first | omega | exact Nat.le_refl _⟩, ⟨by (with_reducible repeat (first | refine blk_drewN ?_ _ | refine blk_drew ?_ | refine blk_alloc ?_ _)); refine blk_far ?_ NB386_390.out _; (with_reducible repeat (first | refine blk_drewN ?_ _ | refine blk_drew ?_ | refine blk_alloc ?_ _)); refine blk_far ?_ NB386_390.out _; (with_reducible repeat (first | refine blk_drewN ?_ _ | refine blk_drew ?_ | refine blk_alloc ?_ _)); refine blk_far ?_ NB386_390.out _; (with_reducible repeat (first | refine blk_drewN ?_ _ | refine blk_drew ?_ | refine blk_alloc ?_ _)); exact BK386.out⟩, ⟨by (with_reducible repeat (first | refine blk_drewN ?_ _ | refine blk_drew ?_ | refine blk_alloc ?_ _)); refine blk_far ?_ NB387_390.out _; (with_reducible repeat (first | refine blk_drewN ?_ _ | refine blk_drew ?_ | refine blk_alloc ?_ _)); refine blk_far ?_ NB387_390.out _; (with_reducible repeat (first | refine blk_drewN ?_ _ | refine blk_drew ?_ | refine blk_alloc ?_ _)); refine blk_far ?_ NB387_390.out _; (with_reducible repeat (first | refine blk_drewN ?_ _ | refine blk_drew ?_ | refine blk_alloc ?_ _)); exact BK387.out⟩, ⟨by (with_reducible repeat (first | refine blk_drewN ?_ _ | refine blk_drew ?_ | refine blk_alloc ?_ _)); refine blk_put (cs := #[.int .i64 t388, .bool t389]) ?_ 0 _ rfl; (with_reducible repeat (first | refine blk_drewN ?_ _ | refine blk_drew ?_ | refine blk_alloc ?_ _)); refine blk_put (cs := #[.int .i64 t388, .bool false]) ?_ 1 _ rfl; (with_reducible repeat (first | refine blk_drewN ?_ _ | refine blk_drew ?_ | refine blk_alloc ?_ _)); refine blk_put (cs := #[.int .i64 0, .bool false]) ?_ 0 _ rfl; (with_reducible repeat (first | refine blk_drewN ?_ _ | refine blk_drew ?_ | refine blk_alloc ?_ _)); exact BK390.out⟩, ⟨by repeat (first | (with_reducible first | exact HB.out | apply below_alloc | apply pw_below_drewN | apply below_drew1 | refine below_set ?_ GE386.out | refine below_set ?_ GE387.out | refine below_set ?_ GE390.out) | exact HB.out)⟩⟩
    · rw [if_neg c13] at H
      have c13b0 : decide (6746518852 < t388) = false := decide_eq_false c13
      clear c13
      (first | rw [c13b0] | (simp only [i64_w, i32_w]; rw [c13b0]) | skip)
      by_cases c17 : t388 < (-6746518852)
      · rw [if_pos c17] at H
        have c17b0 : decide (t388 < (-6746518852)) = true := decide_eq_true c17
        clear c17
        have H' := Aside0.mk H
        clear H
        have hnb18 := NB390_386.out
        have hnc18 := NB386_390.out
        have hnb19 := NB390_387.out
        have hnc19 := NB387_390.out
        have hcz20_0 : w9.cell? ⟨gb390, 0, none⟩ = some (.int .i64 0) := (blk_cell BK390.out 0).trans rfl
        have hcz20_1 : w9.cell? ⟨gb390, 1, none⟩ = some (.bool false) := (blk_cell BK390.out 1).trans rfl
        have hfz20_0 := blk_frozen BK390.out 0
        have hfz20_1 := blk_frozen BK390.out 1
        go_wp2
        go_meet
        case rel => exact ⟨_, (wrap64 ((-13493037704) - t388)), H', ⟨by first | omega | exact Nat.le_refl _⟩, ⟨by (with_reducible repeat (first | refine blk_drewN ?_ _ | refine blk_drew ?_ | refine blk_alloc ?_ _)); refine blk_far ?_ NB386_390.out _; (with_reducible repeat (first | refine blk_drewN ?_ _ | refine blk_drew ?_ | refine blk_alloc ?_ _)); refine blk_far ?_ NB386_390.out _; (with_reducible repeat (first | refine blk_drewN ?_ _ | refine blk_drew ?_ | refine blk_alloc ?_ _)); refine blk_far ?_ NB386_390.out _; (with_reducible repeat (first | refine blk_drewN ?_ _ | refine blk_drew ?_ | refine blk_alloc ?_ _)); exact BK386.out⟩, ⟨by (with_reducible repeat (first | refine blk_drewN ?_ _ | refine blk_drew ?_ | refine blk_alloc ?_ _)); refine blk_far ?_ NB387_390.out _; (with_reducible repeat (first | refine blk_drewN ?_ _ | refine blk_drew ?_ | refine blk_alloc ?_ _)); refine blk_far ?_ NB387_390.out _; (with_reducible repeat (first | refine blk_drewN ?_ _ | refine blk_drew ?_ | refine blk_alloc ?_ _)); refine blk_far ?_ NB387_390.out _; (with_reducible repeat (first | refine blk_drewN ?_ _ | refine blk_drew ?_ | refine blk_alloc ?_ _)); exact BK387.out⟩, ⟨by (with_reducible repeat (first | refine blk_drewN ?_ _ | refine blk_drew ?_ | refine blk_alloc ?_ _)); refine blk_put (cs := #[.int .i64 t388, .bool t389]) ?_ 0 _ rfl; (with_reducible repeat (first | refine blk_drewN ?_ _ | refine blk_drew ?_ | refine blk_alloc ?_ _)); refine blk_put (cs := #[.int .i64 t388, .bool false]) ?_ 1 _ rfl; (with_reducible repeat (first | refine blk_drewN ?_ _ | refine blk_drew ?_ | refine blk_alloc ?_ _)); refine blk_put (cs := #[.int .i64 0, .bool false]) ?_ 0 _ rfl; (with_reducible repeat (first | refine blk_drewN ?_ _ | refine blk_drew ?_ | refine blk_alloc ?_ _)); exact BK390.out⟩, ⟨by repeat (first | (with_reducible first | exact HB.out | apply below_alloc | apply pw_below_drewN | apply below_drew1 | refine below_set ?_ GE386.out | refine below_set ?_ GE387.out | refine below_set ?_ GE390.out) | exact HB.out)⟩⟩
      · rw [if_neg c17] at H
        have c17b0 : decide (t388 < (-6746518852)) = false := decide_eq_false c17
        clear c17
        have H' := Aside0.mk H
        clear H
        have hnb21 := NB390_386.out
        have hnc21 := NB386_390.out
        have hnb22 := NB390_387.out
        have hnc22 := NB387_390.out
        have hcz23_0 : w9.cell? ⟨gb390, 0, none⟩ = some (.int .i64 0) := (blk_cell BK390.out 0).trans rfl
        have hcz23_1 : w9.cell? ⟨gb390, 1, none⟩ = some (.bool false) := (blk_cell BK390.out 1).trans rfl
        have hfz23_0 := blk_frozen BK390.out 0
        have hfz23_1 := blk_frozen BK390.out 1
        go_wp2
        go_meet
        case rel => exact ⟨_, (t388), H', ⟨by first | omega | exact Nat.le_refl _⟩, ⟨by (with_reducible repeat (first | refine blk_drewN ?_ _ | refine blk_drew ?_ | refine blk_alloc ?_ _)); refine blk_far ?_ NB386_390.out _; (with_reducible repeat (first | refine blk_drewN ?_ _ | refine blk_drew ?_ | refine blk_alloc ?_ _)); refine blk_far ?_ NB386_390.out _; (with_reducible repeat (first | refine blk_drewN ?_ _ | refine blk_drew ?_ | refine blk_alloc ?_ _)); exact BK386.out⟩, ⟨by (with_reducible repeat (first | refine blk_drewN ?_ _ | refine blk_drew ?_ | refine blk_alloc ?_ _)); refine blk_far ?_ NB387_390.out _; (with_reducible repeat (first | refine blk_drewN ?_ _ | refine blk_drew ?_ | refine blk_alloc ?_ _)); refine blk_far ?_ NB387_390.out _; (with_reducible repeat (first | refine blk_drewN ?_ _ | refine blk_drew ?_ | refine blk_alloc ?_ _)); exact BK387.out⟩, ⟨by (with_reducible repeat (first | refine blk_drewN ?_ _ | refine blk_drew ?_ | refine blk_alloc ?_ _)); refine blk_put (cs := #[.int .i64 t388, .bool false]) ?_ 1 _ rfl; (with_reducible repeat (first | refine blk_drewN ?_ _ | refine blk_drew ?_ | refine blk_alloc ?_ _)); refine blk_put (cs := #[.int .i64 0, .bool false]) ?_ 0 _ rfl; (with_reducible repeat (first | refine blk_drewN ?_ _ | refine blk_drew ?_ | refine blk_alloc ?_ _)); exact BK390.out⟩, ⟨by repeat (first | (with_reducible first | exact HB.out | apply below_alloc | apply pw_below_drewN | apply below_drew1 | refine below_set ?_ GE386.out | refine below_set ?_ GE387.out | refine below_set ?_ GE390.out) | exact HB.out)⟩⟩
  case rest =>
    clear HC3
    try clear c1
    try clear c2
    try clear p2
    try clear c4
    try clear c6
    try clear p6
    try clear c10
    try clear c11
    try clear c13
    try clear c13b0
    try clear c14
    try clear c15
    try clear c17
    try clear c17b0
    try clear c18
    try clear c19
    try clear c21
    try clear c22
    try clear hcz12_0
    try clear hcz12_1
    try clear hcz16_0
    try clear hcz16_1
    try clear hcz20_0
    try clear hcz20_1
    try clear hcz23_0
    try clear hcz23_1
    try clear hcz7_0
    try clear hcz7_1
    try clear hfz12_0
    try clear hfz12_1
    try clear hfz16_0
    try clear hfz16_1
    try clear hfz20_0
    try clear hfz20_1
    try clear hfz23_0
    try clear hfz23_1
    try clear hfz7_0
    try clear hfz7_1
    obtain ⟨kq, x391000_2, HA, HJ2, BK386, BK387, BK390, HB⟩ := hcut
    cases kq with
    | zero => exact absurd HA.out (by simp [fixed_Sin.j0])
    | succ kj2 =>
      have H := HA.out
      clear HA
      simp only [fixed_Sin.j0] at H
      have H' := Aside0.mk H
      clear H
      try go_wp2
      have n0_ := Aside0.mk (blk_drew BK386.out)
      have n1_ := Aside0.mk (blk_drew BK387.out)
      have n2_ := Aside0.mk (blk_drew BK390.out)
      have n3_ := Aside0.mk (below_drew1 HB.out)
      clear BK386
      clear BK387
      clear BK390
      clear HB
      have BK386 := n0_
      have BK387 := n1_
      have BK390 := n2_
      have HB := n3_
      clear n0_ n1_ n2_ n3_
      refine start_ (n := 6) (S := fun w' => w'.cell? ⟨gb390, 0, none⟩ = some (.int .i64 x391000_2) ∧ w'.cell? ⟨gb390, 1, none⟩ = some (.bool t389)) (ds := []) #[false, false, false, false, false, false] (by kernel_rfl) rfl rfl ⟨(blk_cell BK390.out 0).trans rfl, (blk_cell BK390.out 1).trans rfl⟩ (fun hHeld => ?_)
      generalize wc.drew = w24 at BK386 BK387 BK390 HB hHeld ⊢
      refine take_ (i := 0) (N := some 26) (v := ?_) (a' := ?_) #[true, false, false, false, false, false] rfl rfl (by kernel_rfl) (fun _ _ _ h => h) (Or.inl ⟨by rfl, ?_⟩) hHeld ?_ ?_
      rotate_left
      · rintro w' ⟨s0, s1⟩
        go_simp
        with_reducible rfl
      rotate_left
      · simp only [Act.put, List.setIfInBounds_toArray, List.set_cons_zero, List.set_cons_succ, i64_w, i32_w]
        rfl
      refine take_ (i := 1) (N := some 27) (v := ?_) (a' := ?_) #[true, true, false, false, false, false] rfl rfl (by kernel_rfl) (fun _ _ _ h => h) (Or.inl ⟨by rfl, ?_⟩) hHeld ?_ ?_
      rotate_left
      · rintro w' ⟨s0, s1⟩
        go_simp
        with_reducible rfl
      rotate_left
      · simp only [Act.put, List.setIfInBounds_toArray, List.set_cons_zero, List.set_cons_succ, i64_w, i32_w]
        rfl
      refine join_ (σ := Nat × Nat) 2 #[true, true, true, true, false, false] (fun s_ => [(4, .pointer (some ⟨s_.1, 0, none⟩)), (5, .pointer (some ⟨s_.2, 0, none⟩))]) (fun s_ w' => (w'.cell? ⟨gb390, 0, none⟩ = some (.int .i64 x391000_2) ∧ w'.cell? ⟨gb390, 1, none⟩ = some (.bool t389)) ∧ (w'.heap[gb386]? = some (.cells #[.int .i64 a0_0, .bool a0_1] 23 (0, 0))) ∧ (w'.heap[gb387]? = some (.cells #[.int .i64 0, .bool false] 23 (0, 0))) ∧ (w'.heap[gb390]? = some (.cells #[.int .i64 x391000_2, .bool t389] 23 (0, 0))) ∧ (w'.heap[s_.1]? = some (.cells #[.int .i64 0, .bool false] 23 (0, 0))) ∧ (w'.heap[s_.2]? = some (.cells #[.int .i64 0, .bool false] 23 (0, 0))) ∧ (w.heap.size ≤ s_.1) ∧ (w.heap.size ≤ s_.1) ∧ (gb386 ≠ s_.1) ∧ (s_.1 ≠ gb386) ∧ (gb387 ≠ s_.1) ∧ (s_.1 ≠ gb387) ∧ (gb390 ≠ s_.1) ∧ (s_.1 ≠ gb390) ∧ (s_.2 ≠ s_.1) ∧ (s_.1 ≠ s_.2) ∧ (w.heap.size ≤ s_.2) ∧ (w.heap.size ≤ s_.2) ∧ (gb386 ≠ s_.2) ∧ (s_.2 ≠ gb386) ∧ (gb387 ≠ s_.2) ∧ (s_.2 ≠ gb387) ∧ (gb390 ≠ s_.2) ∧ (s_.2 ≠ gb390) ∧ (Below w.heap.size w w')) ?_ ?_
      rotate_left
      · intro hCont
        refine two_ (i := 2) (j := 3) (Ni := some 4) (Nj := some 5) #[true, true, true, false, false, false] #[true, true, false, true, false, false] rfl rfl rfl rfl (by kernel_rfl) (by decide) (by decide) (fun K hK => ?_) (fun K hK => ?_)
        · skip
          refine box_step ?hg (N := 4) ?hd (cs := #[.int .i64 0, .bool false]) (t := 23) ?hr ?_; (case hd => rfl); (case hg => rfl); (case hr => first | (go_simp; done) | (go_simp; rfl))
          intro gb391 hg w25 hbox hb
          have n0_ := Aside0.mk (blk_below (g := gb386) (o := .cells #[.int .i64 a0_0, .bool a0_1] 23 (0, 0)) (by (with_reducible repeat (first | refine blk_drewN ?_ _ | refine blk_drew ?_ | refine blk_alloc ?_ _)); exact BK386.out) hb)
          have n1_ := Aside0.mk (blk_below (g := gb387) (o := .cells #[.int .i64 0, .bool false] 23 (0, 0)) (by (with_reducible repeat (first | refine blk_drewN ?_ _ | refine blk_drew ?_ | refine blk_alloc ?_ _)); exact BK387.out) hb)
          have n2_ := Aside0.mk (blk_below (g := gb390) (o := .cells #[.int .i64 x391000_2, .bool t389] 23 (0, 0)) (by (with_reducible repeat (first | refine blk_drewN ?_ _ | refine blk_drew ?_ | refine blk_alloc ?_ _)); exact BK390.out) hb)
          have n3_ := Aside0.mk (below_step (by repeat (first | (with_reducible first | exact HB.out | apply below_alloc | apply pw_below_drewN | apply below_drew1 | refine below_set ?_ GE386.out | refine below_set ?_ GE387.out | refine below_set ?_ GE390.out) | exact HB.out)) hb)
          have n4_ := Aside0.mk (hbox)
          have n5_ := Aside0.mk ((by rw [hg]; exact (below_size (by repeat (first | (with_reducible first | exact HB.out | apply below_alloc | apply pw_below_drewN | apply below_drew1 | refine below_set ?_ GE386.out | refine below_set ?_ GE387.out | refine below_set ?_ GE390.out) | exact HB.out))) : w.heap.size ≤ gb391))
          have n6_ := Aside0.mk ((by rw [hg]; exact (below_size (by repeat (first | (with_reducible first | exact HB.out | apply below_alloc | apply pw_below_drewN | apply below_drew1 | refine below_set ?_ GE386.out | refine below_set ?_ GE387.out | refine below_set ?_ GE390.out) | exact HB.out))) : w.heap.size ≤ gb391))
          have n7_ := Aside0.mk ((by rw [hg]; exact Nat.ne_of_lt (blk_lt (g := gb386) (o := .cells #[.int .i64 a0_0, .bool a0_1] 23 (0, 0)) (by (with_reducible repeat (first | refine blk_drewN ?_ _ | refine blk_drew ?_ | refine blk_alloc ?_ _)); exact BK386.out)) : gb386 ≠ gb391))
          have n8_ := Aside0.mk ((by rw [hg]; exact Nat.ne_of_gt (blk_lt (g := gb386) (o := .cells #[.int .i64 a0_0, .bool a0_1] 23 (0, 0)) (by (with_reducible repeat (first | refine blk_drewN ?_ _ | refine blk_drew ?_ | refine blk_alloc ?_ _)); exact BK386.out)) : gb391 ≠ gb386))
          have n9_ := Aside0.mk ((by rw [hg]; exact Nat.ne_of_lt (blk_lt (g := gb387) (o := .cells #[.int .i64 0, .bool false] 23 (0, 0)) (by (with_reducible repeat (first | refine blk_drewN ?_ _ | refine blk_drew ?_ | refine blk_alloc ?_ _)); exact BK387.out)) : gb387 ≠ gb391))
          have n10_ := Aside0.mk ((by rw [hg]; exact Nat.ne_of_gt (blk_lt (g := gb387) (o := .cells #[.int .i64 0, .bool false] 23 (0, 0)) (by (with_reducible repeat (first | refine blk_drewN ?_ _ | refine blk_drew ?_ | refine blk_alloc ?_ _)); exact BK387.out)) : gb391 ≠ gb387))
          have n11_ := Aside0.mk ((by rw [hg]; exact Nat.ne_of_lt (blk_lt (g := gb390) (o := .cells #[.int .i64 x391000_2, .bool t389] 23 (0, 0)) (by (with_reducible repeat (first | refine blk_drewN ?_ _ | refine blk_drew ?_ | refine blk_alloc ?_ _)); exact BK390.out)) : gb390 ≠ gb391))
          have n12_ := Aside0.mk ((by rw [hg]; exact Nat.ne_of_gt (blk_lt (g := gb390) (o := .cells #[.int .i64 x391000_2, .bool t389] 23 (0, 0)) (by (with_reducible repeat (first | refine blk_drewN ?_ _ | refine blk_drew ?_ | refine blk_alloc ?_ _)); exact BK390.out)) : gb391 ≠ gb390))
          clear BK386
          clear BK387
          clear BK390
          clear HB
          have BK386 := n0_
          have BK387 := n1_
          have BK390 := n2_
          have HB := n3_
          have BK391 := n4_
          have GW391 := n5_
          have GE391 := n6_
          have NB386_391 := n7_
          have NB391_386 := n8_
          have NB387_391 := n9_
          have NB391_387 := n10_
          have NB390_391 := n11_
          have NB391_390 := n12_
          clear n0_ n1_ n2_ n3_ n4_ n5_ n6_ n7_ n8_ n9_ n10_ n11_ n12_
          clear hb hbox hg
          refine hK.out _ _ ⟨(blk_cell BK390.out 0).trans rfl, (blk_cell BK390.out 1).trans rfl⟩ (fun hHeld => ?_)
          clear hK K
          refine norm_ (a' := ?_) ?_ ?_
          rotate_left
          · show Act.put _ (some 4) _ = _
            simp only [Act.put, List.setIfInBounds_toArray, List.set_cons_zero, List.set_cons_succ, i64_w, i32_w]
            rfl
          refine one_ (i := 3) (N := some 5) #[true, true, true, true, false, false] rfl rfl (by kernel_rfl) (by decide) (fun K hK => ?_)
          refine box_step ?hg (N := 5) ?hd (cs := #[.int .i64 0, .bool false]) (t := 23) ?hr ?_; (case hd => rfl); (case hg => rfl); (case hr => first | (go_simp; done) | (go_simp; rfl))
          intro gb392 hg w26 hbox hb
          have n0_ := Aside0.mk (blk_below (g := gb386) (o := .cells #[.int .i64 a0_0, .bool a0_1] 23 (0, 0)) (by (with_reducible repeat (first | refine blk_drewN ?_ _ | refine blk_drew ?_ | refine blk_alloc ?_ _)); exact BK386.out) hb)
          have n1_ := Aside0.mk (blk_below (g := gb387) (o := .cells #[.int .i64 0, .bool false] 23 (0, 0)) (by (with_reducible repeat (first | refine blk_drewN ?_ _ | refine blk_drew ?_ | refine blk_alloc ?_ _)); exact BK387.out) hb)
          have n2_ := Aside0.mk (blk_below (g := gb390) (o := .cells #[.int .i64 x391000_2, .bool t389] 23 (0, 0)) (by (with_reducible repeat (first | refine blk_drewN ?_ _ | refine blk_drew ?_ | refine blk_alloc ?_ _)); exact BK390.out) hb)
          have n3_ := Aside0.mk (blk_below (g := gb391) (o := .cells #[.int .i64 0, .bool false] 23 (0, 0)) (by (with_reducible repeat (first | refine blk_drewN ?_ _ | refine blk_drew ?_ | refine blk_alloc ?_ _)); exact BK391.out) hb)
          have n4_ := Aside0.mk (below_step (by repeat (first | (with_reducible first | exact HB.out | apply below_alloc | apply pw_below_drewN | apply below_drew1 | refine below_set ?_ GE386.out | refine below_set ?_ GE387.out | refine below_set ?_ GE390.out | refine below_set ?_ GE391.out) | exact HB.out)) hb)
          have n5_ := Aside0.mk (hbox)
          have n6_ := Aside0.mk ((by rw [hg]; exact (below_size (by repeat (first | (with_reducible first | exact HB.out | apply below_alloc | apply pw_below_drewN | apply below_drew1 | refine below_set ?_ GE386.out | refine below_set ?_ GE387.out | refine below_set ?_ GE390.out | refine below_set ?_ GE391.out) | exact HB.out))) : w.heap.size ≤ gb392))
          have n7_ := Aside0.mk ((by rw [hg]; exact (below_size (by repeat (first | (with_reducible first | exact HB.out | apply below_alloc | apply pw_below_drewN | apply below_drew1 | refine below_set ?_ GE386.out | refine below_set ?_ GE387.out | refine below_set ?_ GE390.out | refine below_set ?_ GE391.out) | exact HB.out))) : w.heap.size ≤ gb392))
          have n8_ := Aside0.mk ((by rw [hg]; exact Nat.ne_of_lt (blk_lt (g := gb386) (o := .cells #[.int .i64 a0_0, .bool a0_1] 23 (0, 0)) (by (with_reducible repeat (first | refine blk_drewN ?_ _ | refine blk_drew ?_ | refine blk_alloc ?_ _)); exact BK386.out)) : gb386 ≠ gb392))
          have n9_ := Aside0.mk ((by rw [hg]; exact Nat.ne_of_gt (blk_lt (g := gb386) (o := .cells #[.int .i64 a0_0, .bool a0_1] 23 (0, 0)) (by (with_reducible repeat (first | refine blk_drewN ?_ _ | refine blk_drew ?_ | refine blk_alloc ?_ _)); exact BK386.out)) : gb392 ≠ gb386))
          have n10_ := Aside0.mk ((by rw [hg]; exact Nat.ne_of_lt (blk_lt (g := gb387) (o := .cells #[.int .i64 0, .bool false] 23 (0, 0)) (by (with_reducible repeat (first | refine blk_drewN ?_ _ | refine blk_drew ?_ | refine blk_alloc ?_ _)); exact BK387.out)) : gb387 ≠ gb392))
          have n11_ := Aside0.mk ((by rw [hg]; exact Nat.ne_of_gt (blk_lt (g := gb387) (o := .cells #[.int .i64 0, .bool false] 23 (0, 0)) (by (with_reducible repeat (first | refine blk_drewN ?_ _ | refine blk_drew ?_ | refine blk_alloc ?_ _)); exact BK387.out)) : gb392 ≠ gb387))
          have n12_ := Aside0.mk ((by rw [hg]; exact Nat.ne_of_lt (blk_lt (g := gb390) (o := .cells #[.int .i64 x391000_2, .bool t389] 23 (0, 0)) (by (with_reducible repeat (first | refine blk_drewN ?_ _ | refine blk_drew ?_ | refine blk_alloc ?_ _)); exact BK390.out)) : gb390 ≠ gb392))
          have n13_ := Aside0.mk ((by rw [hg]; exact Nat.ne_of_gt (blk_lt (g := gb390) (o := .cells #[.int .i64 x391000_2, .bool t389] 23 (0, 0)) (by (with_reducible repeat (first | refine blk_drewN ?_ _ | refine blk_drew ?_ | refine blk_alloc ?_ _)); exact BK390.out)) : gb392 ≠ gb390))
          have n14_ := Aside0.mk ((by rw [hg]; exact Nat.ne_of_lt (blk_lt (g := gb391) (o := .cells #[.int .i64 0, .bool false] 23 (0, 0)) (by (with_reducible repeat (first | refine blk_drewN ?_ _ | refine blk_drew ?_ | refine blk_alloc ?_ _)); exact BK391.out)) : gb391 ≠ gb392))
          have n15_ := Aside0.mk ((by rw [hg]; exact Nat.ne_of_gt (blk_lt (g := gb391) (o := .cells #[.int .i64 0, .bool false] 23 (0, 0)) (by (with_reducible repeat (first | refine blk_drewN ?_ _ | refine blk_drew ?_ | refine blk_alloc ?_ _)); exact BK391.out)) : gb392 ≠ gb391))
          clear BK386
          clear BK387
          clear BK390
          clear BK391
          clear HB
          have BK386 := n0_
          have BK387 := n1_
          have BK390 := n2_
          have BK391 := n3_
          have HB := n4_
          have BK392 := n5_
          have GW392 := n6_
          have GE392 := n7_
          have NB386_392 := n8_
          have NB392_386 := n9_
          have NB387_392 := n10_
          have NB392_387 := n11_
          have NB390_392 := n12_
          have NB392_390 := n13_
          have NB391_392 := n14_
          have NB392_391 := n15_
          clear n0_ n1_ n2_ n3_ n4_ n5_ n6_ n7_ n8_ n9_ n10_ n11_ n12_ n13_ n14_ n15_
          clear hb hbox hg
          refine hK.out _ _ ⟨(blk_cell BK390.out 0).trans rfl, (blk_cell BK390.out 1).trans rfl⟩ (fun hHeld => ?_)
          clear hK K
          refine norm_ (a' := ?_) ?_ ?_
          rotate_left
          · show Act.put _ (some 5) _ = _
            simp only [Act.put, List.setIfInBounds_toArray, List.set_cons_zero, List.set_cons_succ, i64_w, i32_w]
            rfl
          exact norm_ (by simp only [putAll, Act.put, List.setIfInBounds_toArray, List.set_cons_zero, List.set_cons_succ]) (hCont (gb391, gb392) _ ⟨hHeld, (by (with_reducible repeat (first | refine blk_drewN ?_ _ | refine blk_drew ?_ | refine blk_alloc ?_ _)); exact BK386.out), (by (with_reducible repeat (first | refine blk_drewN ?_ _ | refine blk_drew ?_ | refine blk_alloc ?_ _)); exact BK387.out), (by (with_reducible repeat (first | refine blk_drewN ?_ _ | refine blk_drew ?_ | refine blk_alloc ?_ _)); exact BK390.out), (by (with_reducible repeat (first | refine blk_drewN ?_ _ | refine blk_drew ?_ | refine blk_alloc ?_ _)); exact BK391.out), (by (with_reducible repeat (first | refine blk_drewN ?_ _ | refine blk_drew ?_ | refine blk_alloc ?_ _)); exact BK392.out), GW391.out, GE391.out, NB386_391.out, NB391_386.out, NB387_391.out, NB391_387.out, NB390_391.out, NB391_390.out, NB392_391.out, NB391_392.out, GW392.out, GE392.out, NB386_392.out, NB392_386.out, NB387_392.out, NB392_387.out, NB390_392.out, NB392_390.out, (by repeat (first | (with_reducible first | exact HB.out | apply below_alloc | apply pw_below_drewN | apply below_drew1 | refine below_set ?_ GE386.out | refine below_set ?_ GE387.out | refine below_set ?_ GE390.out | refine below_set ?_ GE391.out | refine below_set ?_ GE392.out) | exact HB.out))⟩)
        · skip
          refine box_step ?hg (N := 5) ?hd (cs := #[.int .i64 0, .bool false]) (t := 23) ?hr ?_; (case hd => rfl); (case hg => rfl); (case hr => first | (go_simp; done) | (go_simp; rfl))
          intro gb392 hg w25 hbox hb
          have n0_ := Aside0.mk (blk_below (g := gb386) (o := .cells #[.int .i64 a0_0, .bool a0_1] 23 (0, 0)) (by (with_reducible repeat (first | refine blk_drewN ?_ _ | refine blk_drew ?_ | refine blk_alloc ?_ _)); exact BK386.out) hb)
          have n1_ := Aside0.mk (blk_below (g := gb387) (o := .cells #[.int .i64 0, .bool false] 23 (0, 0)) (by (with_reducible repeat (first | refine blk_drewN ?_ _ | refine blk_drew ?_ | refine blk_alloc ?_ _)); exact BK387.out) hb)
          have n2_ := Aside0.mk (blk_below (g := gb390) (o := .cells #[.int .i64 x391000_2, .bool t389] 23 (0, 0)) (by (with_reducible repeat (first | refine blk_drewN ?_ _ | refine blk_drew ?_ | refine blk_alloc ?_ _)); exact BK390.out) hb)
          have n3_ := Aside0.mk (below_step (by repeat (first | (with_reducible first | exact HB.out | apply below_alloc | apply pw_below_drewN | apply below_drew1 | refine below_set ?_ GE386.out | refine below_set ?_ GE387.out | refine below_set ?_ GE390.out) | exact HB.out)) hb)
          have n4_ := Aside0.mk (hbox)
          have n5_ := Aside0.mk ((by rw [hg]; exact (below_size (by repeat (first | (with_reducible first | exact HB.out | apply below_alloc | apply pw_below_drewN | apply below_drew1 | refine below_set ?_ GE386.out | refine below_set ?_ GE387.out | refine below_set ?_ GE390.out) | exact HB.out))) : w.heap.size ≤ gb392))
          have n6_ := Aside0.mk ((by rw [hg]; exact (below_size (by repeat (first | (with_reducible first | exact HB.out | apply below_alloc | apply pw_below_drewN | apply below_drew1 | refine below_set ?_ GE386.out | refine below_set ?_ GE387.out | refine below_set ?_ GE390.out) | exact HB.out))) : w.heap.size ≤ gb392))
          have n7_ := Aside0.mk ((by rw [hg]; exact Nat.ne_of_lt (blk_lt (g := gb386) (o := .cells #[.int .i64 a0_0, .bool a0_1] 23 (0, 0)) (by (with_reducible repeat (first | refine blk_drewN ?_ _ | refine blk_drew ?_ | refine blk_alloc ?_ _)); exact BK386.out)) : gb386 ≠ gb392))
          have n8_ := Aside0.mk ((by rw [hg]; exact Nat.ne_of_gt (blk_lt (g := gb386) (o := .cells #[.int .i64 a0_0, .bool a0_1] 23 (0, 0)) (by (with_reducible repeat (first | refine blk_drewN ?_ _ | refine blk_drew ?_ | refine blk_alloc ?_ _)); exact BK386.out)) : gb392 ≠ gb386))
          have n9_ := Aside0.mk ((by rw [hg]; exact Nat.ne_of_lt (blk_lt (g := gb387) (o := .cells #[.int .i64 0, .bool false] 23 (0, 0)) (by (with_reducible repeat (first | refine blk_drewN ?_ _ | refine blk_drew ?_ | refine blk_alloc ?_ _)); exact BK387.out)) : gb387 ≠ gb392))
          have n10_ := Aside0.mk ((by rw [hg]; exact Nat.ne_of_gt (blk_lt (g := gb387) (o := .cells #[.int .i64 0, .bool false] 23 (0, 0)) (by (with_reducible repeat (first | refine blk_drewN ?_ _ | refine blk_drew ?_ | refine blk_alloc ?_ _)); exact BK387.out)) : gb392 ≠ gb387))
          have n11_ := Aside0.mk ((by rw [hg]; exact Nat.ne_of_lt (blk_lt (g := gb390) (o := .cells #[.int .i64 x391000_2, .bool t389] 23 (0, 0)) (by (with_reducible repeat (first | refine blk_drewN ?_ _ | refine blk_drew ?_ | refine blk_alloc ?_ _)); exact BK390.out)) : gb390 ≠ gb392))
          have n12_ := Aside0.mk ((by rw [hg]; exact Nat.ne_of_gt (blk_lt (g := gb390) (o := .cells #[.int .i64 x391000_2, .bool t389] 23 (0, 0)) (by (with_reducible repeat (first | refine blk_drewN ?_ _ | refine blk_drew ?_ | refine blk_alloc ?_ _)); exact BK390.out)) : gb392 ≠ gb390))
          clear BK386
          clear BK387
          clear BK390
          clear HB
          have BK386 := n0_
          have BK387 := n1_
          have BK390 := n2_
          have HB := n3_
          have BK392 := n4_
          have GW392 := n5_
          have GE392 := n6_
          have NB386_392 := n7_
          have NB392_386 := n8_
          have NB387_392 := n9_
          have NB392_387 := n10_
          have NB390_392 := n11_
          have NB392_390 := n12_
          clear n0_ n1_ n2_ n3_ n4_ n5_ n6_ n7_ n8_ n9_ n10_ n11_ n12_
          clear hb hbox hg
          refine hK.out _ _ ⟨(blk_cell BK390.out 0).trans rfl, (blk_cell BK390.out 1).trans rfl⟩ (fun hHeld => ?_)
          clear hK K
          refine norm_ (a' := ?_) ?_ ?_
          rotate_left
          · show Act.put _ (some 5) _ = _
            simp only [Act.put, List.setIfInBounds_toArray, List.set_cons_zero, List.set_cons_succ, i64_w, i32_w]
            rfl
          refine one_ (i := 2) (N := some 4) #[true, true, true, true, false, false] rfl rfl (by kernel_rfl) (by decide) (fun K hK => ?_)
          refine box_step ?hg (N := 4) ?hd (cs := #[.int .i64 0, .bool false]) (t := 23) ?hr ?_; (case hd => rfl); (case hg => rfl); (case hr => first | (go_simp; done) | (go_simp; rfl))
          intro gb391 hg w26 hbox hb
          have n0_ := Aside0.mk (blk_below (g := gb386) (o := .cells #[.int .i64 a0_0, .bool a0_1] 23 (0, 0)) (by (with_reducible repeat (first | refine blk_drewN ?_ _ | refine blk_drew ?_ | refine blk_alloc ?_ _)); exact BK386.out) hb)
          have n1_ := Aside0.mk (blk_below (g := gb387) (o := .cells #[.int .i64 0, .bool false] 23 (0, 0)) (by (with_reducible repeat (first | refine blk_drewN ?_ _ | refine blk_drew ?_ | refine blk_alloc ?_ _)); exact BK387.out) hb)
          have n2_ := Aside0.mk (blk_below (g := gb390) (o := .cells #[.int .i64 x391000_2, .bool t389] 23 (0, 0)) (by (with_reducible repeat (first | refine blk_drewN ?_ _ | refine blk_drew ?_ | refine blk_alloc ?_ _)); exact BK390.out) hb)
          have n3_ := Aside0.mk (blk_below (g := gb392) (o := .cells #[.int .i64 0, .bool false] 23 (0, 0)) (by (with_reducible repeat (first | refine blk_drewN ?_ _ | refine blk_drew ?_ | refine blk_alloc ?_ _)); exact BK392.out) hb)
          have n4_ := Aside0.mk (below_step (by repeat (first | (with_reducible first | exact HB.out | apply below_alloc | apply pw_below_drewN | apply below_drew1 | refine below_set ?_ GE386.out | refine below_set ?_ GE387.out | refine below_set ?_ GE390.out | refine below_set ?_ GE392.out) | exact HB.out)) hb)
          have n5_ := Aside0.mk (hbox)
          have n6_ := Aside0.mk ((by rw [hg]; exact (below_size (by repeat (first | (with_reducible first | exact HB.out | apply below_alloc | apply pw_below_drewN | apply below_drew1 | refine below_set ?_ GE386.out | refine below_set ?_ GE387.out | refine below_set ?_ GE390.out | refine below_set ?_ GE392.out) | exact HB.out))) : w.heap.size ≤ gb391))
          have n7_ := Aside0.mk ((by rw [hg]; exact (below_size (by repeat (first | (with_reducible first | exact HB.out | apply below_alloc | apply pw_below_drewN | apply below_drew1 | refine below_set ?_ GE386.out | refine below_set ?_ GE387.out | refine below_set ?_ GE390.out | refine below_set ?_ GE392.out) | exact HB.out))) : w.heap.size ≤ gb391))
          have n8_ := Aside0.mk ((by rw [hg]; exact Nat.ne_of_lt (blk_lt (g := gb386) (o := .cells #[.int .i64 a0_0, .bool a0_1] 23 (0, 0)) (by (with_reducible repeat (first | refine blk_drewN ?_ _ | refine blk_drew ?_ | refine blk_alloc ?_ _)); exact BK386.out)) : gb386 ≠ gb391))
          have n9_ := Aside0.mk ((by rw [hg]; exact Nat.ne_of_gt (blk_lt (g := gb386) (o := .cells #[.int .i64 a0_0, .bool a0_1] 23 (0, 0)) (by (with_reducible repeat (first | refine blk_drewN ?_ _ | refine blk_drew ?_ | refine blk_alloc ?_ _)); exact BK386.out)) : gb391 ≠ gb386))
          have n10_ := Aside0.mk ((by rw [hg]; exact Nat.ne_of_lt (blk_lt (g := gb387) (o := .cells #[.int .i64 0, .bool false] 23 (0, 0)) (by (with_reducible repeat (first | refine blk_drewN ?_ _ | refine blk_drew ?_ | refine blk_alloc ?_ _)); exact BK387.out)) : gb387 ≠ gb391))
          have n11_ := Aside0.mk ((by rw [hg]; exact Nat.ne_of_gt (blk_lt (g := gb387) (o := .cells #[.int .i64 0, .bool false] 23 (0, 0)) (by (with_reducible repeat (first | refine blk_drewN ?_ _ | refine blk_drew ?_ | refine blk_alloc ?_ _)); exact BK387.out)) : gb391 ≠ gb387))
          have n12_ := Aside0.mk ((by rw [hg]; exact Nat.ne_of_lt (blk_lt (g := gb390) (o := .cells #[.int .i64 x391000_2, .bool t389] 23 (0, 0)) (by (with_reducible repeat (first | refine blk_drewN ?_ _ | refine blk_drew ?_ | refine blk_alloc ?_ _)); exact BK390.out)) : gb390 ≠ gb391))
          have n13_ := Aside0.mk ((by rw [hg]; exact Nat.ne_of_gt (blk_lt (g := gb390) (o := .cells #[.int .i64 x391000_2, .bool t389] 23 (0, 0)) (by (with_reducible repeat (first | refine blk_drewN ?_ _ | refine blk_drew ?_ | refine blk_alloc ?_ _)); exact BK390.out)) : gb391 ≠ gb390))
          have n14_ := Aside0.mk ((by rw [hg]; exact Nat.ne_of_lt (blk_lt (g := gb392) (o := .cells #[.int .i64 0, .bool false] 23 (0, 0)) (by (with_reducible repeat (first | refine blk_drewN ?_ _ | refine blk_drew ?_ | refine blk_alloc ?_ _)); exact BK392.out)) : gb392 ≠ gb391))
          have n15_ := Aside0.mk ((by rw [hg]; exact Nat.ne_of_gt (blk_lt (g := gb392) (o := .cells #[.int .i64 0, .bool false] 23 (0, 0)) (by (with_reducible repeat (first | refine blk_drewN ?_ _ | refine blk_drew ?_ | refine blk_alloc ?_ _)); exact BK392.out)) : gb391 ≠ gb392))
          clear BK386
          clear BK387
          clear BK390
          clear BK392
          clear HB
          have BK386 := n0_
          have BK387 := n1_
          have BK390 := n2_
          have BK392 := n3_
          have HB := n4_
          have BK391 := n5_
          have GW391 := n6_
          have GE391 := n7_
          have NB386_391 := n8_
          have NB391_386 := n9_
          have NB387_391 := n10_
          have NB391_387 := n11_
          have NB390_391 := n12_
          have NB391_390 := n13_
          have NB392_391 := n14_
          have NB391_392 := n15_
          clear n0_ n1_ n2_ n3_ n4_ n5_ n6_ n7_ n8_ n9_ n10_ n11_ n12_ n13_ n14_ n15_
          clear hb hbox hg
          refine hK.out _ _ ⟨(blk_cell BK390.out 0).trans rfl, (blk_cell BK390.out 1).trans rfl⟩ (fun hHeld => ?_)
          clear hK K
          refine norm_ (a' := ?_) ?_ ?_
          rotate_left
          · show Act.put _ (some 4) _ = _
            simp only [Act.put, List.setIfInBounds_toArray, List.set_cons_zero, List.set_cons_succ, i64_w, i32_w]
            rfl
          exact norm_ (by simp only [putAll, Act.put, List.setIfInBounds_toArray, List.set_cons_zero, List.set_cons_succ]) (hCont (gb391, gb392) _ ⟨hHeld, (by (with_reducible repeat (first | refine blk_drewN ?_ _ | refine blk_drew ?_ | refine blk_alloc ?_ _)); exact BK386.out), (by (with_reducible repeat (first | refine blk_drewN ?_ _ | refine blk_drew ?_ | refine blk_alloc ?_ _)); exact BK387.out), (by (with_reducible repeat (first | refine blk_drewN ?_ _ | refine blk_drew ?_ | refine blk_alloc ?_ _)); exact BK390.out), (by (with_reducible repeat (first | refine blk_drewN ?_ _ | refine blk_drew ?_ | refine blk_alloc ?_ _)); exact BK391.out), (by (with_reducible repeat (first | refine blk_drewN ?_ _ | refine blk_drew ?_ | refine blk_alloc ?_ _)); exact BK392.out), GW391.out, GE391.out, NB386_391.out, NB391_386.out, NB387_391.out, NB391_387.out, NB390_391.out, NB391_390.out, NB392_391.out, NB391_392.out, GW392.out, GE392.out, NB386_392.out, NB392_386.out, NB387_392.out, NB392_387.out, NB390_392.out, NB392_390.out, (by repeat (first | (with_reducible first | exact HB.out | apply below_alloc | apply pw_below_drewN | apply below_drew1 | refine below_set ?_ GE386.out | refine below_set ?_ GE387.out | refine below_set ?_ GE390.out | refine below_set ?_ GE392.out | refine below_set ?_ GE391.out) | exact HB.out))⟩)
      rintro ⟨gb391, gb392⟩ w27 ⟨hS_, h0_, h1_, h2_, h3_, h4_, h5_, h6_, h7_, h8_, h9_, h10_, h11_, h12_, h13_, h14_, h15_, h16_, h17_, h18_, h19_, h20_, h21_, h22_, h23_⟩
      have n0_ : Aside0 (w27.heap[gb386]? = some (.cells #[.int .i64 a0_0, .bool a0_1] 23 (0, 0))) := ⟨h0_⟩
      have n1_ : Aside0 (w27.heap[gb387]? = some (.cells #[.int .i64 0, .bool false] 23 (0, 0))) := ⟨h1_⟩
      have n2_ : Aside0 (w27.heap[gb390]? = some (.cells #[.int .i64 x391000_2, .bool t389] 23 (0, 0))) := ⟨h2_⟩
      have n3_ : Aside0 (w27.heap[gb391]? = some (.cells #[.int .i64 0, .bool false] 23 (0, 0))) := ⟨h3_⟩
      have n4_ : Aside0 (w27.heap[gb392]? = some (.cells #[.int .i64 0, .bool false] 23 (0, 0))) := ⟨h4_⟩
      have n5_ : Aside0 (w.heap.size ≤ gb391) := ⟨h5_⟩
      have n6_ : Aside0 (w.heap.size ≤ gb391) := ⟨h6_⟩
      have n7_ : Aside0 (gb386 ≠ gb391) := ⟨h7_⟩
      have n8_ : Aside0 (gb391 ≠ gb386) := ⟨h8_⟩
      have n9_ : Aside0 (gb387 ≠ gb391) := ⟨h9_⟩
      have n10_ : Aside0 (gb391 ≠ gb387) := ⟨h10_⟩
      have n11_ : Aside0 (gb390 ≠ gb391) := ⟨h11_⟩
      have n12_ : Aside0 (gb391 ≠ gb390) := ⟨h12_⟩
      have n13_ : Aside0 (gb392 ≠ gb391) := ⟨h13_⟩
      have n14_ : Aside0 (gb391 ≠ gb392) := ⟨h14_⟩
      have n15_ : Aside0 (w.heap.size ≤ gb392) := ⟨h15_⟩
      have n16_ : Aside0 (w.heap.size ≤ gb392) := ⟨h16_⟩
      have n17_ : Aside0 (gb386 ≠ gb392) := ⟨h17_⟩
      have n18_ : Aside0 (gb392 ≠ gb386) := ⟨h18_⟩
      have n19_ : Aside0 (gb387 ≠ gb392) := ⟨h19_⟩
      have n20_ : Aside0 (gb392 ≠ gb387) := ⟨h20_⟩
      have n21_ : Aside0 (gb390 ≠ gb392) := ⟨h21_⟩
      have n22_ : Aside0 (gb392 ≠ gb390) := ⟨h22_⟩
      have n23_ : Aside0 (Below w.heap.size w w27) := ⟨h23_⟩
      clear BK386
      clear BK387
      clear BK390
      clear HB
      clear h0_ h1_ h2_ h3_ h4_ h5_ h6_ h7_ h8_ h9_ h10_ h11_ h12_ h13_ h14_ h15_ h16_ h17_ h18_ h19_ h20_ h21_ h22_ h23_
      have BK386 := n0_
      have BK387 := n1_
      have BK390 := n2_
      have BK391 := n3_
      have BK392 := n4_
      have GW391 := n5_
      have GE391 := n6_
      have NB386_391 := n7_
      have NB391_386 := n8_
      have NB387_391 := n9_
      have NB391_387 := n10_
      have NB390_391 := n11_
      have NB391_390 := n12_
      have NB392_391 := n13_
      have NB391_392 := n14_
      have GW392 := n15_
      have GE392 := n16_
      have NB386_392 := n17_
      have NB392_386 := n18_
      have NB387_392 := n19_
      have NB392_387 := n20_
      have NB390_392 := n21_
      have NB392_390 := n22_
      have HB := n23_
      clear n0_ n1_ n2_ n3_ n4_ n5_ n6_ n7_ n8_ n9_ n10_ n11_ n12_ n13_ n14_ n15_ n16_ n17_ n18_ n19_ n20_ n21_ n22_ n23_
      have hHeld : w27.cell? ⟨gb390, 0, none⟩ = some (.int .i64 x391000_2) ∧ w27.cell? ⟨gb390, 1, none⟩ = some (.bool t389) := hS_
      refine norm_ (a' := ?_) ?_ ?_
      rotate_left
      · simp only [putAll, Act.put, List.setIfInBounds_toArray, List.set_cons_zero, List.set_cons_succ]
        rfl
      refine one_ (i := 4) (N := none) #[true, true, true, true, true, false] rfl rfl (by kernel_rfl) (by decide) (fun K hK => ?_)
      have hs28 : w27.cell? ⟨gb391, 0, none⟩ = some (.int .i64 0) := (blk_cell BK391.out 0).trans rfl
      have hfs28 := blk_frozen BK391.out 0
      have hns28_0 := NB386_391.out
      have hns28_1 := NB387_391.out
      have hns28_2 := NB390_391.out
      have hns28_4 := NB392_391.out
      have hms28_0 := NB391_386.out
      have hms28_1 := NB391_387.out
      have hms28_2 := NB391_390.out
      have hms28_4 := NB391_392.out
      have hs29 : w27.cell? ⟨gb391, 1, none⟩ = some (.bool false) := (blk_cell BK391.out 1).trans rfl
      have hfs29 := blk_frozen BK391.out 1
      have hns29_0 := NB386_391.out
      have hns29_1 := NB387_391.out
      have hns29_2 := NB390_391.out
      have hns29_4 := NB392_391.out
      have hms29_0 := NB391_386.out
      have hms29_1 := NB391_387.out
      have hms29_2 := NB391_390.out
      have hms29_4 := NB391_392.out
      refine skip_ (w1 := ?_) (by rfl) rfl ?_ ?_
      rotate_left
      · go_simp
        rfl
      refine hK.out _ _ ⟨((cell_far (p := ⟨gb391, _, none⟩) NB390_391.out _).trans (((cell_far (p := ⟨gb391, _, none⟩) NB390_391.out _).trans (hHeld.1)))), ((cell_far (p := ⟨gb391, _, none⟩) NB390_391.out _).trans (((cell_far (p := ⟨gb391, _, none⟩) NB390_391.out _).trans (hHeld.2))))⟩ (fun hHeld => ?_)
      clear hK K
      refine one_ (i := 5) (N := none) #[true, true, true, true, true, true] rfl rfl (by kernel_rfl) (by decide) (fun K hK => ?_)
      have hs30 : w27.cell? ⟨gb392, 0, none⟩ = some (.int .i64 0) := (blk_cell BK392.out 0).trans rfl
      have hfs30 := blk_frozen BK392.out 0
      have hns30_0 := NB386_392.out
      have hns30_1 := NB387_392.out
      have hns30_2 := NB390_392.out
      have hns30_3 := NB391_392.out
      have hms30_0 := NB392_386.out
      have hms30_1 := NB392_387.out
      have hms30_2 := NB392_390.out
      have hms30_3 := NB392_391.out
      have hs31 : w27.cell? ⟨gb392, 1, none⟩ = some (.bool false) := (blk_cell BK392.out 1).trans rfl
      have hfs31 := blk_frozen BK392.out 1
      have hns31_0 := NB386_392.out
      have hns31_1 := NB387_392.out
      have hns31_2 := NB390_392.out
      have hns31_3 := NB391_392.out
      have hms31_0 := NB392_386.out
      have hms31_1 := NB392_387.out
      have hms31_2 := NB392_390.out
      have hms31_3 := NB392_391.out
      refine skip_ (w1 := ?_) (by rfl) rfl ?_ ?_
      rotate_left
      · go_simp
        rfl
      refine hK.out _ _ ⟨((cell_far (p := ⟨gb392, _, none⟩) NB390_392.out _).trans (((cell_far (p := ⟨gb392, _, none⟩) NB390_392.out _).trans (hHeld.1)))), ((cell_far (p := ⟨gb392, _, none⟩) NB390_392.out _).trans (((cell_far (p := ⟨gb392, _, none⟩) NB390_392.out _).trans (hHeld.2))))⟩ (fun hHeld => ?_)
      clear hK K
      refine done_ (by kernel_rfl) ?_
      try go_wp2
      go_loopg [28] kj2 (fun kq v28 w' => ∃ (x28_2 : Int) (x392000_2 : Int) (x392001_2 : Bool) (x393000_2 : Int) (x393001_2 : Bool), v28 = .int .i64 x28_2 ∧ Aside0 (fixed_Sin.l0 kq x28_2 x391000_2 t389 x392000_2 x392001_2 x393000_2 x393001_2 = some (r1, r2)) ∧ Aside0 (kq ≤ kj2) ∧ Aside0 (w'.heap[gb386]? = some (.cells #[.int .i64 a0_0, .bool a0_1] 23 (0, 0))) ∧ Aside0 (w'.heap[gb387]? = some (.cells #[.int .i64 0, .bool false] 23 (0, 0))) ∧ Aside0 (w'.heap[gb390]? = some (.cells #[.int .i64 x391000_2, .bool t389] 23 (0, 0))) ∧ Aside0 (w'.heap[gb391]? = some (.cells #[.int .i64 x392000_2, .bool x392001_2] 23 (0, 0))) ∧ Aside0 (w'.heap[gb392]? = some (.cells #[.int .i64 x393000_2, .bool x393001_2] 23 (0, 0))) ∧ Aside0 (Below w.heap.size w w'))
      case atStart => exact ⟨(0), (x391000_2), (t389), (x391000_2), (t389), (by first | rfl | (simp; done) | (simp [*]; done)), H', ⟨Nat.le_refl _⟩, ⟨by (with_reducible repeat (first | refine blk_drewN ?_ _ | refine blk_drew ?_ | refine blk_alloc ?_ _)); refine blk_far ?_ NB386_392.out _; (with_reducible repeat (first | refine blk_drewN ?_ _ | refine blk_drew ?_ | refine blk_alloc ?_ _)); refine blk_far ?_ NB386_392.out _; (with_reducible repeat (first | refine blk_drewN ?_ _ | refine blk_drew ?_ | refine blk_alloc ?_ _)); refine blk_far ?_ NB386_391.out _; (with_reducible repeat (first | refine blk_drewN ?_ _ | refine blk_drew ?_ | refine blk_alloc ?_ _)); refine blk_far ?_ NB386_391.out _; (with_reducible repeat (first | refine blk_drewN ?_ _ | refine blk_drew ?_ | refine blk_alloc ?_ _)); exact BK386.out⟩, ⟨by (with_reducible repeat (first | refine blk_drewN ?_ _ | refine blk_drew ?_ | refine blk_alloc ?_ _)); refine blk_far ?_ NB387_392.out _; (with_reducible repeat (first | refine blk_drewN ?_ _ | refine blk_drew ?_ | refine blk_alloc ?_ _)); refine blk_far ?_ NB387_392.out _; (with_reducible repeat (first | refine blk_drewN ?_ _ | refine blk_drew ?_ | refine blk_alloc ?_ _)); refine blk_far ?_ NB387_391.out _; (with_reducible repeat (first | refine blk_drewN ?_ _ | refine blk_drew ?_ | refine blk_alloc ?_ _)); refine blk_far ?_ NB387_391.out _; (with_reducible repeat (first | refine blk_drewN ?_ _ | refine blk_drew ?_ | refine blk_alloc ?_ _)); exact BK387.out⟩, ⟨by (with_reducible repeat (first | refine blk_drewN ?_ _ | refine blk_drew ?_ | refine blk_alloc ?_ _)); refine blk_far ?_ NB390_392.out _; (with_reducible repeat (first | refine blk_drewN ?_ _ | refine blk_drew ?_ | refine blk_alloc ?_ _)); refine blk_far ?_ NB390_392.out _; (with_reducible repeat (first | refine blk_drewN ?_ _ | refine blk_drew ?_ | refine blk_alloc ?_ _)); refine blk_far ?_ NB390_391.out _; (with_reducible repeat (first | refine blk_drewN ?_ _ | refine blk_drew ?_ | refine blk_alloc ?_ _)); refine blk_far ?_ NB390_391.out _; (with_reducible repeat (first | refine blk_drewN ?_ _ | refine blk_drew ?_ | refine blk_alloc ?_ _)); exact BK390.out⟩, ⟨by (with_reducible repeat (first | refine blk_drewN ?_ _ | refine blk_drew ?_ | refine blk_alloc ?_ _)); refine blk_far ?_ NB391_392.out _; (with_reducible repeat (first | refine blk_drewN ?_ _ | refine blk_drew ?_ | refine blk_alloc ?_ _)); refine blk_far ?_ NB391_392.out _; (with_reducible repeat (first | refine blk_drewN ?_ _ | refine blk_drew ?_ | refine blk_alloc ?_ _)); refine blk_put (cs := #[.int .i64 x391000_2, .bool false]) ?_ 1 _ rfl; (with_reducible repeat (first | refine blk_drewN ?_ _ | refine blk_drew ?_ | refine blk_alloc ?_ _)); refine blk_put (cs := #[.int .i64 0, .bool false]) ?_ 0 _ rfl; (with_reducible repeat (first | refine blk_drewN ?_ _ | refine blk_drew ?_ | refine blk_alloc ?_ _)); exact BK391.out⟩, ⟨by (with_reducible repeat (first | refine blk_drewN ?_ _ | refine blk_drew ?_ | refine blk_alloc ?_ _)); refine blk_put (cs := #[.int .i64 x391000_2, .bool false]) ?_ 1 _ rfl; (with_reducible repeat (first | refine blk_drewN ?_ _ | refine blk_drew ?_ | refine blk_alloc ?_ _)); refine blk_put (cs := #[.int .i64 0, .bool false]) ?_ 0 _ rfl; (with_reducible repeat (first | refine blk_drewN ?_ _ | refine blk_drew ?_ | refine blk_alloc ?_ _)); refine blk_far ?_ NB392_391.out _; (with_reducible repeat (first | refine blk_drewN ?_ _ | refine blk_drew ?_ | refine blk_alloc ?_ _)); refine blk_far ?_ NB392_391.out _; (with_reducible repeat (first | refine blk_drewN ?_ _ | refine blk_drew ?_ | refine blk_alloc ?_ _)); exact BK392.out⟩, ⟨by repeat (first | (with_reducible first | exact HB.out | apply below_alloc | apply pw_below_drewN | apply below_drew1 | refine below_set ?_ GE386.out | refine below_set ?_ GE387.out | refine below_set ?_ GE390.out | refine below_set ?_ GE391.out | refine below_set ?_ GE392.out) | exact HB.out)⟩⟩
      case round =>
        clear H'
        try clear c1
        try clear c2
        try clear p2
        try clear c4
        try clear c6
        try clear p6
        try clear c10
        try clear c11
        try clear c13
        try clear c13b0
        try clear c14
        try clear c15
        try clear c17
        try clear c17b0
        try clear c18
        try clear c19
        try clear c21
        try clear c22
        try clear hcz12_0
        try clear hcz12_1
        try clear hcz16_0
        try clear hcz16_1
        try clear hcz20_0
        try clear hcz20_1
        try clear hcz23_0
        try clear hcz23_1
        try clear hcz7_0
        try clear hcz7_1
        try clear hfz12_0
        try clear hfz12_1
        try clear hfz16_0
        try clear hfz16_1
        try clear hfz20_0
        try clear hfz20_1
        try clear hfz23_0
        try clear hfz23_1
        try clear hfz7_0
        try clear hfz7_1
        try clear p2
        try clear p6
        obtain ⟨x28_2, x392000_2, x392001_2, x393000_2, x393001_2, rfl, HA, HK2, BK386, BK387, BK390, BK391, BK392, HB⟩ := hrel
        cases gk with
        | zero => exact absurd HA.out (by simp [fixed_Sin.l0])
        | succ k2 =>
          have H := HA.out
          clear HA
          simp only [fixed_Sin.l0] at H
          by_cases c32 : x28_2 < 8
          · rw [if_pos c32] at H
            have c32b0 : decide (x28_2 < 8) = true := decide_eq_true c32
            clear c32
            replace H := Option.bind_eq_some_iff.mp H
            obtain ⟨⟨t399, t400⟩, A330, H⟩ := H
            replace H : ((fixed_Mul.f k2 t399 t400 x391000_2 t389).bind fun bt401 => ((fixed_Int.f k2 (wrap64 ((wrap64 (2 * (wrap64 (x28_2 + 1)))) * (wrap64 ((wrap64 (2 * (wrap64 (x28_2 + 1)))) + 1))))).bind fun bt403 => ((fixed_Div.f k2 bt401.1 bt401.2 bt403.1 bt403.2).bind fun bt405 => ((fixed_Neg.f bt405.1 bt405.2).bind fun bt407 => ((fixed_Add.f k2 x393000_2 x393001_2 bt407.1 bt407.2).bind fun bt409 => (fixed_Sin.l0 k2 (wrap64 (x28_2 + 1)) x391000_2 t389 bt407.1 bt407.2 bt409.1 bt409.2)))))) = some (r1, r2) := H
            have A33 := Aside0.mk A330
            clear A330
            replace H := Option.bind_eq_some_iff.mp H
            obtain ⟨⟨t401, t402⟩, A340, H⟩ := H
            replace H : ((fixed_Int.f k2 (wrap64 ((wrap64 (2 * (wrap64 (x28_2 + 1)))) * (wrap64 ((wrap64 (2 * (wrap64 (x28_2 + 1)))) + 1))))).bind fun bt403 => ((fixed_Div.f k2 t401 t402 bt403.1 bt403.2).bind fun bt405 => ((fixed_Neg.f bt405.1 bt405.2).bind fun bt407 => ((fixed_Add.f k2 x393000_2 x393001_2 bt407.1 bt407.2).bind fun bt409 => (fixed_Sin.l0 k2 (wrap64 (x28_2 + 1)) x391000_2 t389 bt407.1 bt407.2 bt409.1 bt409.2))))) = some (r1, r2) := H
            have A34 := Aside0.mk A340
            clear A340
            replace H := Option.bind_eq_some_iff.mp H
            obtain ⟨⟨t403, t404⟩, A350, H⟩ := H
            replace H : ((fixed_Div.f k2 t401 t402 t403 t404).bind fun bt405 => ((fixed_Neg.f bt405.1 bt405.2).bind fun bt407 => ((fixed_Add.f k2 x393000_2 x393001_2 bt407.1 bt407.2).bind fun bt409 => (fixed_Sin.l0 k2 (wrap64 (x28_2 + 1)) x391000_2 t389 bt407.1 bt407.2 bt409.1 bt409.2)))) = some (r1, r2) := H
            have A35 := Aside0.mk A350
            clear A350
            replace H := Option.bind_eq_some_iff.mp H
            obtain ⟨⟨t405, t406⟩, A360, H⟩ := H
            replace H : ((fixed_Neg.f t405 t406).bind fun bt407 => ((fixed_Add.f k2 x393000_2 x393001_2 bt407.1 bt407.2).bind fun bt409 => (fixed_Sin.l0 k2 (wrap64 (x28_2 + 1)) x391000_2 t389 bt407.1 bt407.2 bt409.1 bt409.2))) = some (r1, r2) := H
            have A36 := Aside0.mk A360
            clear A360
            replace H := Option.bind_eq_some_iff.mp H
            obtain ⟨⟨t407, t408⟩, A370, H⟩ := H
            replace H : ((fixed_Add.f k2 x393000_2 x393001_2 t407 t408).bind fun bt409 => (fixed_Sin.l0 k2 (wrap64 (x28_2 + 1)) x391000_2 t389 t407 t408 bt409.1 bt409.2)) = some (r1, r2) := H
            have A37 := Aside0.mk A370
            clear A370
            replace H := Option.bind_eq_some_iff.mp H
            obtain ⟨⟨t409, t410⟩, A380, H⟩ := H
            replace H : (fixed_Sin.l0 k2 (wrap64 (x28_2 + 1)) x391000_2 t389 t407 t408 t409 t410) = some (r1, r2) := H
            have A38 := Aside0.mk A380
            clear A380
            have H' := Aside0.mk H
            clear H
            try go_wp2
            have n0_ := Aside0.mk (blk_drew BK386.out)
            have n1_ := Aside0.mk (blk_drew BK387.out)
            have n2_ := Aside0.mk (blk_drew BK390.out)
            have n3_ := Aside0.mk (blk_drew BK391.out)
            have n4_ := Aside0.mk (blk_drew BK392.out)
            have n5_ := Aside0.mk (below_drew1 HB.out)
            clear BK386
            clear BK387
            clear BK390
            clear BK391
            clear BK392
            clear HB
            have BK386 := n0_
            have BK387 := n1_
            have BK390 := n2_
            have BK391 := n3_
            have BK392 := n4_
            have HB := n5_
            clear n0_ n1_ n2_ n3_ n4_ n5_
            refine start_ (n := 13) (S := fun w' => w'.cell? ⟨gb391, 0, none⟩ = some (.int .i64 x392000_2) ∧ w'.cell? ⟨gb391, 1, none⟩ = some (.bool x392001_2) ∧ w'.cell? ⟨gb390, 0, none⟩ = some (.int .i64 x391000_2) ∧ w'.cell? ⟨gb390, 1, none⟩ = some (.bool t389)) (ds := [12]) #[false, false, false, false, false, false, false, false, false, false, false, false, false] (by kernel_rfl) rfl rfl ⟨(blk_cell BK391.out 0).trans rfl, (blk_cell BK391.out 1).trans rfl, (blk_cell BK390.out 0).trans rfl, (blk_cell BK390.out 1).trans rfl⟩ (fun hHeld => ?_); refine with_tabW fixed_Sin.tab11 fixed_Sin.bits11 (fun HT_ HW_ => ?_)
            generalize wr.drew = w39 at BK386 BK387 BK390 BK391 BK392 HB hHeld ⊢
            refine pure_ (i := 5) (N := some 39) (v := ?_) (a' := ?_) #[false, false, false, false, false, true, false, false, false, false, false, false, false] rfl rfl (any_of HT_.out (by kernel_rfl)) (fun _ _ _ h => h) (Or.inl ⟨by rfl, ?_⟩) ?_ ?_
            rotate_left
            · intro w'
              go_simp
              with_reducible rfl
            rotate_left
            · simp only [Act.put, List.setIfInBounds_toArray, List.set_cons_zero, List.set_cons_succ, i64_w, i32_w]
              rfl
            refine pure_ (i := 6) (N := some 40) (v := ?_) (a' := ?_) #[false, false, false, false, false, true, true, false, false, false, false, false, false] rfl rfl (any_of HT_.out (by kernel_rfl)) (fun _ _ _ h => h) (Or.inl ⟨by rfl, ?_⟩) ?_ ?_
            rotate_left
            · intro w'
              go_simp
              with_reducible rfl
            rotate_left
            · simp only [Act.put, List.setIfInBounds_toArray, List.set_cons_zero, List.set_cons_succ, i64_w, i32_w]
              rfl
            refine pure_ (i := 7) (N := some 41) (v := ?_) (a' := ?_) #[false, false, false, false, false, true, true, true, false, false, false, false, false] rfl rfl (any_of HT_.out (by kernel_rfl)) (fun _ _ _ h => h) (Or.inl ⟨by rfl, ?_⟩) ?_ ?_
            rotate_left
            · intro w'
              go_simp
              with_reducible rfl
            rotate_left
            · simp only [Act.put, List.setIfInBounds_toArray, List.set_cons_zero, List.set_cons_succ, i64_w, i32_w]
              rfl
            refine pure_ (i := 8) (N := some 42) (v := ?_) (a' := ?_) #[false, false, false, false, false, true, true, true, true, false, false, false, false] rfl rfl (any_of HT_.out (by kernel_rfl)) (fun _ _ _ h => h) (Or.inl ⟨by rfl, ?_⟩) ?_ ?_
            rotate_left
            · intro w'
              go_simp
              with_reducible rfl
            rotate_left
            · simp only [Act.put, List.setIfInBounds_toArray, List.set_cons_zero, List.set_cons_succ, i64_w, i32_w]
              rfl
            refine take_ (i := 0) (N := some 34) (v := ?_) (a' := ?_) #[true, false, false, false, false, true, true, true, true, false, false, false, false] rfl rfl (take_ofW HT_.out HW_.out (by kernel_rfl)) (fun _ _ _ h => h) (Or.inl ⟨by rfl, ?_⟩) hHeld ?_ ?_
            rotate_left
            · rintro w' ⟨s0, s1, s2, s3⟩
              go_simp
              with_reducible rfl
            rotate_left
            · simp only [Act.put, List.setIfInBounds_toArray, List.set_cons_zero, List.set_cons_succ, i64_w, i32_w]
              rfl
            refine take_ (i := 1) (N := some 35) (v := ?_) (a' := ?_) #[true, true, false, false, false, true, true, true, true, false, false, false, false] rfl rfl (take_ofW HT_.out HW_.out (by kernel_rfl)) (fun _ _ _ h => h) (Or.inl ⟨by rfl, ?_⟩) hHeld ?_ ?_
            rotate_left
            · rintro w' ⟨s0, s1, s2, s3⟩
              go_simp
              with_reducible rfl
            rotate_left
            · simp only [Act.put, List.setIfInBounds_toArray, List.set_cons_zero, List.set_cons_succ, i64_w, i32_w]
              rfl
            refine take_ (i := 3) (N := some 37) (v := ?_) (a' := ?_) #[true, true, false, true, false, true, true, true, true, false, false, false, false] rfl rfl (take_ofW HT_.out HW_.out (by kernel_rfl)) (fun _ _ _ h => h) (Or.inl ⟨by rfl, ?_⟩) hHeld ?_ ?_
            rotate_left
            · rintro w' ⟨s0, s1, s2, s3⟩
              go_simp
              with_reducible rfl
            rotate_left
            · simp only [Act.put, List.setIfInBounds_toArray, List.set_cons_zero, List.set_cons_succ, i64_w, i32_w]
              rfl
            refine one_ (i := 2) (N := some 36) #[true, true, true, true, false, true, true, true, true, false, false, false, false] rfl rfl (one_of HT_.out (by kernel_rfl)) (by decide) (fun K hK => ?_)
            refine goes_ Try.func39 (by kernel_rfl) rfl #[.agg #[.int .i64 x392000_2, .bool x392001_2], .agg #[.int .i64 x391000_2, .bool t389]] (by rfl) rfl rfl (by (try simp only [List.map_toArray, List.map_cons, List.map_nil]); first | done | rfl | (simp only [List.length_drop, List.length_take]; rfl)) ?_
            with_reducible refine (fixed_Mul.calls k2 x392000_2 x392001_2 x391000_2 t389 t399 t400 _ A33.out).mono ?_
            rintro e w40 ⟨rfl, hb⟩
            refine ⟨_, rfl, ?_⟩
            have n0_ := Aside0.mk (blk_below (g := gb386) (o := .cells #[.int .i64 a0_0, .bool a0_1] 23 (0, 0)) (by (with_reducible repeat (first | refine blk_drewN ?_ _ | refine blk_drew ?_ | refine blk_alloc ?_ _)); exact BK386.out) hb)
            have n1_ := Aside0.mk (blk_below (g := gb387) (o := .cells #[.int .i64 0, .bool false] 23 (0, 0)) (by (with_reducible repeat (first | refine blk_drewN ?_ _ | refine blk_drew ?_ | refine blk_alloc ?_ _)); exact BK387.out) hb)
            have n2_ := Aside0.mk (blk_below (g := gb390) (o := .cells #[.int .i64 x391000_2, .bool t389] 23 (0, 0)) (by (with_reducible repeat (first | refine blk_drewN ?_ _ | refine blk_drew ?_ | refine blk_alloc ?_ _)); exact BK390.out) hb)
            have n3_ := Aside0.mk (blk_below (g := gb391) (o := .cells #[.int .i64 x392000_2, .bool x392001_2] 23 (0, 0)) (by (with_reducible repeat (first | refine blk_drewN ?_ _ | refine blk_drew ?_ | refine blk_alloc ?_ _)); exact BK391.out) hb)
            have n4_ := Aside0.mk (blk_below (g := gb392) (o := .cells #[.int .i64 x393000_2, .bool x393001_2] 23 (0, 0)) (by (with_reducible repeat (first | refine blk_drewN ?_ _ | refine blk_drew ?_ | refine blk_alloc ?_ _)); exact BK392.out) hb)
            have n5_ := Aside0.mk (below_step (by repeat (first | (with_reducible first | exact HB.out | apply below_alloc | apply pw_below_drewN | apply below_drew1 | refine below_set ?_ GE386.out | refine below_set ?_ GE387.out | refine below_set ?_ GE390.out | refine below_set ?_ GE391.out | refine below_set ?_ GE392.out) | exact HB.out)) hb)
            clear BK386
            clear BK387
            clear BK390
            clear BK391
            clear BK392
            clear HB
            have BK386 := n0_
            have BK387 := n1_
            have BK390 := n2_
            have BK391 := n3_
            have BK392 := n4_
            have HB := n5_
            clear n0_ n1_ n2_ n3_ n4_ n5_
            (try clear hb)
            (try clear hb2)
            (try clear hk)
            (try clear hi)
            refine hK.out _ _ ⟨(blk_cell BK391.out 0).trans rfl, (blk_cell BK391.out 1).trans rfl, (blk_cell BK390.out 0).trans rfl, (blk_cell BK390.out 1).trans rfl⟩ (fun hHeld => ?_)
            clear hK K
            refine norm_ (a' := ?_) ?_ ?_
            rotate_left
            · show Act.put _ (some 36) _ = _
              simp only [Act.put, List.setIfInBounds_toArray, List.set_cons_zero, List.set_cons_succ, i64_w, i32_w]
              rfl
            refine one_ (i := 4) (N := some 38) #[true, true, true, true, true, true, true, true, true, false, false, false, false] rfl rfl (one_of HT_.out (by kernel_rfl)) (by decide) (fun K hK => ?_)
            refine goes_ Try.func39 (by kernel_rfl) rfl #[.agg #[.int .i64 t399, .bool t400], .agg #[.int .i64 x391000_2, .bool t389]] (by rfl) rfl rfl (by (try simp only [List.map_toArray, List.map_cons, List.map_nil]); first | done | rfl | (simp only [List.length_drop, List.length_take]; rfl)) ?_
            with_reducible refine (fixed_Mul.calls k2 t399 t400 x391000_2 t389 t401 t402 _ A34.out).mono ?_
            rintro e w41 ⟨rfl, hb⟩
            refine ⟨_, rfl, ?_⟩
            have n0_ := Aside0.mk (blk_below (g := gb386) (o := .cells #[.int .i64 a0_0, .bool a0_1] 23 (0, 0)) (by (with_reducible repeat (first | refine blk_drewN ?_ _ | refine blk_drew ?_ | refine blk_alloc ?_ _)); exact BK386.out) hb)
            have n1_ := Aside0.mk (blk_below (g := gb387) (o := .cells #[.int .i64 0, .bool false] 23 (0, 0)) (by (with_reducible repeat (first | refine blk_drewN ?_ _ | refine blk_drew ?_ | refine blk_alloc ?_ _)); exact BK387.out) hb)
            have n2_ := Aside0.mk (blk_below (g := gb390) (o := .cells #[.int .i64 x391000_2, .bool t389] 23 (0, 0)) (by (with_reducible repeat (first | refine blk_drewN ?_ _ | refine blk_drew ?_ | refine blk_alloc ?_ _)); exact BK390.out) hb)
            have n3_ := Aside0.mk (blk_below (g := gb391) (o := .cells #[.int .i64 x392000_2, .bool x392001_2] 23 (0, 0)) (by (with_reducible repeat (first | refine blk_drewN ?_ _ | refine blk_drew ?_ | refine blk_alloc ?_ _)); exact BK391.out) hb)
            have n4_ := Aside0.mk (blk_below (g := gb392) (o := .cells #[.int .i64 x393000_2, .bool x393001_2] 23 (0, 0)) (by (with_reducible repeat (first | refine blk_drewN ?_ _ | refine blk_drew ?_ | refine blk_alloc ?_ _)); exact BK392.out) hb)
            have n5_ := Aside0.mk (below_step (by repeat (first | (with_reducible first | exact HB.out | apply below_alloc | apply pw_below_drewN | apply below_drew1 | refine below_set ?_ GE386.out | refine below_set ?_ GE387.out | refine below_set ?_ GE390.out | refine below_set ?_ GE391.out | refine below_set ?_ GE392.out) | exact HB.out)) hb)
            clear BK386
            clear BK387
            clear BK390
            clear BK391
            clear BK392
            clear HB
            have BK386 := n0_
            have BK387 := n1_
            have BK390 := n2_
            have BK391 := n3_
            have BK392 := n4_
            have HB := n5_
            clear n0_ n1_ n2_ n3_ n4_ n5_
            (try clear hb)
            (try clear hb2)
            (try clear hk)
            (try clear hi)
            refine hK.out _ _ ⟨(blk_cell BK391.out 0).trans rfl, (blk_cell BK391.out 1).trans rfl, (blk_cell BK390.out 0).trans rfl, (blk_cell BK390.out 1).trans rfl⟩ (fun hHeld => ?_)
            clear hK K
            refine norm_ (a' := ?_) ?_ ?_
            rotate_left
            · show Act.put _ (some 38) _ = _
              simp only [Act.put, List.setIfInBounds_toArray, List.set_cons_zero, List.set_cons_succ, i64_w, i32_w]
              rfl
            refine one_ (i := 9) (N := some 43) #[true, true, true, true, true, true, true, true, true, true, false, false, false] rfl rfl (one_of HT_.out (by kernel_rfl)) (by decide) (fun K hK => ?_)
            refine goes_ Try.func49 (by kernel_rfl) rfl #[.int .i64 (wrap64 ((wrap64 (2 * (wrap64 (x28_2 + 1)))) * (wrap64 ((wrap64 (2 * (wrap64 (x28_2 + 1)))) + 1))))] (by rfl) rfl rfl (by (try simp only [List.map_toArray, List.map_cons, List.map_nil]); first | done | rfl | (simp only [List.length_drop, List.length_take]; rfl)) ?_
            with_reducible refine (fixed_Int.calls k2 (wrap64 ((wrap64 (2 * (wrap64 (x28_2 + 1)))) * (wrap64 ((wrap64 (2 * (wrap64 (x28_2 + 1)))) + 1)))) t403 t404 _ A35.out).mono ?_
            rintro e w42 ⟨rfl, hb⟩
            refine ⟨_, rfl, ?_⟩
            have n0_ := Aside0.mk (blk_below (g := gb386) (o := .cells #[.int .i64 a0_0, .bool a0_1] 23 (0, 0)) (by (with_reducible repeat (first | refine blk_drewN ?_ _ | refine blk_drew ?_ | refine blk_alloc ?_ _)); exact BK386.out) hb)
            have n1_ := Aside0.mk (blk_below (g := gb387) (o := .cells #[.int .i64 0, .bool false] 23 (0, 0)) (by (with_reducible repeat (first | refine blk_drewN ?_ _ | refine blk_drew ?_ | refine blk_alloc ?_ _)); exact BK387.out) hb)
            have n2_ := Aside0.mk (blk_below (g := gb390) (o := .cells #[.int .i64 x391000_2, .bool t389] 23 (0, 0)) (by (with_reducible repeat (first | refine blk_drewN ?_ _ | refine blk_drew ?_ | refine blk_alloc ?_ _)); exact BK390.out) hb)
            have n3_ := Aside0.mk (blk_below (g := gb391) (o := .cells #[.int .i64 x392000_2, .bool x392001_2] 23 (0, 0)) (by (with_reducible repeat (first | refine blk_drewN ?_ _ | refine blk_drew ?_ | refine blk_alloc ?_ _)); exact BK391.out) hb)
            have n4_ := Aside0.mk (blk_below (g := gb392) (o := .cells #[.int .i64 x393000_2, .bool x393001_2] 23 (0, 0)) (by (with_reducible repeat (first | refine blk_drewN ?_ _ | refine blk_drew ?_ | refine blk_alloc ?_ _)); exact BK392.out) hb)
            have n5_ := Aside0.mk (below_step (by repeat (first | (with_reducible first | exact HB.out | apply below_alloc | apply pw_below_drewN | apply below_drew1 | refine below_set ?_ GE386.out | refine below_set ?_ GE387.out | refine below_set ?_ GE390.out | refine below_set ?_ GE391.out | refine below_set ?_ GE392.out) | exact HB.out)) hb)
            clear BK386
            clear BK387
            clear BK390
            clear BK391
            clear BK392
            clear HB
            have BK386 := n0_
            have BK387 := n1_
            have BK390 := n2_
            have BK391 := n3_
            have BK392 := n4_
            have HB := n5_
            clear n0_ n1_ n2_ n3_ n4_ n5_
            (try clear hb)
            (try clear hb2)
            (try clear hk)
            (try clear hi)
            refine hK.out _ _ ⟨(blk_cell BK391.out 0).trans rfl, (blk_cell BK391.out 1).trans rfl, (blk_cell BK390.out 0).trans rfl, (blk_cell BK390.out 1).trans rfl⟩ (fun hHeld => ?_)
            clear hK K
            refine norm_ (a' := ?_) ?_ ?_
            rotate_left
            · show Act.put _ (some 43) _ = _
              simp only [Act.put, List.setIfInBounds_toArray, List.set_cons_zero, List.set_cons_succ, i64_w, i32_w]
              rfl
            refine one_ (i := 10) (N := some 44) #[true, true, true, true, true, true, true, true, true, true, true, false, false] rfl rfl (one_of HT_.out (by kernel_rfl)) (by decide) (fun K hK => ?_)
            refine goes_ Try.func40 (by kernel_rfl) rfl #[.agg #[.int .i64 t401, .bool t402], .agg #[.int .i64 t403, .bool t404]] (by rfl) rfl rfl (by (try simp only [List.map_toArray, List.map_cons, List.map_nil]); first | done | rfl | (simp only [List.length_drop, List.length_take]; rfl)) ?_
            with_reducible refine (fixed_Div.calls k2 t401 t402 t403 t404 t405 t406 _ A36.out).mono ?_
            rintro e w43 ⟨rfl, hb⟩
            refine ⟨_, rfl, ?_⟩
            have n0_ := Aside0.mk (blk_below (g := gb386) (o := .cells #[.int .i64 a0_0, .bool a0_1] 23 (0, 0)) (by (with_reducible repeat (first | refine blk_drewN ?_ _ | refine blk_drew ?_ | refine blk_alloc ?_ _)); exact BK386.out) hb)
            have n1_ := Aside0.mk (blk_below (g := gb387) (o := .cells #[.int .i64 0, .bool false] 23 (0, 0)) (by (with_reducible repeat (first | refine blk_drewN ?_ _ | refine blk_drew ?_ | refine blk_alloc ?_ _)); exact BK387.out) hb)
            have n2_ := Aside0.mk (blk_below (g := gb390) (o := .cells #[.int .i64 x391000_2, .bool t389] 23 (0, 0)) (by (with_reducible repeat (first | refine blk_drewN ?_ _ | refine blk_drew ?_ | refine blk_alloc ?_ _)); exact BK390.out) hb)
            have n3_ := Aside0.mk (blk_below (g := gb391) (o := .cells #[.int .i64 x392000_2, .bool x392001_2] 23 (0, 0)) (by (with_reducible repeat (first | refine blk_drewN ?_ _ | refine blk_drew ?_ | refine blk_alloc ?_ _)); exact BK391.out) hb)
            have n4_ := Aside0.mk (blk_below (g := gb392) (o := .cells #[.int .i64 x393000_2, .bool x393001_2] 23 (0, 0)) (by (with_reducible repeat (first | refine blk_drewN ?_ _ | refine blk_drew ?_ | refine blk_alloc ?_ _)); exact BK392.out) hb)
            have n5_ := Aside0.mk (below_step (by repeat (first | (with_reducible first | exact HB.out | apply below_alloc | apply pw_below_drewN | apply below_drew1 | refine below_set ?_ GE386.out | refine below_set ?_ GE387.out | refine below_set ?_ GE390.out | refine below_set ?_ GE391.out | refine below_set ?_ GE392.out) | exact HB.out)) hb)
            clear BK386
            clear BK387
            clear BK390
            clear BK391
            clear BK392
            clear HB
            have BK386 := n0_
            have BK387 := n1_
            have BK390 := n2_
            have BK391 := n3_
            have BK392 := n4_
            have HB := n5_
            clear n0_ n1_ n2_ n3_ n4_ n5_
            (try clear hb)
            (try clear hb2)
            (try clear hk)
            (try clear hi)
            refine hK.out _ _ ⟨(blk_cell BK391.out 0).trans rfl, (blk_cell BK391.out 1).trans rfl, (blk_cell BK390.out 0).trans rfl, (blk_cell BK390.out 1).trans rfl⟩ (fun hHeld => ?_)
            clear hK K
            refine norm_ (a' := ?_) ?_ ?_
            rotate_left
            · show Act.put _ (some 44) _ = _
              simp only [Act.put, List.setIfInBounds_toArray, List.set_cons_zero, List.set_cons_succ, i64_w, i32_w]
              rfl
            refine one_ (i := 11) (N := some 45) #[true, true, true, true, true, true, true, true, true, true, true, true, false] rfl rfl (one_of HT_.out (by kernel_rfl)) (by decide) (fun K hK => ?_)
            refine goes_ Try.func41 (by kernel_rfl) rfl #[.agg #[.int .i64 t405, .bool t406]] (by rfl) rfl rfl (by (try simp only [List.map_toArray, List.map_cons, List.map_nil]); first | done | rfl | (simp only [List.length_drop, List.length_take]; rfl)) ?_
            with_reducible refine (fixed_Neg.calls t405 t406 t407 t408 _ A37.out).mono ?_
            rintro e w44 ⟨rfl, hb⟩
            refine ⟨_, rfl, ?_⟩
            have n0_ := Aside0.mk (blk_below (g := gb386) (o := .cells #[.int .i64 a0_0, .bool a0_1] 23 (0, 0)) (by (with_reducible repeat (first | refine blk_drewN ?_ _ | refine blk_drew ?_ | refine blk_alloc ?_ _)); exact BK386.out) hb)
            have n1_ := Aside0.mk (blk_below (g := gb387) (o := .cells #[.int .i64 0, .bool false] 23 (0, 0)) (by (with_reducible repeat (first | refine blk_drewN ?_ _ | refine blk_drew ?_ | refine blk_alloc ?_ _)); exact BK387.out) hb)
            have n2_ := Aside0.mk (blk_below (g := gb390) (o := .cells #[.int .i64 x391000_2, .bool t389] 23 (0, 0)) (by (with_reducible repeat (first | refine blk_drewN ?_ _ | refine blk_drew ?_ | refine blk_alloc ?_ _)); exact BK390.out) hb)
            have n3_ := Aside0.mk (blk_below (g := gb391) (o := .cells #[.int .i64 x392000_2, .bool x392001_2] 23 (0, 0)) (by (with_reducible repeat (first | refine blk_drewN ?_ _ | refine blk_drew ?_ | refine blk_alloc ?_ _)); exact BK391.out) hb)
            have n4_ := Aside0.mk (blk_below (g := gb392) (o := .cells #[.int .i64 x393000_2, .bool x393001_2] 23 (0, 0)) (by (with_reducible repeat (first | refine blk_drewN ?_ _ | refine blk_drew ?_ | refine blk_alloc ?_ _)); exact BK392.out) hb)
            have n5_ := Aside0.mk (below_step (by repeat (first | (with_reducible first | exact HB.out | apply below_alloc | apply pw_below_drewN | apply below_drew1 | refine below_set ?_ GE386.out | refine below_set ?_ GE387.out | refine below_set ?_ GE390.out | refine below_set ?_ GE391.out | refine below_set ?_ GE392.out) | exact HB.out)) hb)
            clear BK386
            clear BK387
            clear BK390
            clear BK391
            clear BK392
            clear HB
            have BK386 := n0_
            have BK387 := n1_
            have BK390 := n2_
            have BK391 := n3_
            have BK392 := n4_
            have HB := n5_
            clear n0_ n1_ n2_ n3_ n4_ n5_
            (try clear hb)
            (try clear hb2)
            (try clear hk)
            (try clear hi)
            refine hK.out _ _ ⟨(blk_cell BK391.out 0).trans rfl, (blk_cell BK391.out 1).trans rfl, (blk_cell BK390.out 0).trans rfl, (blk_cell BK390.out 1).trans rfl⟩ (fun hHeld => ?_)
            clear hK K
            refine norm_ (a' := ?_) ?_ ?_
            rotate_left
            · show Act.put _ (some 45) _ = _
              simp only [Act.put, List.setIfInBounds_toArray, List.set_cons_zero, List.set_cons_succ, i64_w, i32_w]
              rfl
            refine last_ (i := 12) (N := none) #[true, true, true, true, true, true, true, true, true, true, true, true, true] rfl rfl (one_of HT_.out (by kernel_rfl)) (by decide) (fun K hK => ?_)
            have hs45 : w44.cell? ⟨gb391, 0, none⟩ = some (.int .i64 x392000_2) := (blk_cell BK391.out 0).trans rfl
            have hfs45 := blk_frozen BK391.out 0
            have hns45_0 := NB386_391.out
            have hns45_1 := NB387_391.out
            have hns45_2 := NB390_391.out
            have hns45_4 := NB392_391.out
            have hms45_0 := NB391_386.out
            have hms45_1 := NB391_387.out
            have hms45_2 := NB391_390.out
            have hms45_4 := NB391_392.out
            have hs46 : w44.cell? ⟨gb391, 1, none⟩ = some (.bool x392001_2) := (blk_cell BK391.out 1).trans rfl
            have hfs46 := blk_frozen BK391.out 1
            have hns46_0 := NB386_391.out
            have hns46_1 := NB387_391.out
            have hns46_2 := NB390_391.out
            have hns46_4 := NB392_391.out
            have hms46_0 := NB391_386.out
            have hms46_1 := NB391_387.out
            have hms46_2 := NB391_390.out
            have hms46_4 := NB391_392.out
            refine skip_ (w1 := ?_) (by rfl) rfl ?_ ?_
            rotate_left
            · go_simp
              rfl
            refine hK.out _ _ ?_
            clear hK K
            refine done_ (done_of HT_.out (by kernel_rfl)) ?_
            have hnb47 := NB392_386.out
            have hnc47 := NB386_392.out
            have hnb48 := NB392_387.out
            have hnc48 := NB387_392.out
            have hnb49 := NB392_390.out
            have hnc49 := NB390_392.out
            have hnb50 := NB392_391.out
            have hnc50 := NB391_392.out
            have hcz51_0 : w44.cell? ⟨gb392, 0, none⟩ = some (.int .i64 x393000_2) := (blk_cell BK392.out 0).trans rfl
            have hcz51_1 : w44.cell? ⟨gb392, 1, none⟩ = some (.bool x393001_2) := (blk_cell BK392.out 1).trans rfl
            have hfz51_0 := blk_frozen BK392.out 0
            have hfz51_1 := blk_frozen BK392.out 1
            have hnb52 := NB391_386.out
            have hnc52 := NB386_391.out
            have hnb53 := NB391_387.out
            have hnc53 := NB387_391.out
            have hnb54 := NB391_390.out
            have hnc54 := NB390_391.out
            have hcz55_0 : w44.cell? ⟨gb391, 0, none⟩ = some (.int .i64 x392000_2) := (blk_cell BK391.out 0).trans rfl
            have hcz55_1 : w44.cell? ⟨gb391, 1, none⟩ = some (.bool x392001_2) := (blk_cell BK391.out 1).trans rfl
            have hfz55_0 := blk_frozen BK391.out 0
            have hfz55_1 := blk_frozen BK391.out 1
            try go_wp2_with (first | ((with_reducible refine gate_callee (f := 25) rfl ?_); refine goesL_ (some 48) rfl rfl Try.func25 (by kernel_rfl) rfl #[.agg #[.int .i64 x393000_2, .bool x393001_2], .agg #[.int .i64 t407, .bool t408]] rfl (by (try simp only [List.map_toArray, List.map_cons, List.map_nil]); first | done | rfl | (simp only [List.length_drop, List.length_take]; rfl)) ?_; (with_reducible refine (fixed_Add.calls k2 x393000_2 x393001_2 t407 t408 t409 t410 _ A38.out).mono ?_); rintro e w56 ⟨rfl, hb⟩; refine ⟨_, rfl, ?_⟩; have n0_ := Aside0.mk (blk_below (g := gb386) (o := .cells #[.int .i64 a0_0, .bool a0_1] 23 (0, 0)) (by (with_reducible repeat (first | refine blk_drewN ?_ _ | refine blk_drew ?_ | refine blk_alloc ?_ _)); refine blk_far ?_ NB386_391.out _; (with_reducible repeat (first | refine blk_drewN ?_ _ | refine blk_drew ?_ | refine blk_alloc ?_ _)); refine blk_far ?_ NB386_391.out _; (with_reducible repeat (first | refine blk_drewN ?_ _ | refine blk_drew ?_ | refine blk_alloc ?_ _)); exact BK386.out) hb); have n1_ := Aside0.mk (blk_below (g := gb387) (o := .cells #[.int .i64 0, .bool false] 23 (0, 0)) (by (with_reducible repeat (first | refine blk_drewN ?_ _ | refine blk_drew ?_ | refine blk_alloc ?_ _)); refine blk_far ?_ NB387_391.out _; (with_reducible repeat (first | refine blk_drewN ?_ _ | refine blk_drew ?_ | refine blk_alloc ?_ _)); refine blk_far ?_ NB387_391.out _; (with_reducible repeat (first | refine blk_drewN ?_ _ | refine blk_drew ?_ | refine blk_alloc ?_ _)); exact BK387.out) hb); have n2_ := Aside0.mk (blk_below (g := gb390) (o := .cells #[.int .i64 x391000_2, .bool t389] 23 (0, 0)) (by (with_reducible repeat (first | refine blk_drewN ?_ _ | refine blk_drew ?_ | refine blk_alloc ?_ _)); refine blk_far ?_ NB390_391.out _; (with_reducible repeat (first | refine blk_drewN ?_ _ | refine blk_drew ?_ | refine blk_alloc ?_ _)); refine blk_far ?_ NB390_391.out _; (with_reducible repeat (first | refine blk_drewN ?_ _ | refine blk_drew ?_ | refine blk_alloc ?_ _)); exact BK390.out) hb); have n3_ := Aside0.mk (blk_below (g := gb391) (o := .cells #[.int .i64 t407, .bool t408] 23 (0, 0)) (by (with_reducible repeat (first | refine blk_drewN ?_ _ | refine blk_drew ?_ | refine blk_alloc ?_ _)); refine blk_put (cs := #[.int .i64 t407, .bool x392001_2]) ?_ 1 _ rfl; (with_reducible repeat (first | refine blk_drewN ?_ _ | refine blk_drew ?_ | refine blk_alloc ?_ _)); refine blk_put (cs := #[.int .i64 x392000_2, .bool x392001_2]) ?_ 0 _ rfl; (with_reducible repeat (first | refine blk_drewN ?_ _ | refine blk_drew ?_ | refine blk_alloc ?_ _)); exact BK391.out) hb); have n4_ := Aside0.mk (blk_below (g := gb392) (o := .cells #[.int .i64 x393000_2, .bool x393001_2] 23 (0, 0)) (by (with_reducible repeat (first | refine blk_drewN ?_ _ | refine blk_drew ?_ | refine blk_alloc ?_ _)); refine blk_far ?_ NB392_391.out _; (with_reducible repeat (first | refine blk_drewN ?_ _ | refine blk_drew ?_ | refine blk_alloc ?_ _)); refine blk_far ?_ NB392_391.out _; (with_reducible repeat (first | refine blk_drewN ?_ _ | refine blk_drew ?_ | refine blk_alloc ?_ _)); exact BK392.out) hb); have n5_ := Aside0.mk (below_step (by repeat (first | (with_reducible first | exact HB.out | apply below_alloc | apply pw_below_drewN | apply below_drew1 | refine below_set ?_ GE386.out | refine below_set ?_ GE387.out | refine below_set ?_ GE390.out | refine below_set ?_ GE391.out | refine below_set ?_ GE392.out) | exact HB.out)) hb); clear BK386; clear BK387; clear BK390; clear BK391; clear BK392; clear HB; have BK386 := n0_; have BK387 := n1_; have BK390 := n2_; have BK391 := n3_; have BK392 := n4_; have HB := n5_; clear n0_ n1_ n2_ n3_ n4_ n5_; (try clear hb); (try clear hb2); (try clear hk); (try clear hi); have hcz57_0 : w56.cell? ⟨gb392, 0, none⟩ = some (.int .i64 x393000_2) := (blk_cell BK392.out 0).trans rfl; have hcz57_1 : w56.cell? ⟨gb392, 1, none⟩ = some (.bool x393001_2) := (blk_cell BK392.out 1).trans rfl; have hfz57_0 := blk_frozen BK392.out 0; have hfz57_1 := blk_frozen BK392.out 1))
            go_roundg k2
            case measure => have := HJ2.out; have := HK2.out; omega
            case rel => exact ⟨(wrap64 (x28_2 + 1)), (t407), (t408), (t409), (t410), (by first | rfl | (simp; done) | (simp [*]; done)), H', ⟨by have := HJ2.out; have := HK2.out; omega⟩, ⟨by (with_reducible repeat (first | refine blk_drewN ?_ _ | refine blk_drew ?_ | refine blk_alloc ?_ _)); refine blk_far ?_ NB386_392.out _; (with_reducible repeat (first | refine blk_drewN ?_ _ | refine blk_drew ?_ | refine blk_alloc ?_ _)); refine blk_far ?_ NB386_392.out _; (with_reducible repeat (first | refine blk_drewN ?_ _ | refine blk_drew ?_ | refine blk_alloc ?_ _)); exact BK386.out⟩, ⟨by (with_reducible repeat (first | refine blk_drewN ?_ _ | refine blk_drew ?_ | refine blk_alloc ?_ _)); refine blk_far ?_ NB387_392.out _; (with_reducible repeat (first | refine blk_drewN ?_ _ | refine blk_drew ?_ | refine blk_alloc ?_ _)); refine blk_far ?_ NB387_392.out _; (with_reducible repeat (first | refine blk_drewN ?_ _ | refine blk_drew ?_ | refine blk_alloc ?_ _)); exact BK387.out⟩, ⟨by (with_reducible repeat (first | refine blk_drewN ?_ _ | refine blk_drew ?_ | refine blk_alloc ?_ _)); refine blk_far ?_ NB390_392.out _; (with_reducible repeat (first | refine blk_drewN ?_ _ | refine blk_drew ?_ | refine blk_alloc ?_ _)); refine blk_far ?_ NB390_392.out _; (with_reducible repeat (first | refine blk_drewN ?_ _ | refine blk_drew ?_ | refine blk_alloc ?_ _)); exact BK390.out⟩, ⟨by (with_reducible repeat (first | refine blk_drewN ?_ _ | refine blk_drew ?_ | refine blk_alloc ?_ _)); refine blk_far ?_ NB391_392.out _; (with_reducible repeat (first | refine blk_drewN ?_ _ | refine blk_drew ?_ | refine blk_alloc ?_ _)); refine blk_far ?_ NB391_392.out _; (with_reducible repeat (first | refine blk_drewN ?_ _ | refine blk_drew ?_ | refine blk_alloc ?_ _)); exact BK391.out⟩, ⟨by (with_reducible repeat (first | refine blk_drewN ?_ _ | refine blk_drew ?_ | refine blk_alloc ?_ _)); refine blk_put (cs := #[.int .i64 t409, .bool x393001_2]) ?_ 1 _ rfl; (with_reducible repeat (first | refine blk_drewN ?_ _ | refine blk_drew ?_ | refine blk_alloc ?_ _)); refine blk_put (cs := #[.int .i64 x393000_2, .bool x393001_2]) ?_ 0 _ rfl; (with_reducible repeat (first | refine blk_drewN ?_ _ | refine blk_drew ?_ | refine blk_alloc ?_ _)); exact BK392.out⟩, ⟨by repeat (first | (with_reducible first | exact HB.out | apply below_alloc | apply pw_below_drewN | apply below_drew1 | refine below_set ?_ GE386.out | refine below_set ?_ GE387.out | refine below_set ?_ GE390.out | refine below_set ?_ GE391.out | refine below_set ?_ GE392.out) | exact HB.out)⟩⟩
          · rw [if_neg c32] at H
            have c32b0 : decide (x28_2 < 8) = false := decide_eq_false c32
            clear c32
            replace H := Option.bind_eq_some_iff.mp H
            obtain ⟨⟨t393, t394⟩, A580, H⟩ := H
            replace H : ((fixed_Int.f k2 1).bind fun bt395 => ((fixed_Clamp.f k2 x393000_2 x393001_2 t393 t394 bt395.1 bt395.2).bind fun bt397 => (some (bt397.1, bt397.2)))) = some (r1, r2) := H
            have A58 := Aside0.mk A580
            clear A580
            replace H := Option.bind_eq_some_iff.mp H
            obtain ⟨⟨t395, t396⟩, A590, H⟩ := H
            replace H : ((fixed_Clamp.f k2 x393000_2 x393001_2 t393 t394 t395 t396).bind fun bt397 => (some (bt397.1, bt397.2))) = some (r1, r2) := H
            have A59 := Aside0.mk A590
            clear A590
            replace H := Option.bind_eq_some_iff.mp H
            obtain ⟨⟨t397, t398⟩, A600, H⟩ := H
            replace H : (some (t397, t398)) = some (r1, r2) := H
            have A60 := Aside0.mk A600
            clear A600
            simp only [Option.some.injEq, Prod.mk.injEq] at H
            obtain ⟨rfl, rfl⟩ := H
            try go_wp2
            have n0_ := Aside0.mk (blk_drew BK386.out)
            have n1_ := Aside0.mk (blk_drew BK387.out)
            have n2_ := Aside0.mk (blk_drew BK390.out)
            have n3_ := Aside0.mk (blk_drew BK391.out)
            have n4_ := Aside0.mk (blk_drew BK392.out)
            have n5_ := Aside0.mk (below_drew1 HB.out)
            clear BK386
            clear BK387
            clear BK390
            clear BK391
            clear BK392
            clear HB
            have BK386 := n0_
            have BK387 := n1_
            have BK390 := n2_
            have BK391 := n3_
            have BK392 := n4_
            have HB := n5_
            clear n0_ n1_ n2_ n3_ n4_ n5_
            refine start_ (n := 5) (S := fun w' => w'.cell? ⟨gb392, 0, none⟩ = some (.int .i64 x393000_2) ∧ w'.cell? ⟨gb392, 1, none⟩ = some (.bool x393001_2)) (ds := []) #[false, false, false, false, false] (by kernel_rfl) rfl rfl ⟨(blk_cell BK392.out 0).trans rfl, (blk_cell BK392.out 1).trans rfl⟩ (fun hHeld => ?_)
            generalize wr.drew = w61 at BK386 BK387 BK390 BK391 BK392 HB hHeld ⊢
            refine take_ (i := 0) (N := some 50) (v := ?_) (a' := ?_) #[true, false, false, false, false] rfl rfl (by kernel_rfl) (fun _ _ _ h => h) (Or.inl ⟨by rfl, ?_⟩) hHeld ?_ ?_
            rotate_left
            · rintro w' ⟨s0, s1⟩
              go_simp
              with_reducible rfl
            rotate_left
            · simp only [Act.put, List.setIfInBounds_toArray, List.set_cons_zero, List.set_cons_succ, i64_w, i32_w]
              rfl
            refine one_ (i := 1) (N := some 51) #[true, true, false, false, false] rfl rfl (by kernel_rfl) (by decide) (fun K hK => ?_)
            refine goes_ Try.func49 (by kernel_rfl) rfl #[.int .i64 (-1)] (by rfl) rfl rfl (by (try simp only [List.map_toArray, List.map_cons, List.map_nil]); first | done | rfl | (simp only [List.length_drop, List.length_take]; rfl)) ?_
            with_reducible refine (fixed_Int.calls k2 (-1) t393 t394 _ A58.out).mono ?_
            rintro e w62 ⟨rfl, hb⟩
            refine ⟨_, rfl, ?_⟩
            have n0_ := Aside0.mk (blk_below (g := gb386) (o := .cells #[.int .i64 a0_0, .bool a0_1] 23 (0, 0)) (by (with_reducible repeat (first | refine blk_drewN ?_ _ | refine blk_drew ?_ | refine blk_alloc ?_ _)); exact BK386.out) hb)
            have n1_ := Aside0.mk (blk_below (g := gb387) (o := .cells #[.int .i64 0, .bool false] 23 (0, 0)) (by (with_reducible repeat (first | refine blk_drewN ?_ _ | refine blk_drew ?_ | refine blk_alloc ?_ _)); exact BK387.out) hb)
            have n2_ := Aside0.mk (blk_below (g := gb390) (o := .cells #[.int .i64 x391000_2, .bool t389] 23 (0, 0)) (by (with_reducible repeat (first | refine blk_drewN ?_ _ | refine blk_drew ?_ | refine blk_alloc ?_ _)); exact BK390.out) hb)
            have n3_ := Aside0.mk (blk_below (g := gb391) (o := .cells #[.int .i64 x392000_2, .bool x392001_2] 23 (0, 0)) (by (with_reducible repeat (first | refine blk_drewN ?_ _ | refine blk_drew ?_ | refine blk_alloc ?_ _)); exact BK391.out) hb)
            have n4_ := Aside0.mk (blk_below (g := gb392) (o := .cells #[.int .i64 x393000_2, .bool x393001_2] 23 (0, 0)) (by (with_reducible repeat (first | refine blk_drewN ?_ _ | refine blk_drew ?_ | refine blk_alloc ?_ _)); exact BK392.out) hb)
            have n5_ := Aside0.mk (below_step (by repeat (first | (with_reducible first | exact HB.out | apply below_alloc | apply pw_below_drewN | apply below_drew1 | refine below_set ?_ GE386.out | refine below_set ?_ GE387.out | refine below_set ?_ GE390.out | refine below_set ?_ GE391.out | refine below_set ?_ GE392.out) | exact HB.out)) hb)
            clear BK386
            clear BK387
            clear BK390
            clear BK391
            clear BK392
            clear HB
            have BK386 := n0_
            have BK387 := n1_
            have BK390 := n2_
            have BK391 := n3_
            have BK392 := n4_
            have HB := n5_
            clear n0_ n1_ n2_ n3_ n4_ n5_
            (try clear hb)
            (try clear hb2)
            (try clear hk)
            (try clear hi)
            refine hK.out _ _ ⟨(blk_cell BK392.out 0).trans rfl, (blk_cell BK392.out 1).trans rfl⟩ (fun hHeld => ?_)
            clear hK K
            refine norm_ (a' := ?_) ?_ ?_
            rotate_left
            · show Act.put _ (some 51) _ = _
              simp only [Act.put, List.setIfInBounds_toArray, List.set_cons_zero, List.set_cons_succ, i64_w, i32_w]
              rfl
            refine one_ (i := 2) (N := some 52) #[true, true, true, false, false] rfl rfl (by kernel_rfl) (by decide) (fun K hK => ?_)
            refine goes_ Try.func49 (by kernel_rfl) rfl #[.int .i64 1] (by rfl) rfl rfl (by (try simp only [List.map_toArray, List.map_cons, List.map_nil]); first | done | rfl | (simp only [List.length_drop, List.length_take]; rfl)) ?_
            with_reducible refine (fixed_Int.calls k2 1 t395 t396 _ A59.out).mono ?_
            rintro e w63 ⟨rfl, hb⟩
            refine ⟨_, rfl, ?_⟩
            have n0_ := Aside0.mk (blk_below (g := gb386) (o := .cells #[.int .i64 a0_0, .bool a0_1] 23 (0, 0)) (by (with_reducible repeat (first | refine blk_drewN ?_ _ | refine blk_drew ?_ | refine blk_alloc ?_ _)); exact BK386.out) hb)
            have n1_ := Aside0.mk (blk_below (g := gb387) (o := .cells #[.int .i64 0, .bool false] 23 (0, 0)) (by (with_reducible repeat (first | refine blk_drewN ?_ _ | refine blk_drew ?_ | refine blk_alloc ?_ _)); exact BK387.out) hb)
            have n2_ := Aside0.mk (blk_below (g := gb390) (o := .cells #[.int .i64 x391000_2, .bool t389] 23 (0, 0)) (by (with_reducible repeat (first | refine blk_drewN ?_ _ | refine blk_drew ?_ | refine blk_alloc ?_ _)); exact BK390.out) hb)
            have n3_ := Aside0.mk (blk_below (g := gb391) (o := .cells #[.int .i64 x392000_2, .bool x392001_2] 23 (0, 0)) (by (with_reducible repeat (first | refine blk_drewN ?_ _ | refine blk_drew ?_ | refine blk_alloc ?_ _)); exact BK391.out) hb)
            have n4_ := Aside0.mk (blk_below (g := gb392) (o := .cells #[.int .i64 x393000_2, .bool x393001_2] 23 (0, 0)) (by (with_reducible repeat (first | refine blk_drewN ?_ _ | refine blk_drew ?_ | refine blk_alloc ?_ _)); exact BK392.out) hb)
            have n5_ := Aside0.mk (below_step (by repeat (first | (with_reducible first | exact HB.out | apply below_alloc | apply pw_below_drewN | apply below_drew1 | refine below_set ?_ GE386.out | refine below_set ?_ GE387.out | refine below_set ?_ GE390.out | refine below_set ?_ GE391.out | refine below_set ?_ GE392.out) | exact HB.out)) hb)
            clear BK386
            clear BK387
            clear BK390
            clear BK391
            clear BK392
            clear HB
            have BK386 := n0_
            have BK387 := n1_
            have BK390 := n2_
            have BK391 := n3_
            have BK392 := n4_
            have HB := n5_
            clear n0_ n1_ n2_ n3_ n4_ n5_
            (try clear hb)
            (try clear hb2)
            (try clear hk)
            (try clear hi)
            refine hK.out _ _ ⟨(blk_cell BK392.out 0).trans rfl, (blk_cell BK392.out 1).trans rfl⟩ (fun hHeld => ?_)
            clear hK K
            refine norm_ (a' := ?_) ?_ ?_
            rotate_left
            · show Act.put _ (some 52) _ = _
              simp only [Act.put, List.setIfInBounds_toArray, List.set_cons_zero, List.set_cons_succ, i64_w, i32_w]
              rfl
            refine one_ (i := 3) (N := some 53) #[true, true, true, true, false] rfl rfl (by kernel_rfl) (by decide) (fun K hK => ?_)
            refine goes_ Try.func35 (by kernel_rfl) rfl #[.agg #[.int .i64 x393000_2, .bool x393001_2], .agg #[.int .i64 t393, .bool t394], .agg #[.int .i64 t395, .bool t396]] (by rfl) rfl rfl (by (try simp only [List.map_toArray, List.map_cons, List.map_nil]); first | done | rfl | (simp only [List.length_drop, List.length_take]; rfl)) ?_
            with_reducible refine (fixed_Clamp.calls k2 x393000_2 x393001_2 t393 t394 t395 t396 t397 t398 _ A60.out).mono ?_
            rintro e w64 ⟨rfl, hb⟩
            refine ⟨_, rfl, ?_⟩
            have n0_ := Aside0.mk (blk_below (g := gb386) (o := .cells #[.int .i64 a0_0, .bool a0_1] 23 (0, 0)) (by (with_reducible repeat (first | refine blk_drewN ?_ _ | refine blk_drew ?_ | refine blk_alloc ?_ _)); exact BK386.out) hb)
            have n1_ := Aside0.mk (blk_below (g := gb387) (o := .cells #[.int .i64 0, .bool false] 23 (0, 0)) (by (with_reducible repeat (first | refine blk_drewN ?_ _ | refine blk_drew ?_ | refine blk_alloc ?_ _)); exact BK387.out) hb)
            have n2_ := Aside0.mk (blk_below (g := gb390) (o := .cells #[.int .i64 x391000_2, .bool t389] 23 (0, 0)) (by (with_reducible repeat (first | refine blk_drewN ?_ _ | refine blk_drew ?_ | refine blk_alloc ?_ _)); exact BK390.out) hb)
            have n3_ := Aside0.mk (blk_below (g := gb391) (o := .cells #[.int .i64 x392000_2, .bool x392001_2] 23 (0, 0)) (by (with_reducible repeat (first | refine blk_drewN ?_ _ | refine blk_drew ?_ | refine blk_alloc ?_ _)); exact BK391.out) hb)
            have n4_ := Aside0.mk (blk_below (g := gb392) (o := .cells #[.int .i64 x393000_2, .bool x393001_2] 23 (0, 0)) (by (with_reducible repeat (first | refine blk_drewN ?_ _ | refine blk_drew ?_ | refine blk_alloc ?_ _)); exact BK392.out) hb)
            have n5_ := Aside0.mk (below_step (by repeat (first | (with_reducible first | exact HB.out | apply below_alloc | apply pw_below_drewN | apply below_drew1 | refine below_set ?_ GE386.out | refine below_set ?_ GE387.out | refine below_set ?_ GE390.out | refine below_set ?_ GE391.out | refine below_set ?_ GE392.out) | exact HB.out)) hb)
            clear BK386
            clear BK387
            clear BK390
            clear BK391
            clear BK392
            clear HB
            have BK386 := n0_
            have BK387 := n1_
            have BK390 := n2_
            have BK391 := n3_
            have BK392 := n4_
            have HB := n5_
            clear n0_ n1_ n2_ n3_ n4_ n5_
            (try clear hb)
            (try clear hb2)
            (try clear hk)
            (try clear hi)
            refine hK.out _ _ ⟨(blk_cell BK392.out 0).trans rfl, (blk_cell BK392.out 1).trans rfl⟩ (fun hHeld => ?_)
            clear hK K
            refine norm_ (a' := ?_) ?_ ?_
            rotate_left
            · show Act.put _ (some 53) _ = _
              simp only [Act.put, List.setIfInBounds_toArray, List.set_cons_zero, List.set_cons_succ, i64_w, i32_w]
              rfl
            refine one_ (i := 4) (N := none) #[true, true, true, true, true] rfl rfl (by kernel_rfl) (by decide) (fun K hK => ?_)
            have hs65 : w64.cell? ⟨gb387, 0, none⟩ = some (.int .i64 0) := (blk_cell BK387.out 0).trans rfl
            have hfs65 := blk_frozen BK387.out 0
            have hns65_0 := NB386_387.out
            have hns65_2 := NB390_387.out
            have hns65_3 := NB391_387.out
            have hns65_4 := NB392_387.out
            have hms65_0 := NB387_386.out
            have hms65_2 := NB387_390.out
            have hms65_3 := NB387_391.out
            have hms65_4 := NB387_392.out
            have hs66 : w64.cell? ⟨gb387, 1, none⟩ = some (.bool false) := (blk_cell BK387.out 1).trans rfl
            have hfs66 := blk_frozen BK387.out 1
            have hns66_0 := NB386_387.out
            have hns66_2 := NB390_387.out
            have hns66_3 := NB391_387.out
            have hns66_4 := NB392_387.out
            have hms66_0 := NB387_386.out
            have hms66_2 := NB387_390.out
            have hms66_3 := NB387_391.out
            have hms66_4 := NB387_392.out
            refine skip_ (w1 := ?_) (by rfl) rfl ?_ ?_
            rotate_left
            · go_simp
              rfl
            refine hK.out _ _ ⟨((cell_far (p := ⟨gb387, _, none⟩) NB392_387.out _).trans (((cell_far (p := ⟨gb387, _, none⟩) NB392_387.out _).trans (hHeld.1)))), ((cell_far (p := ⟨gb387, _, none⟩) NB392_387.out _).trans (((cell_far (p := ⟨gb387, _, none⟩) NB392_387.out _).trans (hHeld.2))))⟩ (fun hHeld => ?_)
            clear hK K
            refine done_ (by kernel_rfl) ?_
            try go_wp2
            refine bodyPost_ret (results_cell_row rfl _ _ gb387 23 #[.int .i64 t397, .bool t398] (0, 0) _ rfl (by (with_reducible repeat (first | refine blk_drewN ?_ _ | refine blk_drew ?_ | refine blk_alloc ?_ _)); refine blk_put (cs := #[.int .i64 t397, .bool false]) ?_ 1 _ rfl; (with_reducible repeat (first | refine blk_drewN ?_ _ | refine blk_drew ?_ | refine blk_alloc ?_ _)); refine blk_put (cs := #[.int .i64 0, .bool false]) ?_ 0 _ rfl; (with_reducible repeat (first | refine blk_drewN ?_ _ | refine blk_drew ?_ | refine blk_alloc ?_ _)); exact BK387.out) Try.underlying23 rfl (by kernel_rfl)) rfl ?_
            exact ⟨by first | rfl | (simp [errW_none, errW_some] <;> rfl) | (simp [*, errW_none, errW_some] <;> rfl), by repeat (first | (with_reducible first | exact HB.out | apply below_alloc | apply pw_below_drewN | apply below_drew1 | refine below_set ?_ GE386.out | refine below_set ?_ GE387.out | refine below_set ?_ GE390.out | refine below_set ?_ GE391.out | refine below_set ?_ GE392.out) | exact HB.out)⟩
end Go.Proofs.Ytenpiaafkmfjfaa.B

end
section
namespace Go.Proofs.Ytenpiaafkmfjfaa.B
open Go.RowKit Go.Proofs.YtenpiaafkmfjfaaW.PrintWords Go.Proofs.YtenpiaafkmfjfaaW.PrintLast Go.Proofs.YtenpiaafkmfjfaaW.PrintMore
def digitsOf (s : ByteArray) : List Nat := s.data.toList.map fun b => b.toNat - 48
def allDigits (s : ByteArray) : Bool := s.data.toList.all fun b => decide (48 ≤ b.toNat) && decide (b.toNat ≤ 57)
def fixed_bits32.f (a0 : ByteArray) : Option Int := if a0.size ≤ 1000 then (if allDigits a0 = true then some ((frac 32 (digitsOf a0) 0 : Nat) : Int) else none) else none
def RowD (w : World) (g : Nat) (l : List Nat) : Prop :=
  ∃ (cs : Array Value) (m : Nat), w.heap[g]? = some (.cells cs 5 (m, m + 1)) ∧ l.length ≤ m ∧ m = cs.size ∧ ∀ (j d : Nat), l[j]? = some d → cs[j]? = some (Value.int .u8 (48 + d : Nat))
theorem RowD.cell {w : World} {g : Nat} {l : List Nat} (h : RowD w g l) (j : Nat) (d : Nat) (hj : l[j]? = some d) : w.cell? ⟨g, j, none⟩ = some (.int .u8 (48 + d : Nat)) := by
  obtain ⟨cs, m, hb, _, _, hc⟩ := h
  rw [cell_of_row w g j cs 5 (m, m + 1) hb]
  exact hc j d hj
theorem RowD.free {w : World} {g : Nat} {l : List Nat} (h : RowD w g l) (j : Nat) (hj : j < l.length) : w.frozen? ⟨g, j, none⟩ = false := by
  obtain ⟨cs, m, hb, hm, _, _⟩ := h
  simp [World.frozen?, hb]
  omega
theorem RowD.set {w : World} {g : Nat} {l : List Nat} (h : RowD w g l) (j : Nat) (hj : j < l.length) (d : Nat) : RowD (w.setCell ⟨g, j, none⟩ (.int .u8 (48 + d : Nat))) g (l.set j d) := by
  obtain ⟨cs, m, hb, hm, hs, hc⟩ := h
  refine ⟨cs.setIfInBounds j (.int .u8 (48 + d : Nat)), m, by simp [World.setCell, Array.getElem?_modify, hb], by simpa using hm, by simpa using hs, fun i e hi => ?_⟩
  by_cases hij : j = i
  · subst hij
    rw [List.getElem?_set_self hj] at hi
    obtain rfl := Option.some.inj hi
    rw [Array.getElem?_setIfInBounds_self_of_lt (by omega)]
  · rw [List.getElem?_set_ne hij] at hi
    rw [Array.getElem?_setIfInBounds_ne hij]
    exact hc i e hi
theorem vint {k : IntKind} {a b : Int} (h : a = b) : Value.int k a = Value.int k b := by rw [h]
theorem retI {k : IntKind} {a b : Int} (h : a = b) : Ending.returned (Value.int k a) = .returned (Value.int k b) := by rw [h]
theorem digit_back (b : Nat) (h1 : 48 ≤ b) : 48 + (b - 48) = b := by omega
theorem rowD_new (w : World) (s : ByteArray) (cap : Nat) (h : allDigits s = true) : RowD (w.alloc (.cells (bytesRow s cap) 5 ((bytesRow s cap).size, (bytesRow s cap).size + 1))) w.heap.size (digitsOf s) := by
  refine ⟨_, _, heap_alloc_new w _, ?_, rfl, fun j d hj => ?_⟩
  · simp [digitsOf, bytesRow]
  · unfold digitsOf at hj
    rw [List.getElem?_map] at hj
    obtain ⟨b, hb, rfl⟩ := Option.map_eq_some_iff.1 hj
    obtain ⟨hlt, hbe⟩ := List.getElem?_eq_some_iff.1 hb
    have hm : b ∈ s.data.toList := List.mem_of_getElem? hb
    have ha := List.all_eq_true.1 h b hm
    simp only [Bool.and_eq_true, decide_eq_true_eq] at ha
    rw [bytesRow_at s cap j (by simpa using hlt)]
    have : s.data[j]'(by simpa using hlt) = b := by simpa using hbe
    rw [this, digit_back _ ha.1]
theorem digits_nine (s : ByteArray) (h : allDigits s = true) : ninth (digitsOf s) := by
  intro d hd
  unfold digitsOf at hd
  obtain ⟨b, hb, rfl⟩ := List.mem_map.1 hd
  have ha := List.all_eq_true.1 h b hb
  simp only [Bool.and_eq_true, decide_eq_true_eq] at ha
  omega
set_option maxHeartbeats 2000000 in
set_option maxRecDepth 100000 in
theorem fixed_bits32.calls (a0 : ByteArray) (r : Int) (w : World) (h : fixed_bits32.f a0 = some r) :
    Calls Try.prog 94 #[.string a0] w fun e w' => e = .returned (.int .u64 r) ∧ Below w.heap.size w w' := by
  unfold fixed_bits32.f at h
  by_cases hn : a0.size ≤ 1000
  · rw [if_pos hn] at h
    by_cases hd : allDigits a0 = true
    · rw [if_pos hd] at h
      have h2 : ((frac 32 (digitsOf a0) 0 : Nat) : Int) = r := Option.some.inj h
      clear h
      generalize hR0 : frac 32 (digitsOf a0) 0 = R0 at h2
      subst h2
      have HR0 : Hid (frac 32 (digitsOf a0) 0 = R0) := hR0
      clear hR0
      have hcv := fun w => run_bytes_of_string (P := Try.prog) w 9 94 5 a0 Try.underlying9 Try.underlying94 Try.underlying5
      have HL : Hid ((digitsOf a0).length = a0.size) := by simp [digitsOf, Hid]
      have H9 : Hid (ninth (digitsOf a0)) := digits_nine a0 hd
      have HDG : Hid (allDigits a0 = true) := hd
      clear hd
      go_enter Try.func94, Try.ntmps94
      go_wp2
      have hR : Hid (RowD _ w.heap.size (digitsOf a0)) := rowD_new w.drew a0 (grownCap w a0.size 0 5) HDG.out
      have hB : Hid (Below w.heap.size w (w.drew.alloc (.cells (bytesRow a0 (grownCap w a0.size 0 5)) 5 ((bytesRow a0 (grownCap w a0.size 0 5)).size, (bytesRow a0 (grownCap w a0.size 0 5)).size + 1)))) := below_alloc (below_drew1 (Below.refl _ _)) _
      clear hcv
      go_loopw [4, 10] (fun o i wr => ∃ (n : Nat) (l : List Nat) (out : Nat), n ≤ 32 ∧ i = .int .i64 n ∧ o = .int .u64 out ∧ Hid (l.length = a0.size) ∧ Hid (ninth l) ∧ Hid (out < 2 ^ n) ∧ Hid (frac (32 - n) l out = R0) ∧ Hid (RowD wr w.heap.size l) ∧ Hid (Below w.heap.size w wr)) (fun _ i _ => 32 - (intOf i).toNat)
      case atStart => exact ⟨0, digitsOf a0, 0, by omega, rfl, rfl, HL, H9, (show 0 < 2 ^ 0 by decide), HR0, hR, hB⟩
      case round =>
        clear hR hB HL H9
        obtain ⟨n, l, out, hn32, rfl, rfl, HL, H9, HO, HF, hR, hB⟩ := hrel
        obtain ⟨wo, rfl⟩ : ∃ wo : World, wo = wr := ⟨_, rfl⟩
        by_cases hlt : n < 32
        · have hltB : decide ((n : Int) < 32) = true := by simp; omega
          have hOb : Hid (out < 4294967296) := Nat.lt_of_lt_of_le HO.out (by have := Nat.pow_le_pow_right (n := 2) (by decide) (show n ≤ 32 by omega); simpa using this)
          go_wp2_with fail
          clear hltB
          go_loopw [5, 6] (fun c i wr => ∃ (p : Nat) (z : Int), p ≤ l.length ∧ i = .int .i64 z ∧ Hid (z = (p : Int) - 1) ∧ c = .int .u8 (midC l p) ∧ Hid (RowD wr w.heap.size (mid l p)) ∧ Hid (Below w.heap.size w wr)) (fun _ i _ => (intOf i + 1).toNat)
          case atStart => exact ⟨l.length, _, by omega, rfl, (by rw [HL.out] : (a0.size : Int) - 1 = (l.length : Int) - 1), by rw [(mid_all l).2]; rfl, (by rw [(mid_all l).1]; exact hR.out), hB.out⟩
          case round =>
            clear hR hB
            obtain ⟨p, z, hp, rfl, hz, rfl, hR, hB⟩ := hrel
            have hzz := hz.out
            clear hz
            cases p with
            | zero =>
              obtain rfl : z = -1 := by omega
              clear hzz
              have hcz : midC l 0 ≤ 1 := midC_le l 0 H9.out
              have e0 : Hid (midC l 0 = (dblR l).2) := (mid_zero l).2
              have e1 : Hid (RowD wr w.heap.size (dblR l).1) := by have := hR.out; rw [(mid_zero l).1] at this; exact this
              clear hR
              generalize midC l 0 = c at hcz e0
              have hob := hOb.out
              have e2 : Hid (IntKind.u64.wrap ((out : Int) * 2) = ((2 * out : Nat) : Int)) := by show _ = _; rw [IntKind.wrap_u64]; omega
              have e3 : Hid (bits .or .u64 ((2 * out : Nat) : Int) (c : Int) = ((2 * out + c : Nat) : Int)) := or_bit out c hcz (by omega)
              have e4 : Hid (2 * out + c < 2 ^ (n + 1)) := by have := HO.out; show _ < _; rw [Nat.pow_succ]; omega
              have e5 : Hid (frac (32 - (n + 1)) (dblR l).1 (2 * out + c) = R0) := by
                have := HF.out
                rw [show 32 - n = (32 - (n + 1)) + 1 by omega, frac_step, ← e0.out] at this
                exact this
              clear hob
              go_wp2
              go_roundw
              case rel => exact ⟨n + 1, (dblR l).1, 2 * out + c, by omega, by go_num, by rw [e2.out, e3.out], (by show _ = _; rw [dblR_len]; exact HL.out), dblR_nine l, e4, e5, e1, hB⟩
              case measure => first | (simp [intOf]; done) | (simp [intOf]; omega)
            | succ q =>
              obtain rfl : z = (q : Int) := by omega
              clear hzz
              have hq : q < l.length := by omega
              have hqa : q < a0.size := by have := HL.out; omega
              have hcz : midC l (q + 1) ≤ 1 := midC_le l (q + 1) H9.out
              have hst := mid_step l q hq
              have hd9 : l[q] ≤ 9 := H9.out _ (List.getElem_mem hq)
              have q0 := hR.out.cell q _ (mid_at l q hq)
              have z0 := hR.out.free q (by rw [mid_len]; omega)
              have hset := hR.out.set q (by rw [mid_len]; omega) ((2 * l[q] + midC l (q + 1)) % 10)
              rw [← hst.1] at hset
              have hst2 := hst.2
              clear hst
              generalize l[q] = d at *
              generalize midC l (q + 1) = c at *
              have HS2 : Hid (midC l q = (2 * d + c) / 10) := hst2
              have HSET : Hid (RowD (wr.setCell ⟨w.heap.size, q, none⟩ (.int .u8 (48 + (2 * d + c) % 10 : Nat))) w.heap.size (mid l q)) := hset
              clear hst2 hset
              go_wp2
              go_roundw
              case rel =>
                refine ⟨q, _, by omega, rfl, rfl, ?_, ?_, ?_⟩
                · exact vint (by rw [HS2.out]; omega)
                · have := HSET.out
                  rw [show ((48 + (2 * d + c) % 10 : Nat) : Int) = 48 + (2 * (48 + (d : Int) - 48) + (c : Int)) % 10 by omega] at this
                  exact this
                · exact below_set hB.out (Nat.le_refl _)
              case measure => first | (simp [intOf]; done) | (simp [intOf]; omega)
        · obtain rfl : n = 32 := by omega
          have e6 : Hid (out = R0) := by have := HF.out; simp only [Nat.sub_self, frac] at this; exact this
          clear HF HO
          have hlt2 : decide ((32 : Int) < 32) = false := by decide
          go_wp2
          go_ret
          exact ⟨retI (by rw [e6.out]), hB.out⟩
    · rw [if_neg hd] at h
      cases h
  · rw [if_neg hn] at h
    cases h
end Go.Proofs.Ytenpiaafkmfjfaa.B

end
section
namespace Go.Proofs.Ytenpiaafkmfjfaa.B
open Go.RowKit Go.Proofs.YtenpiaafkmfjfaaW.PrintWords Go.Proofs.YtenpiaafkmfjfaaW.PrintLast Go.Proofs.YtenpiaafkmfjfaaW.PrintMore
attribute [local go_sem] max2_int min2_int max_two min_two max_three min_three max_four min_four
set_option linter.unusedVariables false
set_option linter.unusedSimpArgs false
def stringslite_HasPrefix.f (a0 : ByteArray) (a1 : ByteArray) : Option (Bool) := if (a0.size : Int) ≥ (a1.size : Int) then (if 0 ≤ (a1.size : Int) then (if (a1.size : Int) ≤ (a0.size : Int) then (some ((a0.extract 0 ((a1.size : Int) : Int).toNat).toList == a1.toList)) else (none)) else (none)) else (some false)
set_option maxHeartbeats 8000000 in
set_option maxRecDepth 100000 in
theorem stringslite_HasPrefix.calls (a0 : ByteArray) (a1 : ByteArray) (r : Bool) (w : World) (h : stringslite_HasPrefix.f a0 a1 = some r) :
    Calls Try.prog 119 #[.string a0, .string a1] w fun e w' => e = .returned (.bool r) ∧ Drawn0 w w' := by
  have H : (if (a0.size : Int) ≥ (a1.size : Int) then (if 0 ≤ (a1.size : Int) then (if (a1.size : Int) ≤ (a0.size : Int) then (some ((a0.extract 0 ((a1.size : Int) : Int).toNat).toList == a1.toList)) else (none)) else (none)) else (some false)) = some r := h
  clear h
  by_cases c3 : (a0.size : Int) ≥ (a1.size : Int)
  · rw [if_pos c3] at H
    have c3b0 : decide ((a1.size : Int) ≤ (a0.size : Int)) = true := decide_eq_true c3
    have c3b1 : decide (a1.size ≤ a0.size) = true := decide_eq_true (Int.ofNat_le.mp c3)
    clear c3
    by_cases c4 : 0 ≤ (a1.size : Int)
    · rw [if_pos c4] at H
      have c4b0 := eq_true c4
      have c4b1 : decide (0 ≤ (a1.size : Int)) = true := decide_eq_true c4
      clear c4
      by_cases c5 : (a1.size : Int) ≤ (a0.size : Int)
      · rw [if_pos c5] at H
        have c5b0 := eq_true c5
        have c5b1 : decide ((a1.size : Int) ≤ (a0.size : Int)) = true := decide_eq_true c5
        clear c5
        obtain rfl := Option.some.inj H
        go_enter Try.func119, Try.ntmps119
        go_wp2
        go_ret
        exact ⟨by first | rfl | (simp; done) | (simp [*]; done), by repeat (first | exact Drawn0.refl _ | apply Drawn0.step)⟩
      · rw [if_neg c5] at H
        exact absurd H (by simp)
    · rw [if_neg c4] at H
      exact absurd H (by simp)
  · rw [if_neg c3] at H
    have c3b0 : decide ((a1.size : Int) ≤ (a0.size : Int)) = false := decide_eq_false c3
    have c3b1 : decide (a1.size ≤ a0.size) = false := decide_eq_false (fun h => c3 (Int.ofNat_le.mpr h))
    clear c3
    obtain rfl := Option.some.inj H
    go_enter Try.func119, Try.ntmps119
    go_wp2
    go_ret
    exact ⟨by first | rfl | (simp; done) | (simp [*]; done), by repeat (first | exact Drawn0.refl _ | apply Drawn0.step)⟩
def stringslite_CutPrefix.f (a0 : ByteArray) (a1 : ByteArray) : Option (ByteArray × Bool) := (stringslite_HasPrefix.f a0 a1).bind fun t421 => (if t421 = true then (if 0 ≤ (a1.size : Int) then (if (a1.size : Int) ≤ (a0.size : Int) then (some (a0.extract ((a1.size : Int) : Int).toNat a0.size, true)) else (none)) else (none)) else (some (a0, false)))
set_option maxHeartbeats 8000000 in
set_option maxRecDepth 100000 in
theorem stringslite_CutPrefix.calls (a0 : ByteArray) (a1 : ByteArray) (r1 : ByteArray) (r2 : Bool) (w : World) (h : stringslite_CutPrefix.f a0 a1 = some (r1, r2)) :
    Calls Try.prog 115 #[.string a0, .string a1] w fun e w' => e = .returned (.tuple #[.string r1, .bool r2]) ∧ Drawn0 w w' := by
  have H : ((stringslite_HasPrefix.f a0 a1).bind fun t421 => (if t421 = true then (if 0 ≤ (a1.size : Int) then (if (a1.size : Int) ≤ (a0.size : Int) then (some (a0.extract ((a1.size : Int) : Int).toNat a0.size, true)) else (none)) else (none)) else (some (a0, false)))) = some (r1, r2) := h
  clear h
  replace H := Option.bind_eq_some_iff.mp H
  obtain ⟨t421, A30, H⟩ := H
  replace H : (if t421 = true then (if 0 ≤ (a1.size : Int) then (if (a1.size : Int) ≤ (a0.size : Int) then (some (a0.extract ((a1.size : Int) : Int).toNat a0.size, true)) else (none)) else (none)) else (some (a0, false))) = some (r1, r2) := H
  have A3 := Aside0.mk A30
  clear A30
  by_cases c4 : t421 = true
  · subst c4
    have H1 : (if 0 ≤ (a1.size : Int) then (if (a1.size : Int) ≤ (a0.size : Int) then (some (a0.extract ((a1.size : Int) : Int).toNat a0.size, true)) else (none)) else (none)) = some (r1, r2) := by rw [if_pos rfl] at H; exact H
    clear H
    have H := H1
    clear H1
    by_cases c5 : 0 ≤ (a1.size : Int)
    · rw [if_pos c5] at H
      have c5b0 := eq_true c5
      have c5b1 : decide (0 ≤ (a1.size : Int)) = true := decide_eq_true c5
      clear c5
      by_cases c6 : (a1.size : Int) ≤ (a0.size : Int)
      · rw [if_pos c6] at H
        have c6b0 := eq_true c6
        have c6b1 : decide ((a1.size : Int) ≤ (a0.size : Int)) = true := decide_eq_true c6
        clear c6
        simp only [Option.some.injEq, Prod.mk.injEq] at H
        obtain ⟨rfl, rfl⟩ := H
        go_enter Try.func115, Try.ntmps115
        go_wp2_with (first | ((with_reducible refine gate_callee (f := 119) rfl ?_); refine goesL_ (some 8) rfl rfl Try.func119 (by kernel_rfl) rfl #[.string a0, .string a1] rfl (by (try simp only [List.map_toArray, List.map_cons, List.map_nil]); first | done | rfl | (simp only [List.length_drop, List.length_take]; rfl)) ?_; (with_reducible refine (stringslite_HasPrefix.calls a0 a1 true _ A3.out).mono ?_); rintro e w' ⟨rfl, ⟨nd, rfl⟩⟩; refine ⟨_, rfl, ?_⟩))
        go_ret2
        exact ⟨by first | rfl | (simp; done) | (simp [*]; done), by repeat (first | exact Drawn0.refl _ | apply Drawn0.step)⟩
      · rw [if_neg c6] at H
        exact absurd H (by simp)
    · rw [if_neg c5] at H
      exact absurd H (by simp)
  · replace c4 := Bool.eq_false_iff.mpr c4
    subst c4
    have H1 : (some (a0, false)) = some (r1, r2) := by rw [if_neg (show ¬ (false = true) by decide)] at H; exact H
    clear H
    have H := H1
    clear H1
    simp only [Option.some.injEq, Prod.mk.injEq] at H
    obtain ⟨rfl, rfl⟩ := H
    go_enter Try.func115, Try.ntmps115
    go_wp2_with (first | ((with_reducible refine gate_callee (f := 119) rfl ?_); refine goesL_ (some 8) rfl rfl Try.func119 (by kernel_rfl) rfl #[.string a0, .string a1] rfl (by (try simp only [List.map_toArray, List.map_cons, List.map_nil]); first | done | rfl | (simp only [List.length_drop, List.length_take]; rfl)) ?_; (with_reducible refine (stringslite_HasPrefix.calls a0 a1 false _ A3.out).mono ?_); rintro e w' ⟨rfl, ⟨nd, rfl⟩⟩; refine ⟨_, rfl, ?_⟩))
    go_ret2
    exact ⟨by first | rfl | (simp; done) | (simp [*]; done), by repeat (first | exact Drawn0.refl _ | apply Drawn0.step)⟩
def strings_CutPrefix.f (a0 : ByteArray) (a1 : ByteArray) : Option (ByteArray × Bool) := (stringslite_CutPrefix.f a0 a1).bind fun bt422 => (some (bt422.1, bt422.2))
set_option maxHeartbeats 8000000 in
set_option maxRecDepth 100000 in
theorem strings_CutPrefix.calls (a0 : ByteArray) (a1 : ByteArray) (r1 : ByteArray) (r2 : Bool) (w : World) (h : strings_CutPrefix.f a0 a1 = some (r1, r2)) :
    Calls Try.prog 92 #[.string a0, .string a1] w fun e w' => e = .returned (.tuple #[.string r1, .bool r2]) ∧ Drawn0 w w' := by
  have H : ((stringslite_CutPrefix.f a0 a1).bind fun bt422 => (some (bt422.1, bt422.2))) = some (r1, r2) := h
  clear h
  replace H := Option.bind_eq_some_iff.mp H
  obtain ⟨⟨t422, t423⟩, A30, H⟩ := H
  replace H : (some (t422, t423)) = some (r1, r2) := H
  have A3 := Aside0.mk A30
  clear A30
  simp only [Option.some.injEq, Prod.mk.injEq] at H
  obtain ⟨rfl, rfl⟩ := H
  go_enter Try.func92, Try.ntmps92
  go_wp2_with (first | ((with_reducible refine gate_callee (f := 115) rfl ?_); refine goesL_ (some 8) rfl rfl Try.func115 (by kernel_rfl) rfl #[.string a0, .string a1] rfl (by (try simp only [List.map_toArray, List.map_cons, List.map_nil]); first | done | rfl | (simp only [List.length_drop, List.length_take]; rfl)) ?_; (with_reducible refine (stringslite_CutPrefix.calls a0 a1 t422 t423 _ A3.out).mono ?_); rintro e w' ⟨rfl, ⟨nd, rfl⟩⟩; refine ⟨_, rfl, ?_⟩))
  go_ret2
  exact ⟨by first | rfl | (simp; done) | (simp [*]; done), by repeat (first | exact Drawn0.refl _ | apply Drawn0.step)⟩
def fixed_figures.l0 : Nat → ByteArray → Int → Option (ByteArray × ByteArray)
  | 0, _, _ => none
  | k + 1, x0, x4 => if x4 < (x0.size : Int) then (if 0 ≤ x4 then (if (bt x0 x4) ≥ 48 then (if (bt x0 x4) ≤ 57 then (fixed_figures.l0 k x0 (wrap64 (x4 + 1))) else (if x4 ≤ (x0.size : Int) then (some (x0.extract 0 (x4 : Int).toNat, x0.extract (x4 : Int).toNat x0.size)) else (none))) else (if x4 ≤ (x0.size : Int) then (some (x0.extract 0 (x4 : Int).toNat, x0.extract (x4 : Int).toNat x0.size)) else (none))) else (none)) else (if 0 ≤ x4 then (if x4 ≤ (x0.size : Int) then (some (x0.extract 0 (x4 : Int).toNat, x0.extract (x4 : Int).toNat x0.size)) else (none)) else (none))
def fixed_figures.f (k : Nat) (a0 : ByteArray) : Option (ByteArray × ByteArray) := fixed_figures.l0 k a0 0
set_option maxHeartbeats 8000000 in
set_option maxRecDepth 100000 in
theorem fixed_figures.calls (k : Nat) (a0 : ByteArray) (r1 : ByteArray) (r2 : ByteArray) (w : World) (h : fixed_figures.f k a0 = some (r1, r2)) :
    Calls Try.prog 93 #[.string a0] w fun e w' => e = .returned (.tuple #[.string r1, .string r2]) ∧ Drawn0 w w' := by
  have H : (fixed_figures.l0 k a0 0) = some (r1, r2) := h
  clear h
  have H' := Aside0.mk H
  clear H
  go_enter Try.func93, Try.ntmps93
  go_wp2
  repeat (go_quiet (fail); try go_wp2)
  go_loopg [4] k (fun kq v4 w' => ∃ (x4_1 : Int), v4 = .int .i64 x4_1 ∧ Aside0 (fixed_figures.l0 kq a0 x4_1 = some (r1, r2)) ∧ Aside0 (kq ≤ k) ∧ Drawn0 w w')
  case atStart => exact ⟨(0), (by first | rfl | (simp; done) | (simp [*]; done)), H', ⟨Nat.le_refl _⟩, by repeat (first | exact Drawn0.refl _ | apply Drawn0.step)⟩
  case round =>
    clear H'
    obtain ⟨x4_1, rfl, HA, HK1, ⟨m1, rfl⟩⟩ := hrel
    cases gk with
    | zero => exact absurd HA.out (by simp [fixed_figures.l0])
    | succ k1 =>
      have H := HA.out
      clear HA
      simp only [fixed_figures.l0] at H
      by_cases c2 : x4_1 < (a0.size : Int)
      · rw [if_pos c2] at H
        have c2b0 : decide (x4_1 < (a0.size : Int)) = true := decide_eq_true c2
        clear c2
        by_cases c3 : 0 ≤ x4_1
        · rw [if_pos c3] at H
          have c3b0 : decide (0 ≤ x4_1) = true := decide_eq_true c3
          clear c3
          by_cases c5 : (bt a0 x4_1) ≥ 48
          · rw [if_pos c5] at H
            have c5b0 : decide (48 ≤ (bt a0 x4_1)) = true := decide_eq_true c5
            clear c5
            by_cases c7 : (bt a0 x4_1) ≤ 57
            · rw [if_pos c7] at H
              have c7b0 : decide ((bt a0 x4_1) ≤ 57) = true := decide_eq_true c7
              clear c7
              have H' := Aside0.mk H
              clear H
              have p4 : 0 ≤ (x4_1 : Int) := of_decide_eq_true (by first | (with_reducible assumption) | assumption)
              have q4 : x4_1 < (a0.size : Int) := of_decide_eq_true (by first | (with_reducible assumption) | assumption)
              have hx4 := bt_at a0 x4_1
              replace p4 := eq_true p4
              replace q4 := eq_true q4
              have p6 : 0 ≤ (x4_1 : Int) := of_decide_eq_true (by first | (with_reducible assumption) | assumption)
              have q6 : x4_1 < (a0.size : Int) := of_decide_eq_true (by first | (with_reducible assumption) | assumption)
              have hx6 := bt_at a0 x4_1
              replace p6 := eq_true p6
              replace q6 := eq_true q6
              go_wp2
              repeat (go_quiet (fail); try go_wp2)
              go_roundg k1
              case measure => have := HK1.out; omega
              case rel => exact ⟨(wrap64 (x4_1 + 1)), (by first | rfl | (simp; done) | (simp [*]; done)), H', ⟨by have := HK1.out; omega⟩, by repeat (first | exact Drawn0.refl _ | apply Drawn0.step)⟩
            · rw [if_neg c7] at H
              have c7b0 : decide ((bt a0 x4_1) ≤ 57) = false := decide_eq_false c7
              clear c7
              have c8b0 := eq_true (of_decide_eq_true (by first | (with_reducible assumption) | assumption) : 0 ≤ x4_1)
              by_cases c9 : x4_1 ≤ (a0.size : Int)
              · rw [if_pos c9] at H
                have c9b0 := eq_true c9
                have c9b1 : decide (x4_1 ≤ (a0.size : Int)) = true := decide_eq_true c9
                clear c9
                have c10b0 := eq_true (of_decide_eq_true (by first | (with_reducible assumption) | assumption) : 0 ≤ x4_1)
                have c11b0 := eq_true (of_decide_eq_true (by first | (with_reducible assumption) | assumption) : x4_1 ≤ (a0.size : Int))
                simp only [Option.some.injEq, Prod.mk.injEq] at H
                obtain ⟨rfl, rfl⟩ := H
                have p4 : 0 ≤ (x4_1 : Int) := of_decide_eq_true (by first | (with_reducible assumption) | assumption)
                have q4 : x4_1 < (a0.size : Int) := of_decide_eq_true (by first | (with_reducible assumption) | assumption)
                have hx4 := bt_at a0 x4_1
                replace p4 := eq_true p4
                replace q4 := eq_true q4
                have p6 : 0 ≤ (x4_1 : Int) := of_decide_eq_true (by first | (with_reducible assumption) | assumption)
                have q6 : x4_1 < (a0.size : Int) := of_decide_eq_true (by first | (with_reducible assumption) | assumption)
                have hx6 := bt_at a0 x4_1
                replace p6 := eq_true p6
                replace q6 := eq_true q6
                go_wp2
                repeat (go_quiet (fail); try go_wp2)
                go_ret2
                exact ⟨by first | rfl | (simp; done) | (simp [*]; done), by repeat (first | exact Drawn0.refl _ | apply Drawn0.step)⟩
              · rw [if_neg c9] at H
                exact absurd H (by simp)
          · rw [if_neg c5] at H
            have c5b0 : decide (48 ≤ (bt a0 x4_1)) = false := decide_eq_false c5
            clear c5
            have c12b0 := eq_true (of_decide_eq_true (by first | (with_reducible assumption) | assumption) : 0 ≤ x4_1)
            by_cases c13 : x4_1 ≤ (a0.size : Int)
            · rw [if_pos c13] at H
              have c13b0 := eq_true c13
              have c13b1 : decide (x4_1 ≤ (a0.size : Int)) = true := decide_eq_true c13
              clear c13
              have c14b0 := eq_true (of_decide_eq_true (by first | (with_reducible assumption) | assumption) : 0 ≤ x4_1)
              have c15b0 := eq_true (of_decide_eq_true (by first | (with_reducible assumption) | assumption) : x4_1 ≤ (a0.size : Int))
              simp only [Option.some.injEq, Prod.mk.injEq] at H
              obtain ⟨rfl, rfl⟩ := H
              have p4 : 0 ≤ (x4_1 : Int) := of_decide_eq_true (by first | (with_reducible assumption) | assumption)
              have q4 : x4_1 < (a0.size : Int) := of_decide_eq_true (by first | (with_reducible assumption) | assumption)
              have hx4 := bt_at a0 x4_1
              replace p4 := eq_true p4
              replace q4 := eq_true q4
              go_wp2
              repeat (go_quiet (fail); try go_wp2)
              go_ret2
              exact ⟨by first | rfl | (simp; done) | (simp [*]; done), by repeat (first | exact Drawn0.refl _ | apply Drawn0.step)⟩
            · rw [if_neg c13] at H
              exact absurd H (by simp)
        · rw [if_neg c3] at H
          exact absurd H (by simp)
      · rw [if_neg c2] at H
        have c2b0 : decide (x4_1 < (a0.size : Int)) = false := decide_eq_false c2
        clear c2
        by_cases c16 : 0 ≤ x4_1
        · rw [if_pos c16] at H
          have c16b0 := eq_true c16
          have c16b1 : decide (0 ≤ x4_1) = true := decide_eq_true c16
          clear c16
          by_cases c17 : x4_1 ≤ (a0.size : Int)
          · rw [if_pos c17] at H
            have c17b0 := eq_true c17
            have c17b1 : decide (x4_1 ≤ (a0.size : Int)) = true := decide_eq_true c17
            clear c17
            have c18b0 := eq_true (of_decide_eq_true (by first | (with_reducible assumption) | assumption) : 0 ≤ x4_1)
            have c19b0 := eq_true (of_decide_eq_true (by first | (with_reducible assumption) | assumption) : x4_1 ≤ (a0.size : Int))
            simp only [Option.some.injEq, Prod.mk.injEq] at H
            obtain ⟨rfl, rfl⟩ := H
            go_wp2
            repeat (go_quiet (fail); try go_wp2)
            go_ret2
            exact ⟨by first | rfl | (simp; done) | (simp [*]; done), by repeat (first | exact Drawn0.refl _ | apply Drawn0.step)⟩
          · rw [if_neg c17] at H
            exact absurd H (by simp)
        · rw [if_neg c16] at H
          exact absurd H (by simp)
end Go.Proofs.Ytenpiaafkmfjfaa.B

end
section
namespace Go.Proofs.Ytenpiaafkmfjfaa.B
open Go.RowKit Go.Proofs.YtenpiaafkmfjfaaW.PrintWords Go.Proofs.YtenpiaafkmfjfaaW.PrintLast Go.Proofs.YtenpiaafkmfjfaaW.PrintMore
def mulP (p q : Int × Bool) : Int × Bool := (fitV ((p.1 * q.1).tdiv 4294967296), fitF ((p.1 * q.1).tdiv 4294967296) (p.2 || q.2))
def divP (p q : Int × Bool) : Int × Bool := (fitV ((p.1 * 4294967296).tdiv q.1), fitF ((p.1 * 4294967296).tdiv q.1) (p.2 || q.2))
def negP (p : Int × Bool) : Int × Bool := (-p.1, p.2)
def addP (p q : Int × Bool) : Int × Bool := (fitV (p.1 + q.1), fitF (p.1 + q.1) (p.2 || q.2))
def intP (n : Int) : Int × Bool := (n * 4294967296, false)
theorem mul_p (k : Nat) (hk : 3 ≤ k) {p q : Int × Bool} (hp : Snd p.1) (hq : Snd q.1) : fixed_Mul.f k p.1 p.2 q.1 q.2 = some (mulP p q) := by
  rw [mul_f k hk p.2 q.2 hp.i64 hq.i64, sv_id hp, sv_id hq, sf_id hp, sf_id hq]; rfl
theorem div_p (k : Nat) (hk : 14 ≤ k) {p q : Int × Bool} (hp : Snd p.1) (hq : Snd q.1) (h0 : q.1 ≠ 0) : fixed_Div.f k p.1 p.2 q.1 q.2 = some (divP p q) := by
  rw [div_f k hk p.2 q.2 hp.i64 hq.i64 (by rw [sv_id hq]; exact h0), sv_id hp, sv_id hq, sf_id hp, sf_id hq]; rfl
theorem neg_p {p : Int × Bool} (hp : Snd p.1) : fixed_Neg.f p.1 p.2 = some (negP p) := by
  rw [neg_f p.2 hp.i64, sv_id hp, sf_id hp]; rfl
theorem add_p (k : Nat) (hk : 7 ≤ k) {p q : Int × Bool} (hp : Snd p.1) (hq : Snd q.1) : fixed_Add.f k p.1 p.2 q.1 q.2 = some (addP p q) := by
  rw [add_f k hk p.2 q.2 hp.i64 hq.i64, sv_id hp, sv_id hq, sf_id hp, sf_id hq]; rfl
theorem int_p (k : Nat) (hk : 1 ≤ k) {n : Int} (h : -2147483647 ≤ n ∧ n ≤ 2147483647) : fixed_Int.f k n = some (intP n) := by
  rw [int_f k hk (by unfold I64; omega), fitV_id (by unfold Snd; omega), fitF_id (by unfold Snd; omega)]; rfl
theorem mulP_snd (p q : Int × Bool) : Snd (mulP p q).1 := fitV_snd _
theorem divP_snd (p q : Int × Bool) : Snd (divP p q).1 := fitV_snd _
theorem addP_snd (p q : Int × Bool) : Snd (addP p q).1 := fitV_snd _
theorem negP_snd {p : Int × Bool} (h : Snd p.1) : Snd (negP p).1 := h.neg
theorem intP_snd {n : Int} (h : -2147483647 ≤ n ∧ n ≤ 2147483647) : Snd (intP n).1 := by unfold intP Snd; dsimp only; omega
def stepP (x t : Int × Bool) (i : Int) : Int × Bool := negP (divP (mulP (mulP t x) x) (intP (2 * i * (2 * i + 1))))
def sinL (x : Int × Bool) : Nat → Int → Int × Bool → Int × Bool → Int × Bool
  | 0, _, _, s => s
  | n + 1, i, t, s => sinL x n (i + 1) (stepP x t i) (addP s (stepP x t i))
theorem stepP_snd (x t : Int × Bool) (i : Int) : Snd (stepP x t i).1 := negP_snd (divP_snd _ _)
def clampP (s : Int × Bool) : Int × Bool := (clampV s.1 (-4294967296) 4294967296, s.2)
theorem clamp_p (k : Nat) (hk : 3 ≤ k) {s : Int × Bool} (hs : Snd s.1) : fixed_Clamp.f k s.1 s.2 (-4294967296) false 4294967296 false = some (clampP s) := by
  have h1 : Snd (-4294967296) := by unfold Snd; omega
  have h2 : Snd 4294967296 := by unfold Snd; omega
  rw [clamp_f k hk _ _ _ hs.i64 h2.i64, sv_id hs, sv_id h1, sv_id h2, sf_id hs, sf_id h1, sf_id h2]
  unfold clampP
  simp
theorem sin_l0 (x : Int × Bool) (hx : Snd x.1) : ∀ (n : Nat) (i : Int) (k : Nat) (t s : Int × Bool), i + n = 8 → 0 ≤ i → n + 20 ≤ k → Snd t.1 → Snd s.1 →
    fixed_Sin.l0 k i x.1 x.2 t.1 t.2 s.1 s.2 = some (clampP (sinL x n (i + 1) t s)) := by
  intro n
  induction n with
  | zero =>
    intro i k t s hi h0 hk ht hs
    obtain ⟨k, rfl⟩ : ∃ z, k = z + 1 := ⟨k - 1, by omega⟩
    rw [fixed_Sin.l0, if_neg (by omega), int_p k (by omega) (by omega), Option.bind_some, int_p k (by omega) (by omega), Option.bind_some]
    show (fixed_Clamp.f k s.1 s.2 (-1 * 4294967296) false (1 * 4294967296) false).bind _ = _
    rw [show (-1 * 4294967296 : Int) = -4294967296 from rfl, show (1 * 4294967296 : Int) = 4294967296 from rfl, clamp_p k (by omega) hs, Option.bind_some]
    rfl
  | succ n ih =>
    intro i k t s hi h0 hk ht hs
    obtain ⟨k, rfl⟩ : ∃ z, k = z + 1 := ⟨k - 1, by omega⟩
    have e : wrap64 (wrap64 (2 * wrap64 (i + 1)) * wrap64 (wrap64 (2 * wrap64 (i + 1)) + 1)) = 2 * (i + 1) * (2 * (i + 1) + 1) := by
      have : 2 * (i + 1) * (2 * (i + 1) + 1) ≤ 16 * 17 := mul_bound (by omega) (by omega) (by omega) (by omega)
      have h2 := Int.mul_nonneg (show 0 ≤ 2 * (i + 1) by omega) (show 0 ≤ 2 * (i + 1) + 1 by omega)
      rw [wrap64_id (x := i + 1) (by omega) (by omega), wrap64_id (x := 2 * (i + 1)) (by omega) (by omega), wrap64_id (x := 2 * (i + 1) + 1) (by omega) (by omega), wrap64_id (by omega) (by omega)]
    have hb : 2 * (i + 1) * (2 * (i + 1) + 1) ≤ 16 * 17 := mul_bound (by omega) (by omega) (by omega) (by omega)
    have hb1 : 1 ≤ 2 * (i + 1) * (2 * (i + 1) + 1) := by
      have := mul_bound (a := 1) (b := 1) (A := 2 * (i + 1)) (B := 2 * (i + 1) + 1) (by omega) (by omega) (by omega) (by omega)
      omega
    rw [fixed_Sin.l0, if_pos (by omega), mul_p k (by omega) ht hx, Option.bind_some, mul_p k (by omega) (mulP_snd _ _) hx, Option.bind_some, e, int_p k (by omega) (by omega), Option.bind_some,
      div_p k (by omega) (mulP_snd _ _) (intP_snd (by omega)) (by unfold intP; dsimp only; omega), Option.bind_some, neg_p (divP_snd _ _), Option.bind_some, add_p k (by omega) hs (negP_snd (divP_snd _ _)), Option.bind_some, wrap64_id (x := i + 1) (by omega) (by omega)]
    exact ih (i + 1) k (stepP x t (i + 1)) (addP s (stepP x t (i + 1))) (by omega) (by omega) (by omega) (stepP_snd _ _ _) (addP_snd _ _)
def wrapV (v : Int) : Int := if v.tmod 26986075409 > 13493037704 then v.tmod 26986075409 - 26986075409 else if v.tmod 26986075409 < -13493037704 then v.tmod 26986075409 + 26986075409 else v.tmod 26986075409
theorem tmod_range (v : Int) : -26986075408 ≤ v.tmod 26986075409 ∧ v.tmod 26986075409 ≤ 26986075408 := by
  have h1 := Int.tmod_lt_of_pos v (show (0 : Int) < 26986075409 by decide)
  have h2 : -26986075409 < v.tmod 26986075409 := by
    have := Int.tmod_lt_of_pos (-v) (show (0 : Int) < 26986075409 by decide)
    rw [Int.neg_tmod] at this
    omega
  omega
theorem wrapV_range (v : Int) : -13493037704 ≤ wrapV v ∧ wrapV v ≤ 13493037704 := by
  have := tmod_range v
  unfold wrapV
  split
  · omega
  · split <;> omega
theorem wrap_f (v : Int) (f : Bool) : fixed_Wrap.f v f = some (wrapV (sv v), sf v f) := by
  have := tmod_range (sv v)
  unfold fixed_Wrap.f wrapV
  rw [sound_f, Option.bind_some]
  dsimp only
  by_cases h : (sv v).tmod 26986075409 > 13493037704
  · rw [if_pos h, if_pos h, wrap64_id (by omega) (by omega)]
  · rw [if_neg h, if_neg h]
    by_cases h2 : (sv v).tmod 26986075409 < -13493037704
    · rw [if_pos h2, if_pos h2, wrap64_id (by omega) (by omega)]
    · rw [if_neg h2, if_neg h2]
def foldV (w : Int) : Int := if w > 6746518852 then 13493037704 - w else if w < -6746518852 then -13493037704 - w else w
theorem foldV_snd (v : Int) : Snd (foldV (wrapV v)) := by
  have := wrapV_range v
  unfold foldV Snd
  split
  · omega
  · split <;> omega
def sinP (v : Int) (f : Bool) : Int × Bool := clampP (sinL (foldV (wrapV (sv v)), sf v f) 8 1 (foldV (wrapV (sv v)), sf v f) (foldV (wrapV (sv v)), sf v f))
theorem sin_f (k : Nat) (hk : 40 ≤ k) (v : Int) (f : Bool) : fixed_Sin.f k v f = some (sinP v f) := by
  obtain ⟨k, rfl⟩ : ∃ z, k = z + 1 := ⟨k - 1, by omega⟩
  have hr := wrapV_range (sv v)
  have hs := foldV_snd (sv v)
  have key := sin_l0 (foldV (wrapV (sv v)), sf v f) hs 8 0 k (foldV (wrapV (sv v)), sf v f) (foldV (wrapV (sv v)), sf v f) (by omega) (by omega) (by omega) hs hs
  have key2 : fixed_Sin.j0 (k + 1) (foldV (wrapV (sv v))) (sf v f) = some (sinP v f) := by rw [fixed_Sin.j0]; exact key
  unfold fixed_Sin.f
  rw [wrap_f, Option.bind_some]
  dsimp only
  unfold foldV at key2
  by_cases h : wrapV (sv v) > 6746518852
  · rw [if_pos h, wrap64_id (by omega) (by omega)]
    rw [if_pos h] at key2; exact key2
  · rw [if_neg h]
    rw [if_neg h] at key2
    by_cases h2 : wrapV (sv v) < -6746518852
    · rw [if_pos h2, wrap64_id (by omega) (by omega)]
      rw [if_pos h2] at key2; exact key2
    · rw [if_neg h2]
      rw [if_neg h2] at key2; exact key2
end Go.Proofs.Ytenpiaafkmfjfaa.B

end
section
namespace Go.Proofs.Ytenpiaafkmfjfaa.B
def dval (l : List Nat) : Nat := l.foldl (fun n d => 10 * n + d) 0
theorem dval_from (l : List Nat) : ∀ n : Nat, l.foldl (fun n d => 10 * n + d) n = n * 10 ^ l.length + dval l := by
  induction l with
  | nil => intro n; simp [dval]
  | cons d l ih =>
    intro n
    rw [List.foldl_cons, ih]
    unfold dval
    rw [List.foldl_cons, ih (10 * 0 + d), List.length_cons, Nat.pow_succ, Nat.add_mul]
    have e1 : 10 * n * 10 ^ l.length = n * (10 ^ l.length * 10) := by rw [Nat.mul_comm 10 n, Nat.mul_assoc, Nat.mul_comm 10 (10 ^ l.length)]
    have e2 : (10 * 0 + d) * 10 ^ l.length = d * 10 ^ l.length := by rw [Nat.mul_zero, Nat.zero_add]
    unfold dval
    omega
theorem dval_cons (d : Nat) (l : List Nat) : dval (d :: l) = d * 10 ^ l.length + dval l := by
  show l.foldl (fun n d => 10 * n + d) (10 * 0 + d) = _
  rw [dval_from, Nat.mul_zero, Nat.zero_add]
theorem dval_snoc (l : List Nat) (d : Nat) : dval (l ++ [d]) = 10 * dval l + d := by
  unfold dval; rw [List.foldl_append]; rfl
theorem dval_lt : ∀ l : List Nat, ninth l → dval l < 10 ^ l.length
  | [], _ => by simp [dval]
  | d :: l, h => by
    have h1 := dval_lt l (fun x hx => h x (List.mem_cons_of_mem _ hx))
    have h2 : d ≤ 9 := h d List.mem_cons_self
    rw [dval_cons, List.length_cons, Nat.pow_succ]
    have h3 : d * 10 ^ l.length ≤ 9 * 10 ^ l.length := Nat.mul_le_mul_right _ h2
    omega
theorem dblR_val : ∀ l : List Nat, 2 * dval l = (dblR l).2 * 10 ^ l.length + dval (dblR l).1
  | [] => by simp [dval, dblR]
  | d :: l => by
    have ih := dblR_val l
    have e := dblR_len l
    unfold dblR
    dsimp only
    rw [dval_cons, dval_cons, e, List.length_cons, Nat.pow_succ]
    have hd := Nat.div_add_mod (2 * d + (dblR l).2) 10
    generalize (2 * d + (dblR l).2) / 10 = q at hd ⊢
    generalize (2 * d + (dblR l).2) % 10 = r at hd ⊢
    have e1 : q * (10 ^ l.length * 10) + r * 10 ^ l.length = (2 * d + (dblR l).2) * 10 ^ l.length := by
      rw [← hd, Nat.add_mul, Nat.mul_comm (10 ^ l.length) 10, ← Nat.mul_assoc, Nat.mul_comm q 10]
    rw [Nat.add_mul, Nat.mul_assoc] at e1
    omega
theorem frac_val : ∀ (r : Nat) (l : List Nat) (out : Nat), ninth l → frac r l out = out * 2 ^ r + dval l * 2 ^ r / 10 ^ l.length := by
  intro r
  induction r with
  | zero =>
    intro l out h
    have := dval_lt l h
    simp [frac, Nat.div_eq_of_lt this]
  | succ r ih =>
    intro l out h
    rw [frac, ih _ _ (dblR_nine l), dblR_len]
    have hv := dblR_val l
    generalize (dblR l).2 = c at hv ⊢
    generalize dval (dblR l).1 = v at hv ⊢
    have hp : 0 < 10 ^ l.length := Nat.pow_pos (by omega)
    generalize 10 ^ l.length = T at hv hp ⊢
    generalize dval l = u at hv ⊢
    have e : u * 2 ^ (r + 1) / T = c * 2 ^ r + v * 2 ^ r / T := by
      rw [Nat.pow_succ, Nat.mul_comm (2 ^ r) 2, ← Nat.mul_assoc, Nat.mul_comm u 2, hv, Nat.add_mul, Nat.mul_right_comm, Nat.mul_comm (c * 2 ^ r) T, Nat.mul_add_div hp]
    rw [e, Nat.add_mul, Nat.pow_succ, Nat.mul_comm 2 out, Nat.mul_assoc, Nat.mul_comm 2 (2 ^ r)]
    omega
theorem frac32 (l : List Nat) (h : ninth l) : frac 32 l 0 = dval l * 4294967296 / 10 ^ l.length := by
  rw [frac_val _ _ _ h, Nat.zero_mul, Nat.zero_add]
theorem frac32_lt (l : List Nat) (h : ninth l) : frac 32 l 0 < 4294967296 := by
  rw [frac32 l h]
  have := dval_lt l h
  rw [Nat.div_lt_iff_lt_mul (Nat.pow_pos (by omega)), Nat.mul_comm 4294967296]
  exact Nat.mul_lt_mul_of_pos_right this (by omega)
end Go.Proofs.Ytenpiaafkmfjfaa.B

end
section
namespace Go.Proofs.Ytenpiaafkmfjfaa.B
def isD (c : UInt8) : Bool := decide (48 ≤ c.toNat) && decide (c.toNat ≤ 57)
def dg (c : UInt8) : Nat := c.toNat - 48
def cutL (c : UInt8) : List UInt8 → List UInt8 × Bool
  | [] => ([], false)
  | x :: r => if x = c then (r, true) else (x :: r, false)
def finP (s : List UInt8) (neg : Bool) (V : Int) (f : Bool) : Int × Bool × Int :=
  if textB (if neg = true then -V else V) f = s then (if neg = true then -V else V, f, 0) else (0, false, 4)
def fracP (rest : List UInt8) : Nat × List UInt8 :=
  if (cutL 46 rest).2 = true then (frac 32 (((cutL 46 rest).1.takeWhile isD).map dg) 0, (cutL 46 rest).1.dropWhile isD) else (0, rest)
def parseF (s : List UInt8) : Int × Bool × Int :=
  if ((cutL 45 s).1.takeWhile isD).length < 1 ∨ ((cutL 45 s).1.takeWhile isD).length > 10 ∨ s.length > 50 then (0, false, 4)
  else if dval (((cutL 45 s).1.takeWhile isD).map dg) ≥ 2147483648 then (0, false, 4)
  else finP s (cutL 45 s).2 ((dval (((cutL 45 s).1.takeWhile isD).map dg) * 4294967296 + (fracP ((cutL 45 s).1.dropWhile isD)).1 : Nat) : Int) (!(fracP ((cutL 45 s).1.dropWhile isD)).2.isEmpty)
theorem isD_dg {c : UInt8} (h : isD c = true) : dg c ≤ 9 := by
  unfold isD at h; unfold dg
  simp only [Bool.and_eq_true, decide_eq_true_eq] at h
  omega
theorem nine_dg {l : List UInt8} (h : ∀ c ∈ l, isD c = true) : ninth (l.map dg) := by
  intro d hd
  obtain ⟨c, hc, rfl⟩ := List.mem_map.1 hd
  exact isD_dg (h c hc)
theorem tw_isD : ∀ (l : List UInt8), ∀ c ∈ l.takeWhile isD, isD c = true
  | [], c, h => by simp at h
  | x :: l, c, h => by
    rw [List.takeWhile_cons] at h
    by_cases hx : isD x = true
    · rw [if_pos hx] at h
      rcases List.mem_cons.1 h with rfl | h
      · exact hx
      · exact tw_isD l c h
    · rw [if_neg hx] at h; cases h
end Go.Proofs.Ytenpiaafkmfjfaa.B

end
section
namespace Go.Proofs.Ytenpiaafkmfjfaa.B
open Go.RowKit Go.Proofs.YtenpiaafkmfjfaaW.PrintWords Go.Proofs.YtenpiaafkmfjfaaW.PrintLast Go.Proofs.YtenpiaafkmfjfaaW.PrintMore
attribute [local go_sem] max2_int min2_int max_two min_two max_three min_three max_four min_four
set_option linter.unusedVariables false
set_option linter.unusedSimpArgs false
mutual
def fixed_Parse.j0 : Nat → ByteArray → ByteArray → Bool → ByteArray → Bool → Option (Int × Bool × Int)
  | 0, _, _, _, _, _ => none
  | k + 1, x0, x4, x5, x6, x35 => if x35 = true then (some (0, false, 4)) else (fixed_Parse.l0 k x0 x4 x5 x6 0 (x6.size : Int) 0)
def fixed_Parse.l0 : Nat → ByteArray → ByteArray → Bool → ByteArray → Int → Int → Int → Option (Int × Bool × Int)
  | 0, _, _, _, _, _, _, _ => none
  | k + 1, x0, x4, x5, x6, x7, x38, x39 => if x39 < x38 then (if 0 ≤ x39 then (if x39 < (x6.size : Int) then (fixed_Parse.l0 k x0 x4 x5 x6 (IntKind.u64.wrap ((IntKind.u64.wrap (10 * x7)) + (((bt x6 x39) - 48) % 256))) x38 (wrap64 (x39 + 1))) else (none)) else (none)) else (if x7 ≥ 2147483648 then (some (0, false, 4)) else ((strings_CutPrefix.f x4 (⟨#[46]⟩ : ByteArray)).bind fun bt430 => (if bt430.2 = true then ((fixed_figures.f k bt430.1).bind fun bt432 => ((fixed_bits32.f bt432.1).bind fun t434 => (fixed_Parse.j2 k x0 bt432.2 x5 (Go.bits .or .i64 (wrap64 (IntKind.u64.wrap (x7 * 4294967296))) (wrap64 (t434))) false))) else (fixed_Parse.j2 k x0 x4 x5 (wrap64 (IntKind.u64.wrap (x7 * 4294967296))) false))))
def fixed_Parse.j2 : Nat → ByteArray → ByteArray → Bool → Int → Bool → Option (Int × Bool × Int)
  | 0, _, _, _, _, _ => none
  | k + 1, x0, x4, x5, x430000, x430001 => if x5 = true then ((fixed_Text.f (wrap64 (-x430000)) (x4.toList != ([] : List UInt8))).bind fun t435 => (if t435.toList = x0.toList then (some (wrap64 (-x430000), (x4.toList != ([] : List UInt8)), 0)) else (some (0, false, 4)))) else ((fixed_Text.f x430000 (x4.toList != ([] : List UInt8))).bind fun t436 => (if t436.toList = x0.toList then (some (x430000, (x4.toList != ([] : List UInt8)), 0)) else (some (0, false, 4))))
end
def fixed_Parse.f (k : Nat) (a0 : ByteArray) : Option (Int × Bool × Int) := (strings_CutPrefix.f a0 (⟨#[45]⟩ : ByteArray)).bind fun bt425 => ((fixed_figures.f k bt425.1).bind fun bt427 => (if (bt427.1.size : Int) < 1 then (fixed_Parse.j0 k a0 bt427.2 bt425.2 bt427.1 true) else (if (bt427.1.size : Int) > 10 then (fixed_Parse.j0 k a0 bt427.2 bt425.2 bt427.1 true) else (fixed_Parse.j0 k a0 bt427.2 bt425.2 bt427.1 (decide ((a0.size : Int) > 50))))))
def fixed_Parse.T18 : Bool × List (List Nat × List Nat) := (true, [([], []), ([0], [0]), ([], []), ([2], [2]), ([3], [3]), ([1, 4], [1, 4]), ([0, 1, 2, 3, 4, 5], []), ([6, 5, 3, 0, 1, 2, 3, 4, 5], [5, 6])])
def fixed_Parse.B18 : List Nat := [0, 1, 0, 4, 12, 31, 63, 127]
theorem fixed_Parse.tab18 : rtab .any (opsOf Try.f51 18) = fixed_Parse.T18 := by kernel_rfl
theorem fixed_Parse.bits18 : waitsOk fixed_Parse.T18.2 fixed_Parse.B18 = true := by kernel_rfl
set_option maxHeartbeats 8000000 in
set_option maxRecDepth 100000 in
theorem fixed_Parse.calls (k : Nat) (a0 : ByteArray) (r1 : Int) (r2 : Bool) (r3 : Int) (w : World) (h : fixed_Parse.f k a0 = some (r1, r2, r3)) :
    Calls Try.prog 51 #[.string a0] w fun e w' => e = .returned (.tuple #[.agg #[.int .i64 r1, .bool r2], .int .i64 r3]) ∧ Below w.heap.size w w' := by
  have hu23 := Try.underlying23
  have HB := Aside0.mk (Below.refl w.heap.size w)
  have H : ((strings_CutPrefix.f a0 (⟨#[45]⟩ : ByteArray)).bind fun bt425 => ((fixed_figures.f k bt425.1).bind fun bt427 => (if (bt427.1.size : Int) < 1 then (fixed_Parse.j0 k a0 bt427.2 bt425.2 bt427.1 true) else (if (bt427.1.size : Int) > 10 then (fixed_Parse.j0 k a0 bt427.2 bt425.2 bt427.1 true) else (fixed_Parse.j0 k a0 bt427.2 bt425.2 bt427.1 (decide ((a0.size : Int) > 50))))))) = some (r1, r2, r3) := h
  clear h
  replace H := Option.bind_eq_some_iff.mp H
  obtain ⟨⟨t425, t426⟩, A20, H⟩ := H
  replace H : ((fixed_figures.f k t425).bind fun bt427 => (if (bt427.1.size : Int) < 1 then (fixed_Parse.j0 k a0 bt427.2 t426 bt427.1 true) else (if (bt427.1.size : Int) > 10 then (fixed_Parse.j0 k a0 bt427.2 t426 bt427.1 true) else (fixed_Parse.j0 k a0 bt427.2 t426 bt427.1 (decide ((a0.size : Int) > 50)))))) = some (r1, r2, r3) := H
  have A2 := Aside0.mk A20
  clear A20
  replace H := Option.bind_eq_some_iff.mp H
  obtain ⟨⟨t427, t428⟩, A30, H⟩ := H
  replace H : (if (t427.size : Int) < 1 then (fixed_Parse.j0 k a0 t428 t426 t427 true) else (if (t427.size : Int) > 10 then (fixed_Parse.j0 k a0 t428 t426 t427 true) else (fixed_Parse.j0 k a0 t428 t426 t427 (decide ((a0.size : Int) > 50))))) = some (r1, r2, r3) := H
  have A3 := Aside0.mk A30
  clear A30
  have HC4 := Aside0.mk H
  clear H
  go_enter Try.func51, Try.ntmps51
  go_upto_region 3 with (first | ((with_reducible refine gate_dst (N := 2) rfl ?_); (try (refine gate_guard (by rfl) ?_; dsimp only)); refine box_event ?hg (N := 2) ?hd (cs := #[.int .i64 0, .bool false]) (t := 23) ?hr ?_; (case hd => rfl); (case hg => rfl); (case hr => first | (go_simp; done) | (go_simp; rfl)); intro gb424 hg w5 hbox hb; have n0_ := Aside0.mk (below_step (by repeat (first | (with_reducible first | exact HB.out | apply below_alloc | apply pw_below_drewN | apply below_drew1) | exact HB.out)) hb); have n1_ := Aside0.mk (hbox); have n2_ := Aside0.mk ((by rw [hg]; exact (below_size (by repeat (first | (with_reducible first | exact HB.out | apply below_alloc | apply pw_below_drewN | apply below_drew1) | exact HB.out))) : w.heap.size ≤ gb424)); have n3_ := Aside0.mk ((by rw [hg]; exact (below_size (by repeat (first | (with_reducible first | exact HB.out | apply below_alloc | apply pw_below_drewN | apply below_drew1) | exact HB.out))) : w.heap.size ≤ gb424)); clear HB; have HB := n0_; have BK424 := n1_; have GW424 := n2_; have GE424 := n3_; clear n0_ n1_ n2_ n3_; clear hb hbox hg) | ((with_reducible refine gate_callee (f := 92) rfl ?_); refine goesL_ (some 15) rfl rfl Try.func92 (by kernel_rfl) rfl #[.string a0, .string (⟨#[45]⟩ : ByteArray)] rfl (by (try simp only [List.map_toArray, List.map_cons, List.map_nil]); first | done | rfl | (simp only [List.length_drop, List.length_take]; rfl)) ?_; (with_reducible refine (strings_CutPrefix.calls a0 (⟨#[45]⟩ : ByteArray) t425 t426 _ A2.out).mono ?_); rintro e w' ⟨rfl, ⟨nd, rfl⟩⟩; refine ⟨_, rfl, ?_⟩) | ((with_reducible refine gate_callee (f := 93) rfl ?_); refine goesL_ (some 20) rfl rfl Try.func93 (by kernel_rfl) rfl #[.string t425] rfl (by (try simp only [List.map_toArray, List.map_cons, List.map_nil]); first | done | rfl | (simp only [List.length_drop, List.length_take]; rfl)) ?_; (with_reducible refine (fixed_figures.calls k t425 t427 t428 _ A3.out).mono ?_); rintro e w' ⟨rfl, ⟨nd, rfl⟩⟩; refine ⟨_, rfl, ?_⟩))
  (try simp only [Act.put, List.setIfInBounds_toArray, List.set_cons_zero, List.set_cons_succ])
  go_cut [35] (fun v35 wc => ∃ (kq : Nat) (x35_3 : Bool), v35 = .bool x35_3 ∧ Aside0 (fixed_Parse.j0 kq a0 t428 t426 t427 x35_3 = some (r1, r2, r3)) ∧ Aside0 (kq ≤ k) ∧ Aside0 (wc.heap[gb424]? = some (.cells #[.int .i64 0, .bool false] 23 (0, 0))) ∧ Aside0 (Below w.heap.size w wc))
  case first =>
    have H := HC4.out
    clear HC4
    by_cases c6 : (t427.size : Int) < 1
    · rw [if_pos c6] at H
      have c6b0 : decide ((t427.size : Int) < 1) = true := decide_eq_true c6
      have c6b1 : decide (t427.size < 1) = true := decide_eq_true (by omega)
      clear c6
      (first | rw [c6b0] | (simp only [i64_w, i32_w]; rw [c6b0]) | skip)
      have H' := Aside0.mk H
      clear H
      go_wp2
      go_meet
      case rel => exact ⟨_, (true), (by first | rfl | (simp; done) | (simp [*]; done)), H', ⟨by first | omega | exact Nat.le_refl _⟩, ⟨by (with_reducible repeat (first | refine blk_drewN ?_ _ | refine blk_drew ?_ | refine blk_alloc ?_ _)); exact BK424.out⟩, ⟨by repeat (first | (with_reducible first | exact HB.out | apply below_alloc | apply pw_below_drewN | apply below_drew1 | refine below_set ?_ GE424.out) | exact HB.out)⟩⟩
    · rw [if_neg c6] at H
      have c6b0 : decide ((t427.size : Int) < 1) = false := decide_eq_false c6
      have c6b1 : decide (t427.size < 1) = false := decide_eq_false (by omega)
      clear c6
      (first | rw [c6b0] | (simp only [i64_w, i32_w]; rw [c6b0]) | skip)
      by_cases c7 : (t427.size : Int) > 10
      · rw [if_pos c7] at H
        have c7b0 : decide (10 < (t427.size : Int)) = true := decide_eq_true c7
        have c7b1 : decide (10 < t427.size) = true := decide_eq_true (by omega)
        clear c7
        have H' := Aside0.mk H
        clear H
        go_wp2
        go_meet
        case rel => exact ⟨_, (true), (by first | rfl | (simp; done) | (simp [*]; done)), H', ⟨by first | omega | exact Nat.le_refl _⟩, ⟨by (with_reducible repeat (first | refine blk_drewN ?_ _ | refine blk_drew ?_ | refine blk_alloc ?_ _)); exact BK424.out⟩, ⟨by repeat (first | (with_reducible first | exact HB.out | apply below_alloc | apply pw_below_drewN | apply below_drew1 | refine below_set ?_ GE424.out) | exact HB.out)⟩⟩
      · rw [if_neg c7] at H
        have c7b0 : decide (10 < (t427.size : Int)) = false := decide_eq_false c7
        have c7b1 : decide (10 < t427.size) = false := decide_eq_false (by omega)
        clear c7
        have H' := Aside0.mk H
        clear H
        go_wp2
        go_meet
        case rel => exact ⟨_, (decide ((a0.size : Int) > 50)), (by first | rfl | (simp; done) | (simp [*]; done)), H', ⟨by first | omega | exact Nat.le_refl _⟩, ⟨by (with_reducible repeat (first | refine blk_drewN ?_ _ | refine blk_drew ?_ | refine blk_alloc ?_ _)); exact BK424.out⟩, ⟨by repeat (first | (with_reducible first | exact HB.out | apply below_alloc | apply pw_below_drewN | apply below_drew1 | refine below_set ?_ GE424.out) | exact HB.out)⟩⟩
  case rest =>
    clear HC4
    try clear p2
    try clear c5
    try clear c6
    try clear c6b0
    try clear c6b1
    try clear c7
    try clear c7b0
    try clear c7b1
    obtain ⟨kq, x35_3, rfl, HA, HJ3, BK424, HB⟩ := hcut
    cases kq with
    | zero => exact absurd HA.out (by simp [fixed_Parse.j0])
    | succ kj3 =>
      have H := HA.out
      clear HA
      simp only [fixed_Parse.j0] at H
      by_cases c8 : x35_3 = true
      · subst c8
        have H1 : (some (0, false, 4)) = some (r1, r2, r3) := by rw [if_pos rfl] at H; exact H
        clear H
        have H := H1
        clear H1
        simp only [Option.some.injEq, Prod.mk.injEq] at H
        obtain ⟨rfl, rfl, rfl⟩ := H
        have hcz9_0 : wc.cell? ⟨gb424, 0, none⟩ = some (.int .i64 0) := (blk_cell BK424.out 0).trans rfl
        have hcz9_1 : wc.cell? ⟨gb424, 1, none⟩ = some (.bool false) := (blk_cell BK424.out 1).trans rfl
        have hfz9_0 := blk_frozen BK424.out 0
        have hfz9_1 := blk_frozen BK424.out 1
        go_wp2
        refine bodyPost_ret (results_ct rfl _ _ gb424 23 #[.int .i64 0, .bool false] (0, 0) _ rfl (by (with_reducible repeat (first | refine blk_drewN ?_ _ | refine blk_drew ?_ | refine blk_alloc ?_ _)); refine blk_put (cs := #[.int .i64 0, .bool false]) ?_ 1 _ rfl; (with_reducible repeat (first | refine blk_drewN ?_ _ | refine blk_drew ?_ | refine blk_alloc ?_ _)); refine blk_put (cs := #[.int .i64 0, .bool false]) ?_ 0 _ rfl; (with_reducible repeat (first | refine blk_drewN ?_ _ | refine blk_drew ?_ | refine blk_alloc ?_ _)); exact BK424.out) Try.underlying23 rfl (by kernel_rfl)) rfl ?_
        exact ⟨by first | rfl | (simp [errW_none, errW_some] <;> rfl) | (simp [*, errW_none, errW_some] <;> rfl), by repeat (first | (with_reducible first | exact HB.out | apply below_alloc | apply pw_below_drewN | apply below_drew1 | refine below_set ?_ GE424.out) | exact HB.out)⟩
      · replace c8 := Bool.eq_false_iff.mpr c8
        subst c8
        have H1 : (fixed_Parse.l0 kj3 a0 t428 t426 t427 0 (t427.size : Int) 0) = some (r1, r2, r3) := by rw [if_neg (show ¬ (false = true) by decide)] at H; exact H
        clear H
        have H := H1
        clear H1
        have H' := Aside0.mk H
        clear H
        go_wp2
        go_loopg [7, 39] kj3 (fun kq v7 v39 w' => ∃ (x7_2 : Int) (x39_2 : Int), v7 = .int .u64 x7_2 ∧ v39 = .int .i64 x39_2 ∧ Aside0 (fixed_Parse.l0 kq a0 t428 t426 t427 x7_2 (t427.size : Int) x39_2 = some (r1, r2, r3)) ∧ Aside0 (kq ≤ kj3) ∧ Aside0 (w'.heap[gb424]? = some (.cells #[.int .i64 0, .bool false] 23 (0, 0))) ∧ Aside0 (Below w.heap.size w w'))
        case atStart => exact ⟨(0), (0), (by first | rfl | (simp; done) | (simp [*]; done)), (by first | rfl | (simp; done) | (simp [*]; done)), H', ⟨Nat.le_refl _⟩, ⟨by (with_reducible repeat (first | refine blk_drewN ?_ _ | refine blk_drew ?_ | refine blk_alloc ?_ _)); exact BK424.out⟩, ⟨by repeat (first | (with_reducible first | exact HB.out | apply below_alloc | apply pw_below_drewN | apply below_drew1 | refine below_set ?_ GE424.out) | exact HB.out)⟩⟩
        case round =>
          clear H'
          try clear p2
          try clear c5
          try clear c6
          try clear c6b0
          try clear c6b1
          try clear c7
          try clear c7b0
          try clear c7b1
          try clear c8
          try clear c9
          try clear hcz9_0
          try clear hcz9_1
          try clear hfz9_0
          try clear hfz9_1
          try clear p2
          obtain ⟨x7_2, x39_2, rfl, rfl, HA, HK2, BK424, HB⟩ := hrel
          cases gk with
          | zero => exact absurd HA.out (by simp [fixed_Parse.l0])
          | succ k2 =>
            have H := HA.out
            clear HA
            simp only [fixed_Parse.l0] at H
            by_cases c10 : x39_2 < (t427.size : Int)
            · rw [if_pos c10] at H
              have c10b0 : decide (x39_2 < (t427.size : Int)) = true := decide_eq_true c10
              clear c10
              by_cases c11 : 0 ≤ x39_2
              · rw [if_pos c11] at H
                have c11b0 : decide (0 ≤ x39_2) = true := decide_eq_true c11
                clear c11
                by_cases c12 : x39_2 < (t427.size : Int)
                · rw [if_pos c12] at H
                  have c12b0 : decide (x39_2 < (t427.size : Int)) = true := decide_eq_true c12
                  clear c12
                  have H' := Aside0.mk H
                  clear H
                  have p13 : 0 ≤ (x39_2 : Int) := of_decide_eq_true (by first | (with_reducible assumption) | assumption)
                  have q13 : x39_2 < (t427.size : Int) := of_decide_eq_true (by first | (with_reducible assumption) | assumption)
                  have hx13 := bt_at t427 x39_2
                  replace p13 := eq_true p13
                  replace q13 := eq_true q13
                  go_wp2
                  go_roundg k2
                  case measure => have := HJ3.out; have := HK2.out; omega
                  case rel => exact ⟨(IntKind.u64.wrap ((IntKind.u64.wrap (10 * x7_2)) + (((bt t427 x39_2) - 48) % 256))), (wrap64 (x39_2 + 1)), (by first | rfl | (simp; done) | (simp [*]; done)), (by first | rfl | (simp; done) | (simp [*]; done)), H', ⟨by have := HJ3.out; have := HK2.out; omega⟩, ⟨by (with_reducible repeat (first | refine blk_drewN ?_ _ | refine blk_drew ?_ | refine blk_alloc ?_ _)); exact BK424.out⟩, ⟨by repeat (first | (with_reducible first | exact HB.out | apply below_alloc | apply pw_below_drewN | apply below_drew1 | refine below_set ?_ GE424.out) | exact HB.out)⟩⟩
                · rw [if_neg c12] at H
                  exact absurd H (by simp)
              · rw [if_neg c11] at H
                exact absurd H (by simp)
            · rw [if_neg c10] at H
              have c10b0 : decide (x39_2 < (t427.size : Int)) = false := decide_eq_false c10
              clear c10
              by_cases c14 : x7_2 ≥ 2147483648
              · rw [if_pos c14] at H
                have c14b0 : decide (2147483648 ≤ x7_2) = true := decide_eq_true c14
                clear c14
                simp only [Option.some.injEq, Prod.mk.injEq] at H
                obtain ⟨rfl, rfl, rfl⟩ := H
                have hcz15_0 : wr.cell? ⟨gb424, 0, none⟩ = some (.int .i64 0) := (blk_cell BK424.out 0).trans rfl
                have hcz15_1 : wr.cell? ⟨gb424, 1, none⟩ = some (.bool false) := (blk_cell BK424.out 1).trans rfl
                have hfz15_0 := blk_frozen BK424.out 0
                have hfz15_1 := blk_frozen BK424.out 1
                go_wp2
                refine bodyPost_ret (results_ct rfl _ _ gb424 23 #[.int .i64 0, .bool false] (0, 0) _ rfl (by (with_reducible repeat (first | refine blk_drewN ?_ _ | refine blk_drew ?_ | refine blk_alloc ?_ _)); refine blk_put (cs := #[.int .i64 0, .bool false]) ?_ 1 _ rfl; (with_reducible repeat (first | refine blk_drewN ?_ _ | refine blk_drew ?_ | refine blk_alloc ?_ _)); refine blk_put (cs := #[.int .i64 0, .bool false]) ?_ 0 _ rfl; (with_reducible repeat (first | refine blk_drewN ?_ _ | refine blk_drew ?_ | refine blk_alloc ?_ _)); exact BK424.out) Try.underlying23 rfl (by kernel_rfl)) rfl ?_
                exact ⟨by first | rfl | (simp [errW_none, errW_some] <;> rfl) | (simp [*, errW_none, errW_some] <;> rfl), by repeat (first | (with_reducible first | exact HB.out | apply below_alloc | apply pw_below_drewN | apply below_drew1 | refine below_set ?_ GE424.out) | exact HB.out)⟩
              · rw [if_neg c14] at H
                have c14b0 : decide (2147483648 ≤ x7_2) = false := decide_eq_false c14
                clear c14
                replace H := Option.bind_eq_some_iff.mp H
                obtain ⟨⟨t430, t431⟩, A160, H⟩ := H
                replace H : (if t431 = true then ((fixed_figures.f k2 t430).bind fun bt432 => ((fixed_bits32.f bt432.1).bind fun t434 => (fixed_Parse.j2 k2 a0 bt432.2 t426 (Go.bits .or .i64 (wrap64 (IntKind.u64.wrap (x7_2 * 4294967296))) (wrap64 (t434))) false))) else (fixed_Parse.j2 k2 a0 t428 t426 (wrap64 (IntKind.u64.wrap (x7_2 * 4294967296))) false)) = some (r1, r2, r3) := H
                have A16 := Aside0.mk A160
                clear A160
                have HC17 := Aside0.mk H
                clear H
                go_upto_if 63 with (first | ((with_reducible refine gate_dst (N := 9) rfl ?_); (try (refine gate_guard (by rfl) ?_; dsimp only)); refine box_event ?hg (N := 9) ?hd (cs := #[.int .i64 0, .bool false]) (t := 23) ?hr ?_; (case hd => rfl); (case hg => rfl); (case hr => first | (go_simp; done) | (go_simp; rfl)); intro gb429 hg w18 hbox hb; have n0_ := Aside0.mk (blk_below (g := gb424) (o := .cells #[.int .i64 0, .bool false] 23 (0, 0)) (by (with_reducible repeat (first | refine blk_drewN ?_ _ | refine blk_drew ?_ | refine blk_alloc ?_ _)); exact BK424.out) hb); have n1_ := Aside0.mk (below_step (by repeat (first | (with_reducible first | exact HB.out | apply below_alloc | apply pw_below_drewN | apply below_drew1 | refine below_set ?_ GE424.out) | exact HB.out)) hb); have n2_ := Aside0.mk (hbox); have n3_ := Aside0.mk ((by rw [hg]; exact (below_size (by repeat (first | (with_reducible first | exact HB.out | apply below_alloc | apply pw_below_drewN | apply below_drew1 | refine below_set ?_ GE424.out) | exact HB.out))) : w.heap.size ≤ gb429)); have n4_ := Aside0.mk ((by rw [hg]; exact (below_size (by repeat (first | (with_reducible first | exact HB.out | apply below_alloc | apply pw_below_drewN | apply below_drew1 | refine below_set ?_ GE424.out) | exact HB.out))) : w.heap.size ≤ gb429)); have n5_ := Aside0.mk ((by rw [hg]; exact Nat.ne_of_lt (blk_lt (g := gb424) (o := .cells #[.int .i64 0, .bool false] 23 (0, 0)) (by (with_reducible repeat (first | refine blk_drewN ?_ _ | refine blk_drew ?_ | refine blk_alloc ?_ _)); exact BK424.out)) : gb424 ≠ gb429)); have n6_ := Aside0.mk ((by rw [hg]; exact Nat.ne_of_gt (blk_lt (g := gb424) (o := .cells #[.int .i64 0, .bool false] 23 (0, 0)) (by (with_reducible repeat (first | refine blk_drewN ?_ _ | refine blk_drew ?_ | refine blk_alloc ?_ _)); exact BK424.out)) : gb429 ≠ gb424)); clear BK424; clear HB; have BK424 := n0_; have HB := n1_; have BK429 := n2_; have GW429 := n3_; have GE429 := n4_; have NB424_429 := n5_; have NB429_424 := n6_; clear n0_ n1_ n2_ n3_ n4_ n5_ n6_; clear hb hbox hg; have hnb19 := NB429_424.out; have hnc19 := NB424_429.out; have hcz20_0 : w18.cell? ⟨gb429, 0, none⟩ = some (.int .i64 0) := (blk_cell BK429.out 0).trans rfl; have hcz20_1 : w18.cell? ⟨gb429, 1, none⟩ = some (.bool false) := (blk_cell BK429.out 1).trans rfl; have hfz20_0 := blk_frozen BK429.out 0; have hfz20_1 := blk_frozen BK429.out 1) | ((with_reducible refine gate_callee (f := 92) rfl ?_); refine goesL_ (some 60) rfl rfl Try.func92 (by kernel_rfl) rfl #[.string t428, .string (⟨#[46]⟩ : ByteArray)] rfl (by (try simp only [List.map_toArray, List.map_cons, List.map_nil]); first | done | rfl | (simp only [List.length_drop, List.length_take]; rfl)) ?_; (with_reducible refine (strings_CutPrefix.calls t428 (⟨#[46]⟩ : ByteArray) t430 t431 _ A16.out).mono ?_); rintro e w' ⟨rfl, ⟨nd, rfl⟩⟩; refine ⟨_, rfl, ?_⟩))
                (try simp only [Act.put, List.setIfInBounds_toArray, List.set_cons_zero, List.set_cons_succ])
                go_cut [4] (fun v4 wc => ∃ (kq : Nat) (x4_16 : ByteArray) (x430000_16 : Int), v4 = .string x4_16 ∧ Aside0 (fixed_Parse.j2 kq a0 x4_16 t426 x430000_16 false = some (r1, r2, r3)) ∧ Aside0 (kq ≤ k2) ∧ Aside0 (wc.heap[gb424]? = some (.cells #[.int .i64 0, .bool false] 23 (0, 0))) ∧ Aside0 (wc.heap[gb429]? = some (.cells #[.int .i64 x430000_16, .bool false] 23 (0, 0))) ∧ Aside0 (Below w.heap.size w wc))
                case first =>
                  have H := HC17.out
                  clear HC17
                  by_cases c21 : t431 = true
                  · subst c21
                    have H1 : ((fixed_figures.f k2 t430).bind fun bt432 => ((fixed_bits32.f bt432.1).bind fun t434 => (fixed_Parse.j2 k2 a0 bt432.2 t426 (Go.bits .or .i64 (wrap64 (IntKind.u64.wrap (x7_2 * 4294967296))) (wrap64 (t434))) false))) = some (r1, r2, r3) := by rw [if_pos rfl] at H; exact H
                    clear H
                    have H := H1
                    clear H1
                    replace H := Option.bind_eq_some_iff.mp H
                    obtain ⟨⟨t432, t433⟩, A220, H⟩ := H
                    replace H : ((fixed_bits32.f t432).bind fun t434 => (fixed_Parse.j2 k2 a0 t433 t426 (Go.bits .or .i64 (wrap64 (IntKind.u64.wrap (x7_2 * 4294967296))) (wrap64 (t434))) false)) = some (r1, r2, r3) := H
                    have A22 := Aside0.mk A220
                    clear A220
                    replace H := Option.bind_eq_some_iff.mp H
                    obtain ⟨t434, A230, H⟩ := H
                    replace H : (fixed_Parse.j2 k2 a0 t433 t426 (Go.bits .or .i64 (wrap64 (IntKind.u64.wrap (x7_2 * 4294967296))) (wrap64 (t434))) false) = some (r1, r2, r3) := H
                    have A23 := Aside0.mk A230
                    clear A230
                    have H' := Aside0.mk H
                    clear H
                    try go_wp2_with (first | ((with_reducible refine gate_callee (f := 93) rfl ?_); refine goesL_ (some 66) rfl rfl Try.func93 (by kernel_rfl) rfl #[.string t430] rfl (by (try simp only [List.map_toArray, List.map_cons, List.map_nil]); first | done | rfl | (simp only [List.length_drop, List.length_take]; rfl)) ?_; (with_reducible refine (fixed_figures.calls k2 t430 t432 t433 _ A22.out).mono ?_); rintro e w' ⟨rfl, ⟨nd, rfl⟩⟩; refine ⟨_, rfl, ?_⟩))
                    have n0_ : Aside0 (((w18.setCell ⟨gb429, 0, none⟩ (.int .i64 (wrap64 (IntKind.u64.wrap (x7_2 * 4294967296))))).setCell ⟨gb429, 1, none⟩ (.bool false)).heap[gb424]? = some (.cells #[.int .i64 0, .bool false] 23 (0, 0))) := ⟨by (with_reducible repeat (first | refine blk_drewN ?_ _ | refine blk_drew ?_ | refine blk_alloc ?_ _)); refine blk_far ?_ NB424_429.out _; (with_reducible repeat (first | refine blk_drewN ?_ _ | refine blk_drew ?_ | refine blk_alloc ?_ _)); refine blk_far ?_ NB424_429.out _; (with_reducible repeat (first | refine blk_drewN ?_ _ | refine blk_drew ?_ | refine blk_alloc ?_ _)); exact BK424.out⟩
                    have n1_ : Aside0 (((w18.setCell ⟨gb429, 0, none⟩ (.int .i64 (wrap64 (IntKind.u64.wrap (x7_2 * 4294967296))))).setCell ⟨gb429, 1, none⟩ (.bool false)).heap[gb429]? = some (.cells #[.int .i64 (wrap64 (IntKind.u64.wrap (x7_2 * 4294967296))), .bool false] 23 (0, 0))) := ⟨by (with_reducible repeat (first | refine blk_drewN ?_ _ | refine blk_drew ?_ | refine blk_alloc ?_ _)); refine blk_put (cs := #[.int .i64 (wrap64 (IntKind.u64.wrap (x7_2 * 4294967296))), .bool false]) ?_ 1 _ rfl; (with_reducible repeat (first | refine blk_drewN ?_ _ | refine blk_drew ?_ | refine blk_alloc ?_ _)); refine blk_put (cs := #[.int .i64 0, .bool false]) ?_ 0 _ rfl; (with_reducible repeat (first | refine blk_drewN ?_ _ | refine blk_drew ?_ | refine blk_alloc ?_ _)); exact BK429.out⟩
                    have n2_ : Aside0 (Below w.heap.size w ((w18.setCell ⟨gb429, 0, none⟩ (.int .i64 (wrap64 (IntKind.u64.wrap (x7_2 * 4294967296))))).setCell ⟨gb429, 1, none⟩ (.bool false))) := ⟨by repeat (first | (with_reducible first | exact HB.out | apply below_alloc | apply pw_below_drewN | apply below_drew1 | refine below_set ?_ GE424.out | refine below_set ?_ GE429.out) | exact HB.out)⟩
                    (try clear BK424)
                    (try clear BK429)
                    (try clear HB)
                    generalize ((w18.setCell ⟨gb429, 0, none⟩ (.int .i64 (wrap64 (IntKind.u64.wrap (x7_2 * 4294967296))))).setCell ⟨gb429, 1, none⟩ (.bool false)) = w24 at n0_ n1_ n2_ ⊢
                    have BK424 := n0_
                    have BK429 := n1_
                    have HB := n2_
                    clear n0_ n1_ n2_
                    (try (rw [drewN_self w24]; generalize hq_ : World.drewN w24 _ = w24; have n0_ : Aside0 (w24.heap[gb424]? = some (.cells #[.int .i64 0, .bool false] 23 (0, 0))) := ⟨by rw [← hq_]; exact (by (with_reducible repeat (first | refine blk_drewN ?_ _ | refine blk_drew ?_ | refine blk_alloc ?_ _)); exact BK424.out)⟩; have n1_ : Aside0 (w24.heap[gb429]? = some (.cells #[.int .i64 (wrap64 (IntKind.u64.wrap (x7_2 * 4294967296))), .bool false] 23 (0, 0))) := ⟨by rw [← hq_]; exact (by (with_reducible repeat (first | refine blk_drewN ?_ _ | refine blk_drew ?_ | refine blk_alloc ?_ _)); exact BK429.out)⟩; have n2_ : Aside0 (Below w.heap.size w w24) := ⟨by rw [← hq_]; exact (by repeat (first | (with_reducible first | exact HB.out | apply below_alloc | apply pw_below_drewN | apply below_drew1 | refine below_set ?_ GE424.out | refine below_set ?_ GE429.out) | exact HB.out))⟩; clear BK424 BK429 HB hq_; have BK424 := n0_; have BK429 := n1_; have HB := n2_; clear n0_ n1_ n2_))
                    have n0_ := Aside0.mk (blk_drew BK424.out)
                    have n1_ := Aside0.mk (blk_drew BK429.out)
                    have n2_ := Aside0.mk (below_drew1 HB.out)
                    clear BK424
                    clear BK429
                    clear HB
                    have BK424 := n0_
                    have BK429 := n1_
                    have HB := n2_
                    clear n0_ n1_ n2_
                    refine start_ (n := 8) (S := fun w' => w'.cell? ⟨gb429, 0, none⟩ = some (.int .i64 (wrap64 (IntKind.u64.wrap (x7_2 * 4294967296)))) ∧ w'.cell? ⟨gb429, 1, none⟩ = some (.bool false)) (ds := [7]) #[false, false, false, false, false, false, false, false] (by kernel_rfl) rfl rfl ⟨(blk_cell BK429.out 0).trans rfl, (blk_cell BK429.out 1).trans rfl⟩ (fun hHeld => ?_); refine with_tabW fixed_Parse.tab18 fixed_Parse.bits18 (fun HT_ HW_ => ?_)
                    generalize w24.drew = w25 at BK424 BK429 HB hHeld ⊢
                    refine pure_ (i := 0) (N := some 69) (v := ?_) (a' := ?_) #[true, false, false, false, false, false, false, false] rfl rfl (any_of HT_.out (by kernel_rfl)) (fun _ _ _ h => h) (Or.inl ⟨by rfl, ?_⟩) ?_ ?_
                    rotate_left
                    · intro w'
                      go_simp
                      with_reducible rfl
                    rotate_left
                    · simp only [Act.put, List.setIfInBounds_toArray, List.set_cons_zero, List.set_cons_succ, i64_w, i32_w]
                      rfl
                    refine pure_ (i := 2) (N := some 71) (v := ?_) (a' := ?_) #[true, false, true, false, false, false, false, false] rfl rfl (any_of HT_.out (by kernel_rfl)) (fun _ _ _ h => h) (Or.inl ⟨by rfl, ?_⟩) ?_ ?_
                    rotate_left
                    · intro w'
                      go_simp
                      with_reducible rfl
                    rotate_left
                    · simp only [Act.put, List.setIfInBounds_toArray, List.set_cons_zero, List.set_cons_succ, i64_w, i32_w]
                      rfl
                    refine take_ (i := 1) (N := some 70) (v := ?_) (a' := ?_) #[true, true, true, false, false, false, false, false] rfl rfl (take_ofW HT_.out HW_.out (by kernel_rfl)) (fun _ _ _ h => h) (Or.inl ⟨by rfl, ?_⟩) hHeld ?_ ?_
                    rotate_left
                    · rintro w' ⟨s0, s1⟩
                      go_simp
                      with_reducible rfl
                    rotate_left
                    · simp only [Act.put, List.setIfInBounds_toArray, List.set_cons_zero, List.set_cons_succ, i64_w, i32_w]
                      rfl
                    refine one_ (i := 3) (N := some 72) #[true, true, true, true, false, false, false, false] rfl rfl (one_of HT_.out (by kernel_rfl)) (by decide) (fun K hK => ?_)
                    refine goes_ Try.func94 (by kernel_rfl) rfl #[.string t432] (by rfl) rfl rfl (by (try simp only [List.map_toArray, List.map_cons, List.map_nil]); first | done | rfl | (simp only [List.length_drop, List.length_take]; rfl)) ?_
                    with_reducible refine (fixed_bits32.calls t432 t434 _ A23.out).mono ?_
                    rintro e w26 ⟨rfl, hb⟩
                    refine ⟨_, rfl, ?_⟩
                    have n0_ := Aside0.mk (blk_below (g := gb424) (o := .cells #[.int .i64 0, .bool false] 23 (0, 0)) (by (with_reducible repeat (first | refine blk_drewN ?_ _ | refine blk_drew ?_ | refine blk_alloc ?_ _)); exact BK424.out) hb)
                    have n1_ := Aside0.mk (blk_below (g := gb429) (o := .cells #[.int .i64 (wrap64 (IntKind.u64.wrap (x7_2 * 4294967296))), .bool false] 23 (0, 0)) (by (with_reducible repeat (first | refine blk_drewN ?_ _ | refine blk_drew ?_ | refine blk_alloc ?_ _)); exact BK429.out) hb)
                    have n2_ := Aside0.mk (below_step (by repeat (first | (with_reducible first | exact HB.out | apply below_alloc | apply pw_below_drewN | apply below_drew1 | refine below_set ?_ GE424.out | refine below_set ?_ GE429.out) | exact HB.out)) hb)
                    clear BK424
                    clear BK429
                    clear HB
                    have BK424 := n0_
                    have BK429 := n1_
                    have HB := n2_
                    clear n0_ n1_ n2_
                    (try clear hb)
                    (try clear hb2)
                    (try clear hk)
                    (try clear hi)
                    refine hK.out _ _ ⟨(blk_cell BK429.out 0).trans rfl, (blk_cell BK429.out 1).trans rfl⟩ (fun hHeld => ?_)
                    clear hK K
                    refine norm_ (a' := ?_) ?_ ?_
                    rotate_left
                    · show Act.put _ (some 72) _ = _
                      simp only [Act.put, List.setIfInBounds_toArray, List.set_cons_zero, List.set_cons_succ, i64_w, i32_w]
                      rfl
                    refine pure_ (i := 4) (N := some 73) (v := ?_) (a' := ?_) #[true, true, true, true, true, false, false, false] rfl rfl (any_of HT_.out (by kernel_rfl)) (fun _ _ _ h => h) (Or.inl ⟨by rfl, ?_⟩) ?_ ?_
                    rotate_left
                    · intro w'
                      go_simp
                      with_reducible rfl
                    rotate_left
                    · simp only [Act.put, List.setIfInBounds_toArray, List.set_cons_zero, List.set_cons_succ, i64_w, i32_w]
                      rfl
                    refine pure_ (i := 5) (N := some 74) (v := ?_) (a' := ?_) #[true, true, true, true, true, true, false, false] rfl rfl (any_of HT_.out (by kernel_rfl)) (fun _ _ _ h => h) (Or.inl ⟨by rfl, ?_⟩) ?_ ?_
                    rotate_left
                    · intro w'
                      go_simp
                      with_reducible rfl
                    rotate_left
                    · simp only [Act.put, List.setIfInBounds_toArray, List.set_cons_zero, List.set_cons_succ, i64_w, i32_w]
                      rfl
                    refine pure_ (i := 6) (N := some 75) (v := ?_) (a' := ?_) #[true, true, true, true, true, true, true, false] rfl rfl (any_of HT_.out (by kernel_rfl)) (fun _ _ _ h => h) (Or.inl ⟨by rfl, ?_⟩) ?_ ?_
                    rotate_left
                    · intro w'
                      go_simp
                      with_reducible rfl
                    rotate_left
                    · simp only [Act.put, List.setIfInBounds_toArray, List.set_cons_zero, List.set_cons_succ, i64_w, i32_w]
                      rfl
                    refine last_ (i := 7) (N := none) #[true, true, true, true, true, true, true, true] rfl rfl (one_of HT_.out (by kernel_rfl)) (by decide) (fun K hK => ?_)
                    have hs27 : w26.cell? ⟨gb429, 0, none⟩ = some (.int .i64 (wrap64 (IntKind.u64.wrap (x7_2 * 4294967296)))) := (blk_cell BK429.out 0).trans rfl
                    have hfs27 := blk_frozen BK429.out 0
                    have hns27_0 := NB424_429.out
                    have hms27_0 := NB429_424.out
                    refine skip_ (w1 := ?_) (by rfl) rfl ?_ ?_
                    rotate_left
                    · go_simp
                      rfl
                    refine hK.out _ _ ?_
                    clear hK K
                    refine done_ (done_of HT_.out (by kernel_rfl)) ?_
                    try go_wp2
                    go_meet
                    case rel => exact ⟨_, (t433), (Go.bits .or .i64 (wrap64 (IntKind.u64.wrap (x7_2 * 4294967296))) (wrap64 (t434))), (by first | rfl | (simp; done) | (simp [*]; done)), H', ⟨by have := HJ3.out; have := HK2.out; first | omega | exact Nat.le_refl _⟩, ⟨by (with_reducible repeat (first | refine blk_drewN ?_ _ | refine blk_drew ?_ | refine blk_alloc ?_ _)); refine blk_far ?_ NB424_429.out _; (with_reducible repeat (first | refine blk_drewN ?_ _ | refine blk_drew ?_ | refine blk_alloc ?_ _)); exact BK424.out⟩, ⟨by (with_reducible repeat (first | refine blk_drewN ?_ _ | refine blk_drew ?_ | refine blk_alloc ?_ _)); refine blk_put (cs := #[.int .i64 (wrap64 (IntKind.u64.wrap (x7_2 * 4294967296))), .bool false]) ?_ 0 _ rfl; (with_reducible repeat (first | refine blk_drewN ?_ _ | refine blk_drew ?_ | refine blk_alloc ?_ _)); exact BK429.out⟩, ⟨by repeat (first | (with_reducible first | exact HB.out | apply below_alloc | apply pw_below_drewN | apply below_drew1 | refine below_set ?_ GE424.out | refine below_set ?_ GE429.out) | exact HB.out)⟩⟩
                  · replace c21 := Bool.eq_false_iff.mpr c21
                    subst c21
                    have H1 : (fixed_Parse.j2 k2 a0 t428 t426 (wrap64 (IntKind.u64.wrap (x7_2 * 4294967296))) false) = some (r1, r2, r3) := by rw [if_neg (show ¬ (false = true) by decide)] at H; exact H
                    clear H
                    have H := H1
                    clear H1
                    have H' := Aside0.mk H
                    clear H
                    go_wp2
                    go_meet
                    case rel => exact ⟨_, (t428), (wrap64 (IntKind.u64.wrap (x7_2 * 4294967296))), (by first | rfl | (simp; done) | (simp [*]; done)), H', ⟨by have := HJ3.out; have := HK2.out; first | omega | exact Nat.le_refl _⟩, ⟨by (with_reducible repeat (first | refine blk_drewN ?_ _ | refine blk_drew ?_ | refine blk_alloc ?_ _)); refine blk_far ?_ NB424_429.out _; (with_reducible repeat (first | refine blk_drewN ?_ _ | refine blk_drew ?_ | refine blk_alloc ?_ _)); refine blk_far ?_ NB424_429.out _; (with_reducible repeat (first | refine blk_drewN ?_ _ | refine blk_drew ?_ | refine blk_alloc ?_ _)); exact BK424.out⟩, ⟨by (with_reducible repeat (first | refine blk_drewN ?_ _ | refine blk_drew ?_ | refine blk_alloc ?_ _)); refine blk_put (cs := #[.int .i64 (wrap64 (IntKind.u64.wrap (x7_2 * 4294967296))), .bool false]) ?_ 1 _ rfl; (with_reducible repeat (first | refine blk_drewN ?_ _ | refine blk_drew ?_ | refine blk_alloc ?_ _)); refine blk_put (cs := #[.int .i64 0, .bool false]) ?_ 0 _ rfl; (with_reducible repeat (first | refine blk_drewN ?_ _ | refine blk_drew ?_ | refine blk_alloc ?_ _)); exact BK429.out⟩, ⟨by repeat (first | (with_reducible first | exact HB.out | apply below_alloc | apply pw_below_drewN | apply below_drew1 | refine below_set ?_ GE424.out | refine below_set ?_ GE429.out) | exact HB.out)⟩⟩
                case rest =>
                  clear HC17
                  try clear c1
                  try clear p1
                  try clear q1
                  try clear hx1
                  try clear c2
                  try clear p2
                  try clear c5
                  try clear c6
                  try clear c6b0
                  try clear c6b1
                  try clear p6
                  try clear c7
                  try clear c7b0
                  try clear c7b1
                  try clear c8
                  try clear c9
                  try clear c10
                  try clear c10b0
                  try clear c11
                  try clear c11b0
                  try clear c12
                  try clear c12b0
                  try clear p13
                  try clear q13
                  try clear hx13
                  try clear c14
                  try clear c14b0
                  try clear c19
                  try clear c21
                  try clear hcz15_0
                  try clear hcz15_1
                  try clear hcz20_0
                  try clear hcz20_1
                  try clear hcz9_0
                  try clear hcz9_1
                  try clear hfz15_0
                  try clear hfz15_1
                  try clear hfz20_0
                  try clear hfz20_1
                  try clear hfz9_0
                  try clear hfz9_1
                  try clear p13
                  try clear p2
                  try clear q13
                  obtain ⟨kq, x4_16, x430000_16, rfl, HA, HJ16, BK424, BK429, HB⟩ := hcut
                  cases kq with
                  | zero => exact absurd HA.out (by simp [fixed_Parse.j2])
                  | succ kj16 =>
                    have H := HA.out
                    clear HA
                    simp only [fixed_Parse.j2] at H
                    rw [show (x4_16.toList != ([] : List UInt8)) = (!x4_16.toList.isEmpty) from by cases x4_16.toList <;> rfl] at H
                    by_cases c28 : t426 = true
                    · subst c28
                      have H1 : ((fixed_Text.f (wrap64 (-x430000_16)) (!x4_16.toList.isEmpty)).bind fun t435 => (if t435.toList = a0.toList then (some (wrap64 (-x430000_16), (!x4_16.toList.isEmpty), 0)) else (some (0, false, 4)))) = some (r1, r2, r3) := by rw [if_pos rfl] at H; exact H
                      clear H
                      have H := H1
                      clear H1
                      replace H := Option.bind_eq_some_iff.mp H
                      obtain ⟨t435, A290, H⟩ := H
                      replace H : (if t435.toList = a0.toList then (some (wrap64 (-x430000_16), (!x4_16.toList.isEmpty), 0)) else (some (0, false, 4))) = some (r1, r2, r3) := H
                      have A29 := Aside0.mk A290
                      clear A290
                      by_cases c30 : t435.toList = a0.toList
                      · rw [if_pos c30] at H
                        have c30b0 : (t435.toList == a0.toList) = true := beq_iff_eq.mpr c30
                        have c30b1 : (t435.toList != a0.toList) = false := bne_eq_false_iff_eq.mpr c30
                        clear c30
                        simp only [Option.some.injEq, Prod.mk.injEq] at H
                        obtain ⟨rfl, rfl, rfl⟩ := H
                        have hnb31 := NB429_424.out
                        have hnc31 := NB424_429.out
                        have hcz32_0 : wc.cell? ⟨gb429, 0, none⟩ = some (.int .i64 x430000_16) := (blk_cell BK429.out 0).trans rfl
                        have hcz32_1 : wc.cell? ⟨gb429, 1, none⟩ = some (.bool false) := (blk_cell BK429.out 1).trans rfl
                        have hfz32_0 := blk_frozen BK429.out 0
                        have hfz32_1 := blk_frozen BK429.out 1
                        go_wp2_with (first | ((with_reducible refine gate_callee (f := 67) rfl ?_); refine goesL_ (some 85) rfl rfl Try.func67 (by kernel_rfl) rfl #[.agg #[.int .i64 (wrap64 (-x430000_16)), .bool (!x4_16.toList.isEmpty)]] rfl (by (try simp only [List.map_toArray, List.map_cons, List.map_nil]); first | done | rfl | (simp only [List.length_drop, List.length_take]; rfl)) ?_; (with_reducible refine (fixed_Text.calls (wrap64 (-x430000_16)) (!x4_16.toList.isEmpty) t435 _ A29.out).mono ?_); rintro e w33 ⟨rfl, hb⟩; refine ⟨_, rfl, ?_⟩; have n0_ := Aside0.mk (blk_below (g := gb424) (o := .cells #[.int .i64 0, .bool false] 23 (0, 0)) (by (with_reducible repeat (first | refine blk_drewN ?_ _ | refine blk_drew ?_ | refine blk_alloc ?_ _)); refine blk_far ?_ NB424_429.out _; (with_reducible repeat (first | refine blk_drewN ?_ _ | refine blk_drew ?_ | refine blk_alloc ?_ _)); refine blk_far ?_ NB424_429.out _; (with_reducible repeat (first | refine blk_drewN ?_ _ | refine blk_drew ?_ | refine blk_alloc ?_ _)); exact BK424.out) hb); have n1_ := Aside0.mk (blk_below (g := gb429) (o := .cells #[.int .i64 (wrap64 (-x430000_16)), .bool (!x4_16.toList.isEmpty)] 23 (0, 0)) (by (with_reducible repeat (first | refine blk_drewN ?_ _ | refine blk_drew ?_ | refine blk_alloc ?_ _)); refine blk_put (cs := #[.int .i64 (wrap64 (-x430000_16)), .bool false]) ?_ 1 _ rfl; (with_reducible repeat (first | refine blk_drewN ?_ _ | refine blk_drew ?_ | refine blk_alloc ?_ _)); refine blk_put (cs := #[.int .i64 x430000_16, .bool false]) ?_ 0 _ rfl; (with_reducible repeat (first | refine blk_drewN ?_ _ | refine blk_drew ?_ | refine blk_alloc ?_ _)); exact BK429.out) hb); have n2_ := Aside0.mk (below_step (by repeat (first | (with_reducible first | exact HB.out | apply below_alloc | apply pw_below_drewN | apply below_drew1 | refine below_set ?_ GE424.out | refine below_set ?_ GE429.out) | exact HB.out)) hb); clear BK424; clear BK429; clear HB; have BK424 := n0_; have BK429 := n1_; have HB := n2_; clear n0_ n1_ n2_; (try clear hb); (try clear hb2); (try clear hk); (try clear hi); have hcz34_0 : w33.cell? ⟨gb429, 0, none⟩ = some (.int .i64 (wrap64 (-x430000_16))) := (blk_cell BK429.out 0).trans rfl; have hcz34_1 : w33.cell? ⟨gb429, 1, none⟩ = some (.bool (!x4_16.toList.isEmpty)) := (blk_cell BK429.out 1).trans rfl; have hfz34_0 := blk_frozen BK429.out 0; have hfz34_1 := blk_frozen BK429.out 1; have hcz35_0 : w33.cell? ⟨gb424, 0, none⟩ = some (.int .i64 0) := (blk_cell BK424.out 0).trans rfl; have hcz35_1 : w33.cell? ⟨gb424, 1, none⟩ = some (.bool false) := (blk_cell BK424.out 1).trans rfl; have hfz35_0 := blk_frozen BK424.out 0; have hfz35_1 := blk_frozen BK424.out 1))
                        refine bodyPost_ret (results_ct rfl _ _ gb424 23 #[.int .i64 (wrap64 (-x430000_16)), .bool (!x4_16.toList.isEmpty)] (0, 0) _ rfl (by (with_reducible repeat (first | refine blk_drewN ?_ _ | refine blk_drew ?_ | refine blk_alloc ?_ _)); refine blk_put (cs := #[.int .i64 (wrap64 (-x430000_16)), .bool false]) ?_ 1 _ rfl; (with_reducible repeat (first | refine blk_drewN ?_ _ | refine blk_drew ?_ | refine blk_alloc ?_ _)); refine blk_put (cs := #[.int .i64 0, .bool false]) ?_ 0 _ rfl; (with_reducible repeat (first | refine blk_drewN ?_ _ | refine blk_drew ?_ | refine blk_alloc ?_ _)); exact BK424.out) Try.underlying23 rfl (by kernel_rfl)) rfl ?_
                        exact ⟨by first | rfl | (simp [errW_none, errW_some] <;> rfl) | (simp [*, errW_none, errW_some] <;> rfl), by repeat (first | (with_reducible first | exact HB.out | apply below_alloc | apply pw_below_drewN | apply below_drew1 | refine below_set ?_ GE424.out | refine below_set ?_ GE429.out) | exact HB.out)⟩
                      · rw [if_neg c30] at H
                        have c30b0 : (t435.toList == a0.toList) = false := beq_eq_false_iff_ne.mpr c30
                        have c30b1 : (t435.toList != a0.toList) = true := bne_iff_ne.mpr c30
                        simp only [Option.some.injEq, Prod.mk.injEq] at H
                        obtain ⟨rfl, rfl, rfl⟩ := H
                        have hnb36 := NB429_424.out
                        have hnc36 := NB424_429.out
                        have hcz37_0 : wc.cell? ⟨gb429, 0, none⟩ = some (.int .i64 x430000_16) := (blk_cell BK429.out 0).trans rfl
                        have hcz37_1 : wc.cell? ⟨gb429, 1, none⟩ = some (.bool false) := (blk_cell BK429.out 1).trans rfl
                        have hfz37_0 := blk_frozen BK429.out 0
                        have hfz37_1 := blk_frozen BK429.out 1
                        go_wp2_with (first | ((with_reducible refine gate_callee (f := 67) rfl ?_); refine goesL_ (some 85) rfl rfl Try.func67 (by kernel_rfl) rfl #[.agg #[.int .i64 (wrap64 (-x430000_16)), .bool (!x4_16.toList.isEmpty)]] rfl (by (try simp only [List.map_toArray, List.map_cons, List.map_nil]); first | done | rfl | (simp only [List.length_drop, List.length_take]; rfl)) ?_; (with_reducible refine (fixed_Text.calls (wrap64 (-x430000_16)) (!x4_16.toList.isEmpty) t435 _ A29.out).mono ?_); rintro e w38 ⟨rfl, hb⟩; refine ⟨_, rfl, ?_⟩; have n0_ := Aside0.mk (blk_below (g := gb424) (o := .cells #[.int .i64 0, .bool false] 23 (0, 0)) (by (with_reducible repeat (first | refine blk_drewN ?_ _ | refine blk_drew ?_ | refine blk_alloc ?_ _)); refine blk_far ?_ NB424_429.out _; (with_reducible repeat (first | refine blk_drewN ?_ _ | refine blk_drew ?_ | refine blk_alloc ?_ _)); refine blk_far ?_ NB424_429.out _; (with_reducible repeat (first | refine blk_drewN ?_ _ | refine blk_drew ?_ | refine blk_alloc ?_ _)); exact BK424.out) hb); have n1_ := Aside0.mk (blk_below (g := gb429) (o := .cells #[.int .i64 (wrap64 (-x430000_16)), .bool (!x4_16.toList.isEmpty)] 23 (0, 0)) (by (with_reducible repeat (first | refine blk_drewN ?_ _ | refine blk_drew ?_ | refine blk_alloc ?_ _)); refine blk_put (cs := #[.int .i64 (wrap64 (-x430000_16)), .bool false]) ?_ 1 _ rfl; (with_reducible repeat (first | refine blk_drewN ?_ _ | refine blk_drew ?_ | refine blk_alloc ?_ _)); refine blk_put (cs := #[.int .i64 x430000_16, .bool false]) ?_ 0 _ rfl; (with_reducible repeat (first | refine blk_drewN ?_ _ | refine blk_drew ?_ | refine blk_alloc ?_ _)); exact BK429.out) hb); have n2_ := Aside0.mk (below_step (by repeat (first | (with_reducible first | exact HB.out | apply below_alloc | apply pw_below_drewN | apply below_drew1 | refine below_set ?_ GE424.out | refine below_set ?_ GE429.out) | exact HB.out)) hb); clear BK424; clear BK429; clear HB; have BK424 := n0_; have BK429 := n1_; have HB := n2_; clear n0_ n1_ n2_; (try clear hb); (try clear hb2); (try clear hk); (try clear hi); have hcz39_0 : w38.cell? ⟨gb424, 0, none⟩ = some (.int .i64 0) := (blk_cell BK424.out 0).trans rfl; have hcz39_1 : w38.cell? ⟨gb424, 1, none⟩ = some (.bool false) := (blk_cell BK424.out 1).trans rfl; have hfz39_0 := blk_frozen BK424.out 0; have hfz39_1 := blk_frozen BK424.out 1))
                        refine bodyPost_ret (results_ct rfl _ _ gb424 23 #[.int .i64 0, .bool false] (0, 0) _ rfl (by (with_reducible repeat (first | refine blk_drewN ?_ _ | refine blk_drew ?_ | refine blk_alloc ?_ _)); refine blk_put (cs := #[.int .i64 0, .bool false]) ?_ 1 _ rfl; (with_reducible repeat (first | refine blk_drewN ?_ _ | refine blk_drew ?_ | refine blk_alloc ?_ _)); refine blk_put (cs := #[.int .i64 0, .bool false]) ?_ 0 _ rfl; (with_reducible repeat (first | refine blk_drewN ?_ _ | refine blk_drew ?_ | refine blk_alloc ?_ _)); exact BK424.out) Try.underlying23 rfl (by kernel_rfl)) rfl ?_
                        exact ⟨by first | rfl | (simp [errW_none, errW_some] <;> rfl) | (simp [*, errW_none, errW_some] <;> rfl), by repeat (first | (with_reducible first | exact HB.out | apply below_alloc | apply pw_below_drewN | apply below_drew1 | refine below_set ?_ GE424.out | refine below_set ?_ GE429.out) | exact HB.out)⟩
                    · replace c28 := Bool.eq_false_iff.mpr c28
                      subst c28
                      have H1 : ((fixed_Text.f x430000_16 (!x4_16.toList.isEmpty)).bind fun t436 => (if t436.toList = a0.toList then (some (x430000_16, (!x4_16.toList.isEmpty), 0)) else (some (0, false, 4)))) = some (r1, r2, r3) := by rw [if_neg (show ¬ (false = true) by decide)] at H; exact H
                      clear H
                      have H := H1
                      clear H1
                      replace H := Option.bind_eq_some_iff.mp H
                      obtain ⟨t436, A400, H⟩ := H
                      replace H : (if t436.toList = a0.toList then (some (x430000_16, (!x4_16.toList.isEmpty), 0)) else (some (0, false, 4))) = some (r1, r2, r3) := H
                      have A40 := Aside0.mk A400
                      clear A400
                      by_cases c41 : t436.toList = a0.toList
                      · rw [if_pos c41] at H
                        have c41b0 : (t436.toList == a0.toList) = true := beq_iff_eq.mpr c41
                        have c41b1 : (t436.toList != a0.toList) = false := bne_eq_false_iff_eq.mpr c41
                        clear c41
                        simp only [Option.some.injEq, Prod.mk.injEq] at H
                        obtain ⟨rfl, rfl, rfl⟩ := H
                        have hnb42 := NB429_424.out
                        have hnc42 := NB424_429.out
                        have hcz43_0 : wc.cell? ⟨gb429, 0, none⟩ = some (.int .i64 x430000_16) := (blk_cell BK429.out 0).trans rfl
                        have hcz43_1 : wc.cell? ⟨gb429, 1, none⟩ = some (.bool false) := (blk_cell BK429.out 1).trans rfl
                        have hfz43_0 := blk_frozen BK429.out 0
                        have hfz43_1 := blk_frozen BK429.out 1
                        go_wp2_with (first | ((with_reducible refine gate_callee (f := 67) rfl ?_); refine goesL_ (some 85) rfl rfl Try.func67 (by kernel_rfl) rfl #[.agg #[.int .i64 x430000_16, .bool (!x4_16.toList.isEmpty)]] rfl (by (try simp only [List.map_toArray, List.map_cons, List.map_nil]); first | done | rfl | (simp only [List.length_drop, List.length_take]; rfl)) ?_; (with_reducible refine (fixed_Text.calls x430000_16 (!x4_16.toList.isEmpty) t436 _ A40.out).mono ?_); rintro e w44 ⟨rfl, hb⟩; refine ⟨_, rfl, ?_⟩; have n0_ := Aside0.mk (blk_below (g := gb424) (o := .cells #[.int .i64 0, .bool false] 23 (0, 0)) (by (with_reducible repeat (first | refine blk_drewN ?_ _ | refine blk_drew ?_ | refine blk_alloc ?_ _)); refine blk_far ?_ NB424_429.out _; (with_reducible repeat (first | refine blk_drewN ?_ _ | refine blk_drew ?_ | refine blk_alloc ?_ _)); exact BK424.out) hb); have n1_ := Aside0.mk (blk_below (g := gb429) (o := .cells #[.int .i64 x430000_16, .bool (!x4_16.toList.isEmpty)] 23 (0, 0)) (by (with_reducible repeat (first | refine blk_drewN ?_ _ | refine blk_drew ?_ | refine blk_alloc ?_ _)); refine blk_put (cs := #[.int .i64 x430000_16, .bool false]) ?_ 1 _ rfl; (with_reducible repeat (first | refine blk_drewN ?_ _ | refine blk_drew ?_ | refine blk_alloc ?_ _)); exact BK429.out) hb); have n2_ := Aside0.mk (below_step (by repeat (first | (with_reducible first | exact HB.out | apply below_alloc | apply pw_below_drewN | apply below_drew1 | refine below_set ?_ GE424.out | refine below_set ?_ GE429.out) | exact HB.out)) hb); clear BK424; clear BK429; clear HB; have BK424 := n0_; have BK429 := n1_; have HB := n2_; clear n0_ n1_ n2_; (try clear hb); (try clear hb2); (try clear hk); (try clear hi); have hcz45_0 : w44.cell? ⟨gb429, 0, none⟩ = some (.int .i64 x430000_16) := (blk_cell BK429.out 0).trans rfl; have hcz45_1 : w44.cell? ⟨gb429, 1, none⟩ = some (.bool (!x4_16.toList.isEmpty)) := (blk_cell BK429.out 1).trans rfl; have hfz45_0 := blk_frozen BK429.out 0; have hfz45_1 := blk_frozen BK429.out 1; have hcz46_0 : w44.cell? ⟨gb424, 0, none⟩ = some (.int .i64 0) := (blk_cell BK424.out 0).trans rfl; have hcz46_1 : w44.cell? ⟨gb424, 1, none⟩ = some (.bool false) := (blk_cell BK424.out 1).trans rfl; have hfz46_0 := blk_frozen BK424.out 0; have hfz46_1 := blk_frozen BK424.out 1))
                        refine bodyPost_ret (results_ct rfl _ _ gb424 23 #[.int .i64 x430000_16, .bool (!x4_16.toList.isEmpty)] (0, 0) _ rfl (by (with_reducible repeat (first | refine blk_drewN ?_ _ | refine blk_drew ?_ | refine blk_alloc ?_ _)); refine blk_put (cs := #[.int .i64 x430000_16, .bool false]) ?_ 1 _ rfl; (with_reducible repeat (first | refine blk_drewN ?_ _ | refine blk_drew ?_ | refine blk_alloc ?_ _)); refine blk_put (cs := #[.int .i64 0, .bool false]) ?_ 0 _ rfl; (with_reducible repeat (first | refine blk_drewN ?_ _ | refine blk_drew ?_ | refine blk_alloc ?_ _)); exact BK424.out) Try.underlying23 rfl (by kernel_rfl)) rfl ?_
                        exact ⟨by first | rfl | (simp [errW_none, errW_some] <;> rfl) | (simp [*, errW_none, errW_some] <;> rfl), by repeat (first | (with_reducible first | exact HB.out | apply below_alloc | apply pw_below_drewN | apply below_drew1 | refine below_set ?_ GE424.out | refine below_set ?_ GE429.out) | exact HB.out)⟩
                      · rw [if_neg c41] at H
                        have c41b0 : (t436.toList == a0.toList) = false := beq_eq_false_iff_ne.mpr c41
                        have c41b1 : (t436.toList != a0.toList) = true := bne_iff_ne.mpr c41
                        simp only [Option.some.injEq, Prod.mk.injEq] at H
                        obtain ⟨rfl, rfl, rfl⟩ := H
                        have hnb47 := NB429_424.out
                        have hnc47 := NB424_429.out
                        have hcz48_0 : wc.cell? ⟨gb429, 0, none⟩ = some (.int .i64 x430000_16) := (blk_cell BK429.out 0).trans rfl
                        have hcz48_1 : wc.cell? ⟨gb429, 1, none⟩ = some (.bool false) := (blk_cell BK429.out 1).trans rfl
                        have hfz48_0 := blk_frozen BK429.out 0
                        have hfz48_1 := blk_frozen BK429.out 1
                        go_wp2_with (first | ((with_reducible refine gate_callee (f := 67) rfl ?_); refine goesL_ (some 85) rfl rfl Try.func67 (by kernel_rfl) rfl #[.agg #[.int .i64 x430000_16, .bool (!x4_16.toList.isEmpty)]] rfl (by (try simp only [List.map_toArray, List.map_cons, List.map_nil]); first | done | rfl | (simp only [List.length_drop, List.length_take]; rfl)) ?_; (with_reducible refine (fixed_Text.calls x430000_16 (!x4_16.toList.isEmpty) t436 _ A40.out).mono ?_); rintro e w49 ⟨rfl, hb⟩; refine ⟨_, rfl, ?_⟩; have n0_ := Aside0.mk (blk_below (g := gb424) (o := .cells #[.int .i64 0, .bool false] 23 (0, 0)) (by (with_reducible repeat (first | refine blk_drewN ?_ _ | refine blk_drew ?_ | refine blk_alloc ?_ _)); refine blk_far ?_ NB424_429.out _; (with_reducible repeat (first | refine blk_drewN ?_ _ | refine blk_drew ?_ | refine blk_alloc ?_ _)); exact BK424.out) hb); have n1_ := Aside0.mk (blk_below (g := gb429) (o := .cells #[.int .i64 x430000_16, .bool (!x4_16.toList.isEmpty)] 23 (0, 0)) (by (with_reducible repeat (first | refine blk_drewN ?_ _ | refine blk_drew ?_ | refine blk_alloc ?_ _)); refine blk_put (cs := #[.int .i64 x430000_16, .bool false]) ?_ 1 _ rfl; (with_reducible repeat (first | refine blk_drewN ?_ _ | refine blk_drew ?_ | refine blk_alloc ?_ _)); exact BK429.out) hb); have n2_ := Aside0.mk (below_step (by repeat (first | (with_reducible first | exact HB.out | apply below_alloc | apply pw_below_drewN | apply below_drew1 | refine below_set ?_ GE424.out | refine below_set ?_ GE429.out) | exact HB.out)) hb); clear BK424; clear BK429; clear HB; have BK424 := n0_; have BK429 := n1_; have HB := n2_; clear n0_ n1_ n2_; (try clear hb); (try clear hb2); (try clear hk); (try clear hi); have hcz50_0 : w49.cell? ⟨gb424, 0, none⟩ = some (.int .i64 0) := (blk_cell BK424.out 0).trans rfl; have hcz50_1 : w49.cell? ⟨gb424, 1, none⟩ = some (.bool false) := (blk_cell BK424.out 1).trans rfl; have hfz50_0 := blk_frozen BK424.out 0; have hfz50_1 := blk_frozen BK424.out 1))
                        refine bodyPost_ret (results_ct rfl _ _ gb424 23 #[.int .i64 0, .bool false] (0, 0) _ rfl (by (with_reducible repeat (first | refine blk_drewN ?_ _ | refine blk_drew ?_ | refine blk_alloc ?_ _)); refine blk_put (cs := #[.int .i64 0, .bool false]) ?_ 1 _ rfl; (with_reducible repeat (first | refine blk_drewN ?_ _ | refine blk_drew ?_ | refine blk_alloc ?_ _)); refine blk_put (cs := #[.int .i64 0, .bool false]) ?_ 0 _ rfl; (with_reducible repeat (first | refine blk_drewN ?_ _ | refine blk_drew ?_ | refine blk_alloc ?_ _)); exact BK424.out) Try.underlying23 rfl (by kernel_rfl)) rfl ?_
                        exact ⟨by first | rfl | (simp [errW_none, errW_some] <;> rfl) | (simp [*, errW_none, errW_some] <;> rfl), by repeat (first | (with_reducible first | exact HB.out | apply below_alloc | apply pw_below_drewN | apply below_drew1 | refine below_set ?_ GE424.out | refine below_set ?_ GE429.out) | exact HB.out)⟩
end Go.Proofs.Ytenpiaafkmfjfaa.B

end
section
namespace Go.Proofs.Ytenpiaafkmfjfaa.B
open Go.RowKit Go.Proofs.YtenpiaafkmfjfaaW.PrintWords
theorem bl (a : ByteArray) : a.toList = a.data.toList := Go.ByteArray.toList_eq a
theorem size_l (a : ByteArray) : a.size = a.data.toList.length := by
  show a.data.size = a.data.toList.length
  exact Array.length_toList.symm
theorem ext_l (a : ByteArray) (i j : Nat) : (a.extract i j).data.toList = (a.data.toList.take j).drop i := by
  rw [ByteArray.data_extract]
  simp [Array.toList_extract, List.extract_eq_take_drop, List.drop_take]
theorem bt_l (a : ByteArray) (i : Nat) (h : i < a.data.toList.length) : bt a (i : Int) = ((a.data.toList[i]).toNat : Int) := by
  have h2 : (i : Int).toNat < a.size := by rw [size_l]; simpa using h
  rw [← bt_at a (i : Int) h2]
  rfl
theorem bt_isD (a : ByteArray) (i : Nat) (h : i < a.data.toList.length) : (isD a.data.toList[i] = true ↔ (bt a (i : Int) ≥ 48 ∧ bt a (i : Int) ≤ 57)) := by
  rw [bt_l a i h]
  unfold isD
  simp only [Bool.and_eq_true, decide_eq_true_eq]
  omega
theorem cutL_eq (c : UInt8) (r : List UInt8) : cutL c (c :: r) = (r, true) := if_pos rfl
theorem cutL_ne {c x : UInt8} (h : ¬ x = c) (r : List UInt8) : cutL c (x :: r) = (x :: r, false) := if_neg h
theorem cut_f (s : ByteArray) (c : UInt8) : ∃ r, strings_CutPrefix.f s ⟨#[c]⟩ = some (r, (cutL c s.data.toList).2) ∧ r.data.toList = (cutL c s.data.toList).1 := by
  have h1 : ((⟨#[c]⟩ : ByteArray).size : Int) = 1 := rfl
  have e1 : (⟨#[c]⟩ : ByteArray).toList = [c] := bl _
  unfold strings_CutPrefix.f stringslite_CutPrefix.f stringslite_HasPrefix.f
  rw [h1]
  cases hL : s.data.toList with
  | nil =>
    have hs : s.size = 0 := by rw [size_l, hL]; rfl
    rw [hs, if_neg (by decide)]
    simp only [Option.bind_some]
    rw [if_neg (by decide)]
    exact ⟨s, rfl, hL⟩
  | cons x r =>
    have hs : s.size = r.length + 1 := by rw [size_l, hL]; rfl
    rw [if_pos (by omega), if_pos (by omega), if_pos (by omega)]
    have e2 : (s.extract 0 (1 : Int).toNat).toList = [x] := by
      rw [bl, ext_l, hL]; rfl
    simp only [Option.bind_some, e1, e2]
    by_cases hx : x = c
    · subst hx
      rw [if_pos (by simp), if_pos (by omega), if_pos (by omega)]
      refine ⟨_, by rw [cutL_eq]; simp only [Option.bind_some]; rfl, ?_⟩
      rw [ext_l, hL, hs, cutL_eq]
      show List.drop 1 (List.take (r.length + 1) (x :: r)) = r
      simp
    · rw [if_neg (by simpa using hx)]
      refine ⟨s, by rw [cutL_ne hx]; simp only [Option.bind_some], ?_⟩
      rw [hL, cutL_ne hx]
theorem figs_loop (s : ByteArray) (hs : s.size ≤ 1000) : ∀ (m i k : Nat), m + i = s.size → m + 1 ≤ k →
    fixed_figures.l0 k s i = some (s.extract 0 (i + ((s.data.toList.drop i).takeWhile isD).length), s.extract (i + ((s.data.toList.drop i).takeWhile isD).length) s.size)
  | 0, i, k, h, hk => by
    obtain ⟨k, rfl⟩ : ∃ z, k = z + 1 := ⟨k - 1, by omega⟩
    have e : s.data.toList.drop i = [] := List.drop_eq_nil_of_le (by rw [← size_l]; omega)
    rw [fixed_figures.l0, if_neg (by omega), if_pos (by omega), if_pos (by omega), e]
    simp
  | m + 1, i, k, h, hk => by
    obtain ⟨k, rfl⟩ : ∃ z, k = z + 1 := ⟨k - 1, by omega⟩
    have hi : i < s.data.toList.length := by rw [← size_l]; omega
    have hd := bt_isD s i hi
    have e : s.data.toList.drop i = s.data.toList[i] :: s.data.toList.drop (i + 1) := List.drop_eq_getElem_cons hi
    rw [fixed_figures.l0, if_pos (by omega), if_pos (by omega), e]
    by_cases hx : isD s.data.toList[i] = true
    · obtain ⟨g1, g2⟩ := hd.1 hx
      rw [if_pos g1, if_pos g2, wrap64_id (by omega) (by omega)]
      have ih := figs_loop s hs m (i + 1) k (by omega) (by omega)
      rw [show ((i : Int) + 1) = ((i + 1 : Nat) : Int) by omega, ih, List.takeWhile_cons, if_pos hx, List.length_cons]
      rw [show i + 1 + (List.takeWhile isD (List.drop (i + 1) s.data.toList)).length = i + ((List.takeWhile isD (List.drop (i + 1) s.data.toList)).length + 1) by omega]
    · rw [List.takeWhile_cons, if_neg hx]
      have fin : (if (i : Int) ≤ (s.size : Int) then some (s.extract 0 (i : Int).toNat, s.extract (i : Int).toNat s.size) else none) = some (s.extract 0 (i + ([] : List UInt8).length), s.extract (i + ([] : List UInt8).length) s.size) := by
        rw [if_pos (by omega)]; simp
      by_cases g1 : bt s (i : Int) ≥ 48
      · rw [if_pos g1]
        by_cases g2 : bt s (i : Int) ≤ 57
        · exact absurd (hd.2 ⟨g1, g2⟩) hx
        · rw [if_neg g2]; exact fin
      · rw [if_neg g1]; exact fin
theorem tw_take (l : List UInt8) : l.take (l.takeWhile isD).length = l.takeWhile isD := by
  conv => lhs; arg 2; rw [← List.takeWhile_append_dropWhile (p := isD) (l := l)]
  exact List.take_left' rfl
theorem tw_drop (l : List UInt8) : l.drop (l.takeWhile isD).length = l.dropWhile isD := by
  conv => lhs; arg 2; rw [← List.takeWhile_append_dropWhile (p := isD) (l := l)]
  exact List.drop_left' rfl
theorem figs_f (s : ByteArray) (hs : s.size ≤ 1000) (k : Nat) (hk : 1001 ≤ k) : ∃ a b, fixed_figures.f k s = some (a, b) ∧ a.data.toList = s.data.toList.takeWhile isD ∧ b.data.toList = s.data.toList.dropWhile isD := by
  refine ⟨_, _, figs_loop s hs s.size 0 k (by omega) (by omega), ?_, ?_⟩
  · rw [ext_l, List.drop_zero, Nat.zero_add, List.drop_zero, tw_take]
  · rw [ext_l, size_l, List.take_length, List.drop_zero, Nat.zero_add, tw_drop]
theorem i64_or (a b : Nat) (ha : a < 2147483648) (hb : b < 4294967296) : Go.bits .or .i64 ((a * 4294967296 : Nat) : Int) (b : Int) = ((a * 4294967296 + b : Nat) : Int) := by
  have e1 : (BitVec.ofInt 64 ((a * 4294967296 : Nat) : Int)).toNat = 2 ^ 32 * a := by
    rw [BitVec.toNat_ofInt]; omega
  have e2 : (BitVec.ofInt 64 (b : Int)).toNat = b := by
    rw [BitVec.toNat_ofInt]; omega
  have key : (BitVec.ofInt 64 ((a * 4294967296 : Nat) : Int) ||| BitVec.ofInt 64 (b : Int)).toNat = a * 4294967296 + b := by
    rw [BitVec.toNat_or, e1, e2, ← Nat.two_pow_add_eq_or_of_lt (by omega) a]; omega
  show IntKind.i64.wrap ((BitVec.ofInt 64 ((a * 4294967296 : Nat) : Int) ||| BitVec.ofInt 64 (b : Int)).toNat : Nat) = _
  rw [key, IntKind.wrap_i64]
  omega
theorem text_f {v : Int} (f : Bool) (h : I64 v) : fixed_Text.f v f = some ⟨(textB v f).toArray⟩ := by
  unfold I64 at h
  unfold fixed_Text.f
  rw [if_pos h.1, if_pos h.2]
theorem parse_j2 (k : Nat) (hk : 1 ≤ k) (s rest : ByteArray) (neg : Bool) (V : Nat) (hV : V < 9223372036854775808) :
    fixed_Parse.j2 k s rest neg (V : Int) false = some (finP s.data.toList neg (V : Int) (!rest.data.toList.isEmpty)) := by
  obtain ⟨k, rfl⟩ : ∃ z, k = z + 1 := ⟨k - 1, by omega⟩
  have er : (rest.toList != ([] : List UInt8)) = (!rest.data.toList.isEmpty) := by rw [bl]; cases rest.data.toList <;> rfl
  rw [fixed_Parse.j2, er, bl s]
  unfold finP
  cases neg
  · rw [if_neg (show ¬ (false = true) by decide), if_neg (show ¬ (false = true) by decide), text_f _ (by unfold I64; omega), Option.bind_some, bl]
    by_cases h : textB (V : Int) (!rest.data.toList.isEmpty) = s.data.toList
    · rw [if_pos h, if_pos (by simpa using h)]
    · rw [if_neg h, if_neg (by simpa using h)]
  · rw [if_pos rfl, if_pos rfl, wrap64_id (by omega) (by omega), text_f _ (by unfold I64; omega), Option.bind_some, bl]
    by_cases h : textB (-(V : Int)) (!rest.data.toList.isEmpty) = s.data.toList
    · rw [if_pos h, if_pos (by simpa using h)]
    · rw [if_neg h, if_neg (by simpa using h)]
theorem all_tw (a : ByteArray) (h : ∀ c ∈ a.data.toList, isD c = true) : allDigits a = true := by
  unfold allDigits
  rw [List.all_eq_true]
  intro c hc
  exact h c hc
theorem bits_f (a : ByteArray) (hs : a.size ≤ 1000) (h : ∀ c ∈ a.data.toList, isD c = true) : fixed_bits32.f a = some ((frac 32 (a.data.toList.map dg) 0 : Nat) : Int) := by
  unfold fixed_bits32.f
  rw [if_pos hs, if_pos (all_tw a h)]
  rfl
theorem tw_le (l : List UInt8) : (l.takeWhile isD).length ≤ l.length := by
  have := congrArg List.length (List.takeWhile_append_dropWhile (p := isD) (l := l))
  rw [List.length_append] at this
  omega
theorem dw_le (l : List UInt8) : (l.dropWhile isD).length ≤ l.length := by
  have := congrArg List.length (List.takeWhile_append_dropWhile (p := isD) (l := l))
  rw [List.length_append] at this
  omega
theorem cut_le (c : UInt8) (l : List UInt8) : (cutL c l).1.length ≤ l.length := by
  cases l with
  | nil => exact Nat.le_refl _
  | cons x r =>
    by_cases h : x = c
    · subst h; rw [cutL_eq]; simp
    · rw [cutL_ne h]; exact Nat.le_refl _
theorem parse_tail (k : Nat) (hk : 1003 ≤ k) (s rest x6 : ByteArray) (neg : Bool) (n : Nat) (hn : n < 18446744073709551616) (hr : rest.size ≤ 1000) :
    fixed_Parse.l0 k s rest neg x6 (n : Int) (x6.size : Int) (x6.size : Int) = some (if n ≥ 2147483648 then (0, false, 4) else finP s.data.toList neg ((n * 4294967296 + (fracP rest.data.toList).1 : Nat) : Int) (!(fracP rest.data.toList).2.isEmpty)) := by
  obtain ⟨k, rfl⟩ : ∃ z, k = z + 1 := ⟨k - 1, by omega⟩
  rw [fixed_Parse.l0, if_neg (by omega)]
  by_cases h : n ≥ 2147483648
  · rw [if_pos (by omega), if_pos h]
  · rw [if_neg (by omega), if_neg h, u64_id (by omega) (by omega), wrap64_id (by omega) (by omega)]
    obtain ⟨r, e, er⟩ := cut_f rest 46
    have e2 : fracP rest.data.toList = if (cutL 46 rest.data.toList).2 = true then (frac 32 (((cutL 46 rest.data.toList).1.takeWhile isD).map dg) 0, (cutL 46 rest.data.toList).1.dropWhile isD) else (0, rest.data.toList) := rfl
    rw [e, Option.bind_some]
    dsimp only
    by_cases hc : (cutL 46 rest.data.toList).2 = true
    · rw [if_pos hc] at e2
      have hrs : r.size ≤ 1000 := by
        rw [size_l, er]
        have := cut_le 46 rest.data.toList
        rw [← size_l] at this
        omega
      obtain ⟨a, b, ef, ea, eb⟩ := figs_f r hrs k (by omega)
      have hdig : ∀ c ∈ a.data.toList, isD c = true := by rw [ea]; exact tw_isD _
      have hsz : a.size ≤ 1000 := by
        rw [size_l, ea]
        have := tw_le r.data.toList
        rw [← size_l] at this
        omega
      have hlt := frac32_lt _ (nine_dg hdig)
      rw [if_pos hc, ef, Option.bind_some]
      dsimp only
      rw [bits_f a hsz hdig, Option.bind_some, wrap64_id (by omega) (by omega)]
      rw [show ((n : Int) * 4294967296) = ((n * 4294967296 : Nat) : Int) by omega, i64_or n _ (by omega) hlt, parse_j2 k (by omega) s b neg _ (by omega), e2]
      dsimp only
      rw [ea, er, eb, er]
    · rw [if_neg hc] at e2
      rw [if_neg hc, show ((n : Int) * 4294967296) = ((n * 4294967296 : Nat) : Int) by omega, parse_j2 k (by omega) s rest neg _ (by omega), e2]
      dsimp only
      rw [Nat.add_zero]
theorem parse_loop (s rest x6 : ByteArray) (neg : Bool) (hr : rest.size ≤ 1000) (hx : x6.size ≤ 10) (hd : ∀ c ∈ x6.data.toList, isD c = true) : ∀ (m i k : Nat), m + i = x6.size → m + 1003 ≤ k →
    fixed_Parse.l0 k s rest neg x6 ((dval ((x6.data.toList.take i).map dg) : Nat) : Int) (x6.size : Int) (i : Int) =
      some (if dval (x6.data.toList.map dg) ≥ 2147483648 then (0, false, 4) else finP s.data.toList neg ((dval (x6.data.toList.map dg) * 4294967296 + (fracP rest.data.toList).1 : Nat) : Int) (!(fracP rest.data.toList).2.isEmpty))
  | 0, i, k, h, hk => by
    have hi : i = x6.size := by omega
    subst hi
    have e : x6.data.toList.take x6.size = x6.data.toList := by rw [size_l]; exact List.take_length
    have hlt : dval (x6.data.toList.map dg) < 10 ^ 10 := by
      have h1 := dval_lt _ (nine_dg hd)
      rw [List.length_map, ← size_l] at h1
      exact Nat.lt_of_lt_of_le h1 (Nat.pow_le_pow_right (by omega) hx)
    rw [e]
    exact parse_tail k (by omega) s rest x6 neg _ (by omega) hr
  | m + 1, i, k, h, hk => by
    obtain ⟨k, rfl⟩ : ∃ z, k = z + 1 := ⟨k - 1, by omega⟩
    have hi : i < x6.data.toList.length := by rw [← size_l]; omega
    have hD : isD x6.data.toList[i] = true := hd _ (List.getElem_mem hi)
    have hb := bt_l x6 i hi
    obtain ⟨g1, g2⟩ := (bt_isD x6 i hi).1 hD
    have hnine : ninth ((x6.data.toList.take i).map dg) := nine_dg (fun c hc => hd c (List.mem_of_mem_take hc))
    have hlt : dval ((x6.data.toList.take i).map dg) < 10 ^ 10 := by
      have h1 := dval_lt _ hnine
      rw [List.length_map, List.length_take] at h1
      exact Nat.lt_of_lt_of_le h1 (Nat.pow_le_pow_right (by omega) (by omega))
    have es : dval ((x6.data.toList.take (i + 1)).map dg) = 10 * dval ((x6.data.toList.take i).map dg) + dg x6.data.toList[i] := by
      rw [List.take_succ_eq_append_getElem hi, List.map_append]
      exact dval_snoc _ _
    have edg : ((dg x6.data.toList[i] : Nat) : Int) = (bt x6 (i : Int) - 48) % 256 := by
      rw [hb] at g1 g2 ⊢
      unfold dg; omega
    have ih := parse_loop s rest x6 neg hr hx hd m (i + 1) k (by omega) (by omega)
    rw [fixed_Parse.l0, if_pos (by omega), if_pos (by omega), if_pos (by rw [size_l]; omega), ← edg, wrap64_id (by omega) (by omega)]
    have hdg := isD_dg hD
    rw [u64_id (x := 10 * _) (by omega) (by omega), u64_id (by omega) (by omega), ← ih, es]
    congr 1
theorem parse_f (k : Nat) (hk : 1100 ≤ k) (s : ByteArray) (hs : s.size ≤ 1000) : fixed_Parse.f k s = some (parseF s.data.toList) := by
  unfold fixed_Parse.f
  obtain ⟨r, e, er⟩ := cut_f s 45
  have hr : r.size ≤ 1000 := by
    rw [size_l, er]
    have := cut_le 45 s.data.toList
    rw [← size_l] at this
    omega
  obtain ⟨a, b, ef, ea, eb⟩ := figs_f r hr k (by omega)
  rw [er] at ea eb
  have hd : ∀ c ∈ a.data.toList, isD c = true := by rw [ea]; exact tw_isD _
  have hb : b.size ≤ 1000 := by
    rw [size_l, eb]
    have h1 := dw_le (cutL 45 s.data.toList).1
    have h2 := cut_le 45 s.data.toList
    rw [← size_l s] at h2
    omega
  rw [e, Option.bind_some]
  dsimp only
  rw [ef, Option.bind_some]
  dsimp only
  obtain ⟨k, rfl⟩ : ∃ z, k = z + 1 := ⟨k - 1, by omega⟩
  have la : a.size = ((cutL 45 s.data.toList).1.takeWhile isD).length := by rw [size_l, ea]
  have ls := size_l s
  unfold parseF
  rw [← la, ← ls]
  by_cases h1 : (a.size : Int) < 1
  · rw [if_pos h1, if_pos (.inl (by omega)), fixed_Parse.j0, if_pos rfl]
  · rw [if_neg h1]
    by_cases h2 : (a.size : Int) > 10
    · rw [if_pos h2, if_pos (.inr (.inl (by omega))), fixed_Parse.j0, if_pos rfl]
    · rw [if_neg h2]
      by_cases h3 : (s.size : Int) > 50
      · rw [decide_eq_true h3, if_pos (.inr (.inr (by omega))), fixed_Parse.j0, if_pos rfl]
      · have ih := parse_loop s b a (cutL 45 s.data.toList).2 hb (by omega) hd a.size 0 k (by omega) (by omega)
        rw [ea, eb] at ih
        rw [decide_eq_false h3, if_neg (by omega), fixed_Parse.j0, if_neg (show ¬ (false = true) by decide)]
        refine Eq.trans ih ?_
        split <;> rfl
end Go.Proofs.Ytenpiaafkmfjfaa.B

end
section
namespace Go.Proofs.Ytenpiaafkmfjfaa.B
open Go.RowKit Go.Proofs.YtenpiaafkmfjfaaW.PrintWords Go.Proofs.YtenpiaafkmfjfaaW.PrintLast Go.Proofs.YtenpiaafkmfjfaaW.PrintMore
attribute [local go_sem] max2_int min2_int max_two min_two max_three min_three max_four min_four
set_option linter.unusedVariables false
set_option linter.unusedSimpArgs false
attribute [local go_sem high] eqA23
def bagatellelaw01_text.f (a0_0 : Int) (a0_1 : Bool) (a1 : ByteArray) : Option (Bool) := (fixed_Text.f a0_0 a0_1).bind fun t438 => (some (t438.toList == a1.toList))
set_option maxHeartbeats 8000000 in
set_option maxRecDepth 100000 in
theorem bagatellelaw01_text.calls (a0_0 : Int) (a0_1 : Bool) (a1 : ByteArray) (r : Bool) (w : World) (h : bagatellelaw01_text.f a0_0 a0_1 a1 = some r) :
    Calls Try.prog 48 #[.agg #[.int .i64 a0_0, .bool a0_1], .string a1] w fun e w' => e = .returned (.bool r) ∧ Below w.heap.size w w' := by
  have hu23 := Try.underlying23
  have HB := Aside0.mk (Below.refl w.heap.size w)
  have H : ((fixed_Text.f a0_0 a0_1).bind fun t438 => (some (t438.toList == a1.toList))) = some r := h
  clear h
  replace H := Option.bind_eq_some_iff.mp H
  obtain ⟨t438, A30, H⟩ := H
  replace H : (some (t438.toList == a1.toList)) = some r := H
  have A3 := Aside0.mk A30
  clear A30
  obtain rfl := Option.some.inj H
  go_enter Try.func48, Try.ntmps48
  go_wp2_with (first | ((with_reducible refine gate_dst (N := 2) rfl ?_); refine box_event ?hg (N := 2) ?hd (cs := #[.int .i64 a0_0, .bool a0_1]) (t := 23) ?hr ?_; (case hd => rfl); (case hg => rfl); (case hr => first | (go_simp; done) | (go_simp; rfl)); intro gb437 hg w4 hbox hb; have n0_ := Aside0.mk (below_step (by repeat (first | (with_reducible first | exact HB.out | apply below_alloc | apply pw_below_drewN | apply below_drew1) | exact HB.out)) hb); have n1_ := Aside0.mk (hbox); have n2_ := Aside0.mk ((by rw [hg]; exact (below_size (by repeat (first | (with_reducible first | exact HB.out | apply below_alloc | apply pw_below_drewN | apply below_drew1) | exact HB.out))) : w.heap.size ≤ gb437)); have n3_ := Aside0.mk ((by rw [hg]; exact (below_size (by repeat (first | (with_reducible first | exact HB.out | apply below_alloc | apply pw_below_drewN | apply below_drew1) | exact HB.out))) : w.heap.size ≤ gb437)); clear HB; have HB := n0_; have BK437 := n1_; have GW437 := n2_; have GE437 := n3_; clear n0_ n1_ n2_ n3_; clear hb hbox hg; have hcz5_0 : w4.cell? ⟨gb437, 0, none⟩ = some (.int .i64 a0_0) := (blk_cell BK437.out 0).trans rfl; have hcz5_1 : w4.cell? ⟨gb437, 1, none⟩ = some (.bool a0_1) := (blk_cell BK437.out 1).trans rfl; have hfz5_0 := blk_frozen BK437.out 0; have hfz5_1 := blk_frozen BK437.out 1) | ((with_reducible refine gate_callee (f := 67) rfl ?_); refine goesL_ (some 6) rfl rfl Try.func67 (by kernel_rfl) rfl #[.agg #[.int .i64 a0_0, .bool a0_1]] rfl (by (try simp only [List.map_toArray, List.map_cons, List.map_nil]); first | done | rfl | (simp only [List.length_drop, List.length_take]; rfl)) ?_; (with_reducible refine (fixed_Text.calls a0_0 a0_1 t438 _ A3.out).mono ?_); rintro e w6 ⟨rfl, hb⟩; refine ⟨_, rfl, ?_⟩; have n0_ := Aside0.mk (blk_below (g := gb437) (o := .cells #[.int .i64 a0_0, .bool a0_1] 23 (0, 0)) (by (with_reducible repeat (first | refine blk_drewN ?_ _ | refine blk_drew ?_ | refine blk_alloc ?_ _)); exact BK437.out) hb); have n1_ := Aside0.mk (below_step (by repeat (first | (with_reducible first | exact HB.out | apply below_alloc | apply pw_below_drewN | apply below_drew1 | refine below_set ?_ GE437.out) | exact HB.out)) hb); clear BK437; clear HB; have BK437 := n0_; have HB := n1_; clear n0_ n1_; (try clear hb); (try clear hb2); (try clear hk); (try clear hi)))
  go_ret
  exact ⟨by first | rfl | (simp [errW_none, errW_some] <;> rfl) | (simp [*, errW_none, errW_some] <;> rfl), by repeat (first | (with_reducible first | exact HB.out | apply below_alloc | apply pw_below_drewN | apply below_drew1 | refine below_set ?_ GE437.out) | exact HB.out)⟩
def bagatellelaw01_no.f (k : Nat) (a0 : ByteArray) : Option (Bool) := (fixed_Parse.f k a0).bind fun bt439 => (if bt439.2.2 = 4 then (some (bt439.1 == 0 && (!bt439.2.1))) else (some false))
set_option maxHeartbeats 8000000 in
set_option maxRecDepth 100000 in
theorem bagatellelaw01_no.calls (k : Nat) (a0 : ByteArray) (r : Bool) (w : World) (h : bagatellelaw01_no.f k a0 = some r) :
    Calls Try.prog 52 #[.string a0] w fun e w' => e = .returned (.bool r) ∧ Below w.heap.size w w' := by
  have hu23 := Try.underlying23
  have HB := Aside0.mk (Below.refl w.heap.size w)
  have H : ((fixed_Parse.f k a0).bind fun bt439 => (if bt439.2.2 = 4 then (some (bt439.1 == 0 && (!bt439.2.1))) else (some false))) = some r := h
  clear h
  replace H := Option.bind_eq_some_iff.mp H
  obtain ⟨⟨t439, t440, t441⟩, A20, H⟩ := H
  replace H : (if t441 = 4 then (some (t439 == 0 && (!t440))) else (some false)) = some r := H
  have A2 := Aside0.mk A20
  clear A20
  by_cases c3 : t441 = 4
  · rw [if_pos c3] at H
    have c3b0 : (t441 == 4) = true := beq_iff_eq.mpr c3
    have c3b1 : (t441 != 4) = false := bne_eq_false_iff_eq.mpr c3
    clear c3
    obtain rfl := Option.some.inj H
    go_enter Try.func52, Try.ntmps52
    go_wp2_with (first | ((with_reducible refine gate_callee (f := 51) rfl ?_); refine goesL_ (some 7) rfl rfl Try.func51 (by kernel_rfl) rfl #[.string a0] rfl (by (try simp only [List.map_toArray, List.map_cons, List.map_nil]); first | done | rfl | (simp only [List.length_drop, List.length_take]; rfl)) ?_; (with_reducible refine (fixed_Parse.calls k a0 t439 t440 t441 _ A2.out).mono ?_); rintro e w4 ⟨rfl, hb⟩; refine ⟨_, rfl, ?_⟩; have n0_ := Aside0.mk (below_step (by repeat (first | (with_reducible first | exact HB.out | apply below_alloc | apply pw_below_drewN | apply below_drew1) | exact HB.out)) hb); clear HB; have HB := n0_; clear n0_; (try clear hb); (try clear hb2); (try clear hk); (try clear hi)) | ((with_reducible refine gate_dst (N := 3) rfl ?_); refine box_event ?hg (N := 3) ?hd (cs := #[.int .i64 0, .bool false]) (t := 23) ?hr ?_; (case hd => rfl); (case hg => rfl); (case hr => first | (go_simp; done) | (go_simp; rfl)); intro gb442 hg w5 hbox hb; have n0_ := Aside0.mk (below_step (by repeat (first | (with_reducible first | exact HB.out | apply below_alloc | apply pw_below_drewN | apply below_drew1) | exact HB.out)) hb); have n1_ := Aside0.mk (hbox); have n2_ := Aside0.mk ((by rw [hg]; exact (below_size (by repeat (first | (with_reducible first | exact HB.out | apply below_alloc | apply pw_below_drewN | apply below_drew1) | exact HB.out))) : w.heap.size ≤ gb442)); have n3_ := Aside0.mk ((by rw [hg]; exact (below_size (by repeat (first | (with_reducible first | exact HB.out | apply below_alloc | apply pw_below_drewN | apply below_drew1) | exact HB.out))) : w.heap.size ≤ gb442)); clear HB; have HB := n0_; have BK442 := n1_; have GW442 := n2_; have GE442 := n3_; clear n0_ n1_ n2_ n3_; clear hb hbox hg; have hcz6_0 : w5.cell? ⟨gb442, 0, none⟩ = some (.int .i64 0) := (blk_cell BK442.out 0).trans rfl; have hcz6_1 : w5.cell? ⟨gb442, 1, none⟩ = some (.bool false) := (blk_cell BK442.out 1).trans rfl; have hfz6_0 := blk_frozen BK442.out 0; have hfz6_1 := blk_frozen BK442.out 1))
    go_ret
    exact ⟨by first | rfl | (simp [errW_none, errW_some] <;> rfl) | (simp [*, errW_none, errW_some] <;> rfl), by repeat (first | (with_reducible first | exact HB.out | apply below_alloc | apply pw_below_drewN | apply below_drew1 | refine below_set ?_ GE442.out) | exact HB.out)⟩
  · rw [if_neg c3] at H
    have c3b0 : (t441 == 4) = false := beq_eq_false_iff_ne.mpr c3
    have c3b1 : (t441 != 4) = true := bne_iff_ne.mpr c3
    obtain rfl := Option.some.inj H
    go_enter Try.func52, Try.ntmps52
    go_wp2_with (first | ((with_reducible refine gate_callee (f := 51) rfl ?_); refine goesL_ (some 7) rfl rfl Try.func51 (by kernel_rfl) rfl #[.string a0] rfl (by (try simp only [List.map_toArray, List.map_cons, List.map_nil]); first | done | rfl | (simp only [List.length_drop, List.length_take]; rfl)) ?_; (with_reducible refine (fixed_Parse.calls k a0 t439 t440 t441 _ A2.out).mono ?_); rintro e w7 ⟨rfl, hb⟩; refine ⟨_, rfl, ?_⟩; have n0_ := Aside0.mk (below_step (by repeat (first | (with_reducible first | exact HB.out | apply below_alloc | apply pw_below_drewN | apply below_drew1) | exact HB.out)) hb); clear HB; have HB := n0_; clear n0_; (try clear hb); (try clear hb2); (try clear hk); (try clear hi)) | ((with_reducible refine gate_dst (N := 3) rfl ?_); refine box_event ?hg (N := 3) ?hd (cs := #[.int .i64 0, .bool false]) (t := 23) ?hr ?_; (case hd => rfl); (case hg => rfl); (case hr => first | (go_simp; done) | (go_simp; rfl)); intro gb442 hg w8 hbox hb; have n0_ := Aside0.mk (below_step (by repeat (first | (with_reducible first | exact HB.out | apply below_alloc | apply pw_below_drewN | apply below_drew1) | exact HB.out)) hb); have n1_ := Aside0.mk (hbox); have n2_ := Aside0.mk ((by rw [hg]; exact (below_size (by repeat (first | (with_reducible first | exact HB.out | apply below_alloc | apply pw_below_drewN | apply below_drew1) | exact HB.out))) : w.heap.size ≤ gb442)); have n3_ := Aside0.mk ((by rw [hg]; exact (below_size (by repeat (first | (with_reducible first | exact HB.out | apply below_alloc | apply pw_below_drewN | apply below_drew1) | exact HB.out))) : w.heap.size ≤ gb442)); clear HB; have HB := n0_; have BK442 := n1_; have GW442 := n2_; have GE442 := n3_; clear n0_ n1_ n2_ n3_; clear hb hbox hg; have hcz9_0 : w8.cell? ⟨gb442, 0, none⟩ = some (.int .i64 0) := (blk_cell BK442.out 0).trans rfl; have hcz9_1 : w8.cell? ⟨gb442, 1, none⟩ = some (.bool false) := (blk_cell BK442.out 1).trans rfl; have hfz9_0 := blk_frozen BK442.out 0; have hfz9_1 := blk_frozen BK442.out 1))
    go_ret
    exact ⟨by first | rfl | (simp [errW_none, errW_some] <;> rfl) | (simp [*, errW_none, errW_some] <;> rfl), by repeat (first | (with_reducible first | exact HB.out | apply below_alloc | apply pw_below_drewN | apply below_drew1 | refine below_set ?_ GE442.out) | exact HB.out)⟩
end Go.Proofs.Ytenpiaafkmfjfaa.B

end
