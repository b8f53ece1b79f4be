/- FixedBack: part 4 of the proof. -/
import Derived.Test.YtenpiaafkmfjfaaQFixedBack3
section
namespace Go.Proofs.Ytenpiaafkmfjfaa.B
open Go.RowKit Go.Proofs.YtenpiaafkmfjfaaW.PrintWords Go.Proofs.YtenpiaafkmfjfaaW.PrintLast Go.Proofs.YtenpiaafkmfjfaaW.PrintMore
attribute [local go_sem] max2_int min2_int max_two min_two max_three min_three max_four min_four
set_option linter.unusedVariables false
set_option linter.unusedSimpArgs false
mutual
def fixed_Parse.j0 : Nat → ByteArray → ByteArray → Bool → ByteArray → Bool → Option (Int × Bool × Int)
  | 0, _, _, _, _, _ => none
  | k + 1, x0, x4, x5, x6, x35 => if x35 = true then (some (0, false, 4)) else (fixed_Parse.l0 k x0 x4 x5 x6 0 (x6.size : Int) 0)
def fixed_Parse.l0 : Nat → ByteArray → ByteArray → Bool → ByteArray → Int → Int → Int → Option (Int × Bool × Int)
  | 0, _, _, _, _, _, _, _ => none
  | k + 1, x0, x4, x5, x6, x7, x38, x39 => if x39 < x38 then (if 0 ≤ x39 then (if x39 < (x6.size : Int) then (fixed_Parse.l0 k x0 x4 x5 x6 (IntKind.u64.wrap ((IntKind.u64.wrap (10 * x7)) + (((bt x6 x39) - 48) % 256))) x38 (wrap64 (x39 + 1))) else (none)) else (none)) else (if x7 ≥ 2147483648 then (some (0, false, 4)) else ((strings_CutPrefix.f x4 (⟨#[46]⟩ : ByteArray)).bind fun bt430 => (if bt430.2 = true then ((fixed_figures.f k bt430.1).bind fun bt432 => ((fixed_bits32.f bt432.1).bind fun t434 => (fixed_Parse.j2 k x0 bt432.2 x5 (Go.bits .or .i64 (wrap64 (IntKind.u64.wrap (x7 * 4294967296))) (wrap64 (t434))) false))) else (fixed_Parse.j2 k x0 x4 x5 (wrap64 (IntKind.u64.wrap (x7 * 4294967296))) false))))
def fixed_Parse.j2 : Nat → ByteArray → ByteArray → Bool → Int → Bool → Option (Int × Bool × Int)
  | 0, _, _, _, _, _ => none
  | k + 1, x0, x4, x5, x430000, x430001 => if x5 = true then ((fixed_Text.f (wrap64 (-x430000)) (x4.toList != ([] : List UInt8))).bind fun t435 => (if t435.toList = x0.toList then (some (wrap64 (-x430000), (x4.toList != ([] : List UInt8)), 0)) else (some (0, false, 4)))) else ((fixed_Text.f x430000 (x4.toList != ([] : List UInt8))).bind fun t436 => (if t436.toList = x0.toList then (some (x430000, (x4.toList != ([] : List UInt8)), 0)) else (some (0, false, 4))))
end
def fixed_Parse.f (k : Nat) (a0 : ByteArray) : Option (Int × Bool × Int) := (strings_CutPrefix.f a0 (⟨#[45]⟩ : ByteArray)).bind fun bt425 => ((fixed_figures.f k bt425.1).bind fun bt427 => (if (bt427.1.size : Int) < 1 then (fixed_Parse.j0 k a0 bt427.2 bt425.2 bt427.1 true) else (if (bt427.1.size : Int) > 10 then (fixed_Parse.j0 k a0 bt427.2 bt425.2 bt427.1 true) else (fixed_Parse.j0 k a0 bt427.2 bt425.2 bt427.1 (decide ((a0.size : Int) > 50))))))
def fixed_Parse.T18 : Bool × List (List Nat × List Nat) := (true, [([], []), ([0], [0]), ([], []), ([2], [2]), ([3], [3]), ([1, 4], [1, 4]), ([0, 1, 2, 3, 4, 5], []), ([6, 5, 3, 0, 1, 2, 3, 4, 5], [5, 6])])
def fixed_Parse.B18 : List Nat := [0, 1, 0, 4, 12, 31, 63, 127]
theorem fixed_Parse.tab18 : rtab .any (opsOf Try.f51 18) = fixed_Parse.T18 := by kernel_rfl
theorem fixed_Parse.bits18 : waitsOk fixed_Parse.T18.2 fixed_Parse.B18 = true := by kernel_rfl
set_option maxHeartbeats 8000000 in
set_option maxRecDepth 100000 in
theorem fixed_Parse.calls (k : Nat) (a0 : ByteArray) (r1 : Int) (r2 : Bool) (r3 : Int) (w : World) (h : fixed_Parse.f k a0 = some (r1, r2, r3)) :
    Calls Try.prog 51 #[.string a0] w fun e w' => e = .returned (.tuple #[.agg #[.int .i64 r1, .bool r2], .int .i64 r3]) ∧ Below w.heap.size w w' := by
  have hu23 := Try.underlying23
  have HB := Aside0.mk (Below.refl w.heap.size w)
  have H : ((strings_CutPrefix.f a0 (⟨#[45]⟩ : ByteArray)).bind fun bt425 => ((fixed_figures.f k bt425.1).bind fun bt427 => (if (bt427.1.size : Int) < 1 then (fixed_Parse.j0 k a0 bt427.2 bt425.2 bt427.1 true) else (if (bt427.1.size : Int) > 10 then (fixed_Parse.j0 k a0 bt427.2 bt425.2 bt427.1 true) else (fixed_Parse.j0 k a0 bt427.2 bt425.2 bt427.1 (decide ((a0.size : Int) > 50))))))) = some (r1, r2, r3) := h
  clear h
  replace H := Option.bind_eq_some_iff.mp H
  obtain ⟨⟨t425, t426⟩, A20, H⟩ := H
  replace H : ((fixed_figures.f k t425).bind fun bt427 => (if (bt427.1.size : Int) < 1 then (fixed_Parse.j0 k a0 bt427.2 t426 bt427.1 true) else (if (bt427.1.size : Int) > 10 then (fixed_Parse.j0 k a0 bt427.2 t426 bt427.1 true) else (fixed_Parse.j0 k a0 bt427.2 t426 bt427.1 (decide ((a0.size : Int) > 50)))))) = some (r1, r2, r3) := H
  have A2 := Aside0.mk A20
  clear A20
  replace H := Option.bind_eq_some_iff.mp H
  obtain ⟨⟨t427, t428⟩, A30, H⟩ := H
  replace H : (if (t427.size : Int) < 1 then (fixed_Parse.j0 k a0 t428 t426 t427 true) else (if (t427.size : Int) > 10 then (fixed_Parse.j0 k a0 t428 t426 t427 true) else (fixed_Parse.j0 k a0 t428 t426 t427 (decide ((a0.size : Int) > 50))))) = some (r1, r2, r3) := H
  have A3 := Aside0.mk A30
  clear A30
  have HC4 := Aside0.mk H
  clear H
  go_enter Try.func51, Try.ntmps51
  go_upto_region 3 with (first | ((with_reducible refine gate_dst (N := 2) rfl ?_); (try (refine gate_guard (by rfl) ?_; dsimp only)); refine box_event ?hg (N := 2) ?hd (cs := #[.int .i64 0, .bool false]) (t := 23) ?hr ?_; (case hd => rfl); (case hg => rfl); (case hr => first | (go_simp; done) | (go_simp; rfl)); intro gb424 hg w5 hbox hb; have n0_ := Aside0.mk (below_step (by repeat (first | (with_reducible first | exact HB.out | apply below_alloc | apply pw_below_drewN | apply below_drew1) | exact HB.out)) hb); have n1_ := Aside0.mk (hbox); have n2_ := Aside0.mk ((by rw [hg]; exact (below_size (by repeat (first | (with_reducible first | exact HB.out | apply below_alloc | apply pw_below_drewN | apply below_drew1) | exact HB.out))) : w.heap.size ≤ gb424)); have n3_ := Aside0.mk ((by rw [hg]; exact (below_size (by repeat (first | (with_reducible first | exact HB.out | apply below_alloc | apply pw_below_drewN | apply below_drew1) | exact HB.out))) : w.heap.size ≤ gb424)); clear HB; have HB := n0_; have BK424 := n1_; have GW424 := n2_; have GE424 := n3_; clear n0_ n1_ n2_ n3_; clear hb hbox hg) | ((with_reducible refine gate_callee (f := 92) rfl ?_); refine goesL_ (some 15) rfl rfl Try.func92 (by kernel_rfl) rfl #[.string a0, .string (⟨#[45]⟩ : ByteArray)] rfl (by (try simp only [List.map_toArray, List.map_cons, List.map_nil]); first | done | rfl | (simp only [List.length_drop, List.length_take]; rfl)) ?_; (with_reducible refine (strings_CutPrefix.calls a0 (⟨#[45]⟩ : ByteArray) t425 t426 _ A2.out).mono ?_); rintro e w' ⟨rfl, ⟨nd, rfl⟩⟩; refine ⟨_, rfl, ?_⟩) | ((with_reducible refine gate_callee (f := 93) rfl ?_); refine goesL_ (some 20) rfl rfl Try.func93 (by kernel_rfl) rfl #[.string t425] rfl (by (try simp only [List.map_toArray, List.map_cons, List.map_nil]); first | done | rfl | (simp only [List.length_drop, List.length_take]; rfl)) ?_; (with_reducible refine (fixed_figures.calls k t425 t427 t428 _ A3.out).mono ?_); rintro e w' ⟨rfl, ⟨nd, rfl⟩⟩; refine ⟨_, rfl, ?_⟩))
  (try simp only [Act.put, List.setIfInBounds_toArray, List.set_cons_zero, List.set_cons_succ])
  go_cut [35] (fun v35 wc => ∃ (kq : Nat) (x35_3 : Bool), v35 = .bool x35_3 ∧ Aside0 (fixed_Parse.j0 kq a0 t428 t426 t427 x35_3 = some (r1, r2, r3)) ∧ Aside0 (kq ≤ k) ∧ Aside0 (wc.heap[gb424]? = some (.cells #[.int .i64 0, .bool false] 23 (0, 0))) ∧ Aside0 (Below w.heap.size w wc))
  case first =>
    have H := HC4.out
    clear HC4
    by_cases c6 : (t427.size : Int) < 1
    · rw [if_pos c6] at H
      have c6b0 : decide ((t427.size : Int) < 1) = true := decide_eq_true c6
      have c6b1 : decide (t427.size < 1) = true := decide_eq_true (by omega)
      clear c6
      (first | rw [c6b0] | (simp only [i64_w, i32_w]; rw [c6b0]) | skip)
      have H' := Aside0.mk H
      clear H
      go_wp2
      go_meet
      case rel => exact ⟨_, (true), (by first | rfl | (simp; done) | (simp [*]; done)), H', ⟨by first | omega | exact Nat.le_refl _⟩, ⟨by (with_reducible repeat (first | refine blk_drewN ?_ _ | refine blk_drew ?_ | refine blk_alloc ?_ _)); exact BK424.out⟩, ⟨by repeat (first | (with_reducible first | exact HB.out | apply below_alloc | apply pw_below_drewN | apply below_drew1 | refine below_set ?_ GE424.out) | exact HB.out)⟩⟩
    · rw [if_neg c6] at H
      have c6b0 : decide ((t427.size : Int) < 1) = false := decide_eq_false c6
      have c6b1 : decide (t427.size < 1) = false := decide_eq_false (by omega)
      clear c6
      (first | rw [c6b0] | (simp only [i64_w, i32_w]; rw [c6b0]) | skip)
      by_cases c7 : (t427.size : Int) > 10
      · rw [if_pos c7] at H
        have c7b0 : decide (10 < (t427.size : Int)) = true := decide_eq_true c7
        have c7b1 : decide (10 < t427.size) = true := decide_eq_true (by omega)
        clear c7
        have H' := Aside0.mk H
        clear H
        go_wp2
        go_meet
        case rel => exact ⟨_, (true), (by first | rfl | (simp; done) | (simp [*]; done)), H', ⟨by first | omega | exact Nat.le_refl _⟩, ⟨by (with_reducible repeat (first | refine blk_drewN ?_ _ | refine blk_drew ?_ | refine blk_alloc ?_ _)); exact BK424.out⟩, ⟨by repeat (first | (with_reducible first | exact HB.out | apply below_alloc | apply pw_below_drewN | apply below_drew1 | refine below_set ?_ GE424.out) | exact HB.out)⟩⟩
      · rw [if_neg c7] at H
        have c7b0 : decide (10 < (t427.size : Int)) = false := decide_eq_false c7
        have c7b1 : decide (10 < t427.size) = false := decide_eq_false (by omega)
        clear c7
        have H' := Aside0.mk H
        clear H
        go_wp2
        go_meet
        case rel => exact ⟨_, (decide ((a0.size : Int) > 50)), (by first | rfl | (simp; done) | (simp [*]; done)), H', ⟨by first | omega | exact Nat.le_refl _⟩, ⟨by (with_reducible repeat (first | refine blk_drewN ?_ _ | refine blk_drew ?_ | refine blk_alloc ?_ _)); exact BK424.out⟩, ⟨by repeat (first | (with_reducible first | exact HB.out | apply below_alloc | apply pw_below_drewN | apply below_drew1 | refine below_set ?_ GE424.out) | exact HB.out)⟩⟩
  case rest =>
    clear HC4
    try clear p2
    try clear c5
    try clear c6
    try clear c6b0
    try clear c6b1
    try clear c7
    try clear c7b0
    try clear c7b1
    obtain ⟨kq, x35_3, rfl, HA, HJ3, BK424, HB⟩ := hcut
    cases kq with
    | zero => exact absurd HA.out (by simp [fixed_Parse.j0])
    | succ kj3 =>
      have H := HA.out
      clear HA
      simp only [fixed_Parse.j0] at H
      by_cases c8 : x35_3 = true
      · subst c8
        have H1 : (some (0, false, 4)) = some (r1, r2, r3) := by rw [if_pos rfl] at H; exact H
        clear H
        have H := H1
        clear H1
        simp only [Option.some.injEq, Prod.mk.injEq] at H
        obtain ⟨rfl, rfl, rfl⟩ := H
        have hcz9_0 : wc.cell? ⟨gb424, 0, none⟩ = some (.int .i64 0) := (blk_cell BK424.out 0).trans rfl
        have hcz9_1 : wc.cell? ⟨gb424, 1, none⟩ = some (.bool false) := (blk_cell BK424.out 1).trans rfl
        have hfz9_0 := blk_frozen BK424.out 0
        have hfz9_1 := blk_frozen BK424.out 1
        go_wp2
        refine bodyPost_ret (results_ct rfl _ _ gb424 23 #[.int .i64 0, .bool false] (0, 0) _ rfl (by (with_reducible repeat (first | refine blk_drewN ?_ _ | refine blk_drew ?_ | refine blk_alloc ?_ _)); refine blk_put (cs := #[.int .i64 0, .bool false]) ?_ 1 _ rfl; (with_reducible repeat (first | refine blk_drewN ?_ _ | refine blk_drew ?_ | refine blk_alloc ?_ _)); refine blk_put (cs := #[.int .i64 0, .bool false]) ?_ 0 _ rfl; (with_reducible repeat (first | refine blk_drewN ?_ _ | refine blk_drew ?_ | refine blk_alloc ?_ _)); exact BK424.out) Try.underlying23 rfl (by kernel_rfl)) rfl ?_
        exact ⟨by first | rfl | (simp [errW_none, errW_some] <;> rfl) | (simp [*, errW_none, errW_some] <;> rfl), by repeat (first | (with_reducible first | exact HB.out | apply below_alloc | apply pw_below_drewN | apply below_drew1 | refine below_set ?_ GE424.out) | exact HB.out)⟩
      · replace c8 := Bool.eq_false_iff.mpr c8
        subst c8
        have H1 : (fixed_Parse.l0 kj3 a0 t428 t426 t427 0 (t427.size : Int) 0) = some (r1, r2, r3) := by rw [if_neg (show ¬ (false = true) by decide)] at H; exact H
        clear H
        have H := H1
        clear H1
        have H' := Aside0.mk H
        clear H
        go_wp2
        go_loopg [7, 39] kj3 (fun kq v7 v39 w' => ∃ (x7_2 : Int) (x39_2 : Int), v7 = .int .u64 x7_2 ∧ v39 = .int .i64 x39_2 ∧ Aside0 (fixed_Parse.l0 kq a0 t428 t426 t427 x7_2 (t427.size : Int) x39_2 = some (r1, r2, r3)) ∧ Aside0 (kq ≤ kj3) ∧ Aside0 (w'.heap[gb424]? = some (.cells #[.int .i64 0, .bool false] 23 (0, 0))) ∧ Aside0 (Below w.heap.size w w'))
        case atStart => exact ⟨(0), (0), (by first | rfl | (simp; done) | (simp [*]; done)), (by first | rfl | (simp; done) | (simp [*]; done)), H', ⟨Nat.le_refl _⟩, ⟨by (with_reducible repeat (first | refine blk_drewN ?_ _ | refine blk_drew ?_ | refine blk_alloc ?_ _)); exact BK424.out⟩, ⟨by repeat (first | (with_reducible first | exact HB.out | apply below_alloc | apply pw_below_drewN | apply below_drew1 | refine below_set ?_ GE424.out) | exact HB.out)⟩⟩
        case round =>
          clear H'
          try clear p2
          try clear c5
          try clear c6
          try clear c6b0
          try clear c6b1
          try clear c7
          try clear c7b0
          try clear c7b1
          try clear c8
          try clear c9
          try clear hcz9_0
          try clear hcz9_1
          try clear hfz9_0
          try clear hfz9_1
          try clear p2
          obtain ⟨x7_2, x39_2, rfl, rfl, HA, HK2, BK424, HB⟩ := hrel
          cases gk with
          | zero => exact absurd HA.out (by simp [fixed_Parse.l0])
          | succ k2 =>
            have H := HA.out
            clear HA
            simp only [fixed_Parse.l0] at H
            by_cases c10 : x39_2 < (t427.size : Int)
            · rw [if_pos c10] at H
              have c10b0 : decide (x39_2 < (t427.size : Int)) = true := decide_eq_true c10
              clear c10
              by_cases c11 : 0 ≤ x39_2
              · rw [if_pos c11] at H
                have c11b0 : decide (0 ≤ x39_2) = true := decide_eq_true c11
                clear c11
                by_cases c12 : x39_2 < (t427.size : Int)
                · rw [if_pos c12] at H
                  have c12b0 : decide (x39_2 < (t427.size : Int)) = true := decide_eq_true c12
                  clear c12
                  have H' := Aside0.mk H
                  clear H
                  have p13 : 0 ≤ (x39_2 : Int) := of_decide_eq_true (by first | (with_reducible assumption) | assumption)
                  have q13 : x39_2 < (t427.size : Int) := of_decide_eq_true (by first | (with_reducible assumption) | assumption)
                  have hx13 := bt_at t427 x39_2
                  replace p13 := eq_true p13
                  replace q13 := eq_true q13
                  go_wp2
                  go_roundg k2
                  case measure => have := HJ3.out; have := HK2.out; omega
                  case rel => exact ⟨(IntKind.u64.wrap ((IntKind.u64.wrap (10 * x7_2)) + (((bt t427 x39_2) - 48) % 256))), (wrap64 (x39_2 + 1)), (by first | rfl | (simp; done) | (simp [*]; done)), (by first | rfl | (simp; done) | (simp [*]; done)), H', ⟨by have := HJ3.out; have := HK2.out; omega⟩, ⟨by (with_reducible repeat (first | refine blk_drewN ?_ _ | refine blk_drew ?_ | refine blk_alloc ?_ _)); exact BK424.out⟩, ⟨by repeat (first | (with_reducible first | exact HB.out | apply below_alloc | apply pw_below_drewN | apply below_drew1 | refine below_set ?_ GE424.out) | exact HB.out)⟩⟩
                · rw [if_neg c12] at H
                  exact absurd H (by simp)
              · rw [if_neg c11] at H
                exact absurd H (by simp)
            · rw [if_neg c10] at H
              have c10b0 : decide (x39_2 < (t427.size : Int)) = false := decide_eq_false c10
              clear c10
              by_cases c14 : x7_2 ≥ 2147483648
              · rw [if_pos c14] at H
                have c14b0 : decide (2147483648 ≤ x7_2) = true := decide_eq_true c14
                clear c14
                simp only [Option.some.injEq, Prod.mk.injEq] at H
                obtain ⟨rfl, rfl, rfl⟩ := H
                have hcz15_0 : wr.cell? ⟨gb424, 0, none⟩ = some (.int .i64 0) := (blk_cell BK424.out 0).trans rfl
                have hcz15_1 : wr.cell? ⟨gb424, 1, none⟩ = some (.bool false) := (blk_cell BK424.out 1).trans rfl
                have hfz15_0 := blk_frozen BK424.out 0
                have hfz15_1 := blk_frozen BK424.out 1
                go_wp2
                refine bodyPost_ret (results_ct rfl _ _ gb424 23 #[.int .i64 0, .bool false] (0, 0) _ rfl (by (with_reducible repeat (first | refine blk_drewN ?_ _ | refine blk_drew ?_ | refine blk_alloc ?_ _)); refine blk_put (cs := #[.int .i64 0, .bool false]) ?_ 1 _ rfl; (with_reducible repeat (first | refine blk_drewN ?_ _ | refine blk_drew ?_ | refine blk_alloc ?_ _)); refine blk_put (cs := #[.int .i64 0, .bool false]) ?_ 0 _ rfl; (with_reducible repeat (first | refine blk_drewN ?_ _ | refine blk_drew ?_ | refine blk_alloc ?_ _)); exact BK424.out) Try.underlying23 rfl (by kernel_rfl)) rfl ?_
                exact ⟨by first | rfl | (simp [errW_none, errW_some] <;> rfl) | (simp [*, errW_none, errW_some] <;> rfl), by repeat (first | (with_reducible first | exact HB.out | apply below_alloc | apply pw_below_drewN | apply below_drew1 | refine below_set ?_ GE424.out) | exact HB.out)⟩
              · rw [if_neg c14] at H
                have c14b0 : decide (2147483648 ≤ x7_2) = false := decide_eq_false c14
                clear c14
                replace H := Option.bind_eq_some_iff.mp H
                obtain ⟨⟨t430, t431⟩, A160, H⟩ := H
                replace H : (if t431 = true then ((fixed_figures.f k2 t430).bind fun bt432 => ((fixed_bits32.f bt432.1).bind fun t434 => (fixed_Parse.j2 k2 a0 bt432.2 t426 (Go.bits .or .i64 (wrap64 (IntKind.u64.wrap (x7_2 * 4294967296))) (wrap64 (t434))) false))) else (fixed_Parse.j2 k2 a0 t428 t426 (wrap64 (IntKind.u64.wrap (x7_2 * 4294967296))) false)) = some (r1, r2, r3) := H
                have A16 := Aside0.mk A160
                clear A160
                have HC17 := Aside0.mk H
                clear H
                go_upto_if 63 with (first | ((with_reducible refine gate_dst (N := 9) rfl ?_); (try (refine gate_guard (by rfl) ?_; dsimp only)); refine box_event ?hg (N := 9) ?hd (cs := #[.int .i64 0, .bool false]) (t := 23) ?hr ?_; (case hd => rfl); (case hg => rfl); (case hr => first | (go_simp; done) | (go_simp; rfl)); intro gb429 hg w18 hbox hb; have n0_ := Aside0.mk (blk_below (g := gb424) (o := .cells #[.int .i64 0, .bool false] 23 (0, 0)) (by (with_reducible repeat (first | refine blk_drewN ?_ _ | refine blk_drew ?_ | refine blk_alloc ?_ _)); exact BK424.out) hb); have n1_ := Aside0.mk (below_step (by repeat (first | (with_reducible first | exact HB.out | apply below_alloc | apply pw_below_drewN | apply below_drew1 | refine below_set ?_ GE424.out) | exact HB.out)) hb); have n2_ := Aside0.mk (hbox); have n3_ := Aside0.mk ((by rw [hg]; exact (below_size (by repeat (first | (with_reducible first | exact HB.out | apply below_alloc | apply pw_below_drewN | apply below_drew1 | refine below_set ?_ GE424.out) | exact HB.out))) : w.heap.size ≤ gb429)); have n4_ := Aside0.mk ((by rw [hg]; exact (below_size (by repeat (first | (with_reducible first | exact HB.out | apply below_alloc | apply pw_below_drewN | apply below_drew1 | refine below_set ?_ GE424.out) | exact HB.out))) : w.heap.size ≤ gb429)); have n5_ := Aside0.mk ((by rw [hg]; exact Nat.ne_of_lt (blk_lt (g := gb424) (o := .cells #[.int .i64 0, .bool false] 23 (0, 0)) (by (with_reducible repeat (first | refine blk_drewN ?_ _ | refine blk_drew ?_ | refine blk_alloc ?_ _)); exact BK424.out)) : gb424 ≠ gb429)); have n6_ := Aside0.mk ((by rw [hg]; exact Nat.ne_of_gt (blk_lt (g := gb424) (o := .cells #[.int .i64 0, .bool false] 23 (0, 0)) (by (with_reducible repeat (first | refine blk_drewN ?_ _ | refine blk_drew ?_ | refine blk_alloc ?_ _)); exact BK424.out)) : gb429 ≠ gb424)); clear BK424; clear HB; have BK424 := n0_; have HB := n1_; have BK429 := n2_; have GW429 := n3_; have GE429 := n4_; have NB424_429 := n5_; have NB429_424 := n6_; clear n0_ n1_ n2_ n3_ n4_ n5_ n6_; clear hb hbox hg; have hnb19 := NB429_424.out; have hnc19 := NB424_429.out; have hcz20_0 : w18.cell? ⟨gb429, 0, none⟩ = some (.int .i64 0) := (blk_cell BK429.out 0).trans rfl; have hcz20_1 : w18.cell? ⟨gb429, 1, none⟩ = some (.bool false) := (blk_cell BK429.out 1).trans rfl; have hfz20_0 := blk_frozen BK429.out 0; have hfz20_1 := blk_frozen BK429.out 1) | ((with_reducible refine gate_callee (f := 92) rfl ?_); refine goesL_ (some 60) rfl rfl Try.func92 (by kernel_rfl) rfl #[.string t428, .string (⟨#[46]⟩ : ByteArray)] rfl (by (try simp only [List.map_toArray, List.map_cons, List.map_nil]); first | done | rfl | (simp only [List.length_drop, List.length_take]; rfl)) ?_; (with_reducible refine (strings_CutPrefix.calls t428 (⟨#[46]⟩ : ByteArray) t430 t431 _ A16.out).mono ?_); rintro e w' ⟨rfl, ⟨nd, rfl⟩⟩; refine ⟨_, rfl, ?_⟩))
                (try simp only [Act.put, List.setIfInBounds_toArray, List.set_cons_zero, List.set_cons_succ])
                go_cut [4] (fun v4 wc => ∃ (kq : Nat) (x4_16 : ByteArray) (x430000_16 : Int), v4 = .string x4_16 ∧ Aside0 (fixed_Parse.j2 kq a0 x4_16 t426 x430000_16 false = some (r1, r2, r3)) ∧ Aside0 (kq ≤ k2) ∧ Aside0 (wc.heap[gb424]? = some (.cells #[.int .i64 0, .bool false] 23 (0, 0))) ∧ Aside0 (wc.heap[gb429]? = some (.cells #[.int .i64 x430000_16, .bool false] 23 (0, 0))) ∧ Aside0 (Below w.heap.size w wc))
                case first =>
                  have H := HC17.out
                  clear HC17
                  by_cases c21 : t431 = true
                  · subst c21
                    have H1 : ((fixed_figures.f k2 t430).bind fun bt432 => ((fixed_bits32.f bt432.1).bind fun t434 => (fixed_Parse.j2 k2 a0 bt432.2 t426 (Go.bits .or .i64 (wrap64 (IntKind.u64.wrap (x7_2 * 4294967296))) (wrap64 (t434))) false))) = some (r1, r2, r3) := by rw [if_pos rfl] at H; exact H
                    clear H
                    have H := H1
                    clear H1
                    replace H := Option.bind_eq_some_iff.mp H
                    obtain ⟨⟨t432, t433⟩, A220, H⟩ := H
                    replace H : ((fixed_bits32.f t432).bind fun t434 => (fixed_Parse.j2 k2 a0 t433 t426 (Go.bits .or .i64 (wrap64 (IntKind.u64.wrap (x7_2 * 4294967296))) (wrap64 (t434))) false)) = some (r1, r2, r3) := H
                    have A22 := Aside0.mk A220
                    clear A220
                    replace H := Option.bind_eq_some_iff.mp H
                    obtain ⟨t434, A230, H⟩ := H
                    replace H : (fixed_Parse.j2 k2 a0 t433 t426 (Go.bits .or .i64 (wrap64 (IntKind.u64.wrap (x7_2 * 4294967296))) (wrap64 (t434))) false) = some (r1, r2, r3) := H
                    have A23 := Aside0.mk A230
                    clear A230
                    have H' := Aside0.mk H
                    clear H
                    try go_wp2_with (first | ((with_reducible refine gate_callee (f := 93) rfl ?_); refine goesL_ (some 66) rfl rfl Try.func93 (by kernel_rfl) rfl #[.string t430] rfl (by (try simp only [List.map_toArray, List.map_cons, List.map_nil]); first | done | rfl | (simp only [List.length_drop, List.length_take]; rfl)) ?_; (with_reducible refine (fixed_figures.calls k2 t430 t432 t433 _ A22.out).mono ?_); rintro e w' ⟨rfl, ⟨nd, rfl⟩⟩; refine ⟨_, rfl, ?_⟩))
                    have n0_ : Aside0 (((w18.setCell ⟨gb429, 0, none⟩ (.int .i64 (wrap64 (IntKind.u64.wrap (x7_2 * 4294967296))))).setCell ⟨gb429, 1, none⟩ (.bool false)).heap[gb424]? = some (.cells #[.int .i64 0, .bool false] 23 (0, 0))) := ⟨by (with_reducible repeat (first | refine blk_drewN ?_ _ | refine blk_drew ?_ | refine blk_alloc ?_ _)); refine blk_far ?_ NB424_429.out _; (with_reducible repeat (first | refine blk_drewN ?_ _ | refine blk_drew ?_ | refine blk_alloc ?_ _)); refine blk_far ?_ NB424_429.out _; (with_reducible repeat (first | refine blk_drewN ?_ _ | refine blk_drew ?_ | refine blk_alloc ?_ _)); exact BK424.out⟩
                    have n1_ : Aside0 (((w18.setCell ⟨gb429, 0, none⟩ (.int .i64 (wrap64 (IntKind.u64.wrap (x7_2 * 4294967296))))).setCell ⟨gb429, 1, none⟩ (.bool false)).heap[gb429]? = some (.cells #[.int .i64 (wrap64 (IntKind.u64.wrap (x7_2 * 4294967296))), .bool false] 23 (0, 0))) := ⟨by (with_reducible repeat (first | refine blk_drewN ?_ _ | refine blk_drew ?_ | refine blk_alloc ?_ _)); refine blk_put (cs := #[.int .i64 (wrap64 (IntKind.u64.wrap (x7_2 * 4294967296))), .bool false]) ?_ 1 _ rfl; (with_reducible repeat (first | refine blk_drewN ?_ _ | refine blk_drew ?_ | refine blk_alloc ?_ _)); refine blk_put (cs := #[.int .i64 0, .bool false]) ?_ 0 _ rfl; (with_reducible repeat (first | refine blk_drewN ?_ _ | refine blk_drew ?_ | refine blk_alloc ?_ _)); exact BK429.out⟩
                    have n2_ : Aside0 (Below w.heap.size w ((w18.setCell ⟨gb429, 0, none⟩ (.int .i64 (wrap64 (IntKind.u64.wrap (x7_2 * 4294967296))))).setCell ⟨gb429, 1, none⟩ (.bool false))) := ⟨by repeat (first | (with_reducible first | exact HB.out | apply below_alloc | apply pw_below_drewN | apply below_drew1 | refine below_set ?_ GE424.out | refine below_set ?_ GE429.out) | exact HB.out)⟩
                    (try clear BK424)
                    (try clear BK429)
                    (try clear HB)
                    generalize ((w18.setCell ⟨gb429, 0, none⟩ (.int .i64 (wrap64 (IntKind.u64.wrap (x7_2 * 4294967296))))).setCell ⟨gb429, 1, none⟩ (.bool false)) = w24 at n0_ n1_ n2_ ⊢
                    have BK424 := n0_
                    have BK429 := n1_
                    have HB := n2_
                    clear n0_ n1_ n2_
                    (try (rw [drewN_self w24]; generalize hq_ : World.drewN w24 _ = w24; have n0_ : Aside0 (w24.heap[gb424]? = some (.cells #[.int .i64 0, .bool false] 23 (0, 0))) := ⟨by rw [← hq_]; exact (by (with_reducible repeat (first | refine blk_drewN ?_ _ | refine blk_drew ?_ | refine blk_alloc ?_ _)); exact BK424.out)⟩; have n1_ : Aside0 (w24.heap[gb429]? = some (.cells #[.int .i64 (wrap64 (IntKind.u64.wrap (x7_2 * 4294967296))), .bool false] 23 (0, 0))) := ⟨by rw [← hq_]; exact (by (with_reducible repeat (first | refine blk_drewN ?_ _ | refine blk_drew ?_ | refine blk_alloc ?_ _)); exact BK429.out)⟩; have n2_ : Aside0 (Below w.heap.size w w24) := ⟨by rw [← hq_]; exact (by repeat (first | (with_reducible first | exact HB.out | apply below_alloc | apply pw_below_drewN | apply below_drew1 | refine below_set ?_ GE424.out | refine below_set ?_ GE429.out) | exact HB.out))⟩; clear BK424 BK429 HB hq_; have BK424 := n0_; have BK429 := n1_; have HB := n2_; clear n0_ n1_ n2_))
                    have n0_ := Aside0.mk (blk_drew BK424.out)
                    have n1_ := Aside0.mk (blk_drew BK429.out)
                    have n2_ := Aside0.mk (below_drew1 HB.out)
                    clear BK424
                    clear BK429
                    clear HB
                    have BK424 := n0_
                    have BK429 := n1_
                    have HB := n2_
                    clear n0_ n1_ n2_
                    refine start_ (n := 8) (S := fun w' => w'.cell? ⟨gb429, 0, none⟩ = some (.int .i64 (wrap64 (IntKind.u64.wrap (x7_2 * 4294967296)))) ∧ w'.cell? ⟨gb429, 1, none⟩ = some (.bool false)) (ds := [7]) #[false, false, false, false, false, false, false, false] (by kernel_rfl) rfl rfl ⟨(blk_cell BK429.out 0).trans rfl, (blk_cell BK429.out 1).trans rfl⟩ (fun hHeld => ?_); refine with_tabW fixed_Parse.tab18 fixed_Parse.bits18 (fun HT_ HW_ => ?_)
                    generalize w24.drew = w25 at BK424 BK429 HB hHeld ⊢
                    refine pure_ (i := 0) (N := some 69) (v := ?_) (a' := ?_) #[true, false, false, false, false, false, false, false] rfl rfl (any_of HT_.out (by kernel_rfl)) (fun _ _ _ h => h) (Or.inl ⟨by rfl, ?_⟩) ?_ ?_
                    rotate_left
                    · intro w'
                      go_simp
                      with_reducible rfl
                    rotate_left
                    · simp only [Act.put, List.setIfInBounds_toArray, List.set_cons_zero, List.set_cons_succ, i64_w, i32_w]
                      rfl
                    refine pure_ (i := 2) (N := some 71) (v := ?_) (a' := ?_) #[true, false, true, false, false, false, false, false] rfl rfl (any_of HT_.out (by kernel_rfl)) (fun _ _ _ h => h) (Or.inl ⟨by rfl, ?_⟩) ?_ ?_
                    rotate_left
                    · intro w'
                      go_simp
                      with_reducible rfl
                    rotate_left
                    · simp only [Act.put, List.setIfInBounds_toArray, List.set_cons_zero, List.set_cons_succ, i64_w, i32_w]
                      rfl
                    refine take_ (i := 1) (N := some 70) (v := ?_) (a' := ?_) #[true, true, true, false, false, false, false, false] rfl rfl (take_ofW HT_.out HW_.out (by kernel_rfl)) (fun _ _ _ h => h) (Or.inl ⟨by rfl, ?_⟩) hHeld ?_ ?_
                    rotate_left
                    · rintro w' ⟨s0, s1⟩
                      go_simp
                      with_reducible rfl
                    rotate_left
                    · simp only [Act.put, List.setIfInBounds_toArray, List.set_cons_zero, List.set_cons_succ, i64_w, i32_w]
                      rfl
                    refine one_ (i := 3) (N := some 72) #[true, true, true, true, false, false, false, false] rfl rfl (one_of HT_.out (by kernel_rfl)) (by decide) (fun K hK => ?_)
                    refine goes_ Try.func94 (by kernel_rfl) rfl #[.string t432] (by rfl) rfl rfl (by (try simp only [List.map_toArray, List.map_cons, List.map_nil]); first | done | rfl | (simp only [List.length_drop, List.length_take]; rfl)) ?_
                    with_reducible refine (fixed_bits32.calls t432 t434 _ A23.out).mono ?_
                    rintro e w26 ⟨rfl, hb⟩
                    refine ⟨_, rfl, ?_⟩
                    have n0_ := Aside0.mk (blk_below (g := gb424) (o := .cells #[.int .i64 0, .bool false] 23 (0, 0)) (by (with_reducible repeat (first | refine blk_drewN ?_ _ | refine blk_drew ?_ | refine blk_alloc ?_ _)); exact BK424.out) hb)
                    have n1_ := Aside0.mk (blk_below (g := gb429) (o := .cells #[.int .i64 (wrap64 (IntKind.u64.wrap (x7_2 * 4294967296))), .bool false] 23 (0, 0)) (by (with_reducible repeat (first | refine blk_drewN ?_ _ | refine blk_drew ?_ | refine blk_alloc ?_ _)); exact BK429.out) hb)
                    have n2_ := Aside0.mk (below_step (by repeat (first | (with_reducible first | exact HB.out | apply below_alloc | apply pw_below_drewN | apply below_drew1 | refine below_set ?_ GE424.out | refine below_set ?_ GE429.out) | exact HB.out)) hb)
                    clear BK424
                    clear BK429
                    clear HB
                    have BK424 := n0_
                    have BK429 := n1_
                    have HB := n2_
                    clear n0_ n1_ n2_
                    (try clear hb)
                    (try clear hb2)
                    (try clear hk)
                    (try clear hi)
                    refine hK.out _ _ ⟨(blk_cell BK429.out 0).trans rfl, (blk_cell BK429.out 1).trans rfl⟩ (fun hHeld => ?_)
                    clear hK K
                    refine norm_ (a' := ?_) ?_ ?_
                    rotate_left
                    · show Act.put _ (some 72) _ = _
                      simp only [Act.put, List.setIfInBounds_toArray, List.set_cons_zero, List.set_cons_succ, i64_w, i32_w]
                      rfl
                    refine pure_ (i := 4) (N := some 73) (v := ?_) (a' := ?_) #[true, true, true, true, true, false, false, false] rfl rfl (any_of HT_.out (by kernel_rfl)) (fun _ _ _ h => h) (Or.inl ⟨by rfl, ?_⟩) ?_ ?_
                    rotate_left
                    · intro w'
                      go_simp
                      with_reducible rfl
                    rotate_left
                    · simp only [Act.put, List.setIfInBounds_toArray, List.set_cons_zero, List.set_cons_succ, i64_w, i32_w]
                      rfl
                    refine pure_ (i := 5) (N := some 74) (v := ?_) (a' := ?_) #[true, true, true, true, true, true, false, false] rfl rfl (any_of HT_.out (by kernel_rfl)) (fun _ _ _ h => h) (Or.inl ⟨by rfl, ?_⟩) ?_ ?_
                    rotate_left
                    · intro w'
                      go_simp
                      with_reducible rfl
                    rotate_left
                    · simp only [Act.put, List.setIfInBounds_toArray, List.set_cons_zero, List.set_cons_succ, i64_w, i32_w]
                      rfl
                    refine pure_ (i := 6) (N := some 75) (v := ?_) (a' := ?_) #[true, true, true, true, true, true, true, false] rfl rfl (any_of HT_.out (by kernel_rfl)) (fun _ _ _ h => h) (Or.inl ⟨by rfl, ?_⟩) ?_ ?_
                    rotate_left
                    · intro w'
                      go_simp
                      with_reducible rfl
                    rotate_left
                    · simp only [Act.put, List.setIfInBounds_toArray, List.set_cons_zero, List.set_cons_succ, i64_w, i32_w]
                      rfl
                    refine last_ (i := 7) (N := none) #[true, true, true, true, true, true, true, true] rfl rfl (one_of HT_.out (by kernel_rfl)) (by decide) (fun K hK => ?_)
                    have hs27 : w26.cell? ⟨gb429, 0, none⟩ = some (.int .i64 (wrap64 (IntKind.u64.wrap (x7_2 * 4294967296)))) := (blk_cell BK429.out 0).trans rfl
                    have hfs27 := blk_frozen BK429.out 0
                    have hns27_0 := NB424_429.out
                    have hms27_0 := NB429_424.out
                    refine skip_ (w1 := ?_) (by rfl) rfl ?_ ?_
                    rotate_left
                    · go_simp
                      rfl
                    refine hK.out _ _ ?_
                    clear hK K
                    refine done_ (done_of HT_.out (by kernel_rfl)) ?_
                    try go_wp2
                    go_meet
                    case rel => exact ⟨_, (t433), (Go.bits .or .i64 (wrap64 (IntKind.u64.wrap (x7_2 * 4294967296))) (wrap64 (t434))), (by first | rfl | (simp; done) | (simp [*]; done)), H', ⟨by have := HJ3.out; have := HK2.out; first | omega | exact Nat.le_refl _⟩, ⟨by (with_reducible repeat (first | refine blk_drewN ?_ _ | refine blk_drew ?_ | refine blk_alloc ?_ _)); refine blk_far ?_ NB424_429.out _; (with_reducible repeat (first | refine blk_drewN ?_ _ | refine blk_drew ?_ | refine blk_alloc ?_ _)); exact BK424.out⟩, ⟨by (with_reducible repeat (first | refine blk_drewN ?_ _ | refine blk_drew ?_ | refine blk_alloc ?_ _)); refine blk_put (cs := #[.int .i64 (wrap64 (IntKind.u64.wrap (x7_2 * 4294967296))), .bool false]) ?_ 0 _ rfl; (with_reducible repeat (first | refine blk_drewN ?_ _ | refine blk_drew ?_ | refine blk_alloc ?_ _)); exact BK429.out⟩, ⟨by repeat (first | (with_reducible first | exact HB.out | apply below_alloc | apply pw_below_drewN | apply below_drew1 | refine below_set ?_ GE424.out | refine below_set ?_ GE429.out) | exact HB.out)⟩⟩
                  · replace c21 := Bool.eq_false_iff.mpr c21
                    subst c21
                    have H1 : (fixed_Parse.j2 k2 a0 t428 t426 (wrap64 (IntKind.u64.wrap (x7_2 * 4294967296))) false) = some (r1, r2, r3) := by rw [if_neg (show ¬ (false = true) by decide)] at H; exact H
                    clear H
                    have H := H1
                    clear H1
                    have H' := Aside0.mk H
                    clear H
                    go_wp2
                    go_meet
                    case rel => exact ⟨_, (t428), (wrap64 (IntKind.u64.wrap (x7_2 * 4294967296))), (by first | rfl | (simp; done) | (simp [*]; done)), H', ⟨by have := HJ3.out; have := HK2.out; first | omega | exact Nat.le_refl _⟩, ⟨by (with_reducible repeat (first | refine blk_drewN ?_ _ | refine blk_drew ?_ | refine blk_alloc ?_ _)); refine blk_far ?_ NB424_429.out _; (with_reducible repeat (first | refine blk_drewN ?_ _ | refine blk_drew ?_ | refine blk_alloc ?_ _)); refine blk_far ?_ NB424_429.out _; (with_reducible repeat (first | refine blk_drewN ?_ _ | refine blk_drew ?_ | refine blk_alloc ?_ _)); exact BK424.out⟩, ⟨by (with_reducible repeat (first | refine blk_drewN ?_ _ | refine blk_drew ?_ | refine blk_alloc ?_ _)); refine blk_put (cs := #[.int .i64 (wrap64 (IntKind.u64.wrap (x7_2 * 4294967296))), .bool false]) ?_ 1 _ rfl; (with_reducible repeat (first | refine blk_drewN ?_ _ | refine blk_drew ?_ | refine blk_alloc ?_ _)); refine blk_put (cs := #[.int .i64 0, .bool false]) ?_ 0 _ rfl; (with_reducible repeat (first | refine blk_drewN ?_ _ | refine blk_drew ?_ | refine blk_alloc ?_ _)); exact BK429.out⟩, ⟨by repeat (first | (with_reducible first | exact HB.out | apply below_alloc | apply pw_below_drewN | apply below_drew1 | refine below_set ?_ GE424.out | refine below_set ?_ GE429.out) | exact HB.out)⟩⟩
                case rest =>
                  clear HC17
                  try clear c1
                  try clear p1
                  try clear q1
                  try clear hx1
                  try clear c2
                  try clear p2
                  try clear c5
                  try clear c6
                  try clear c6b0
                  try clear c6b1
                  try clear p6
                  try clear c7
                  try clear c7b0
                  try clear c7b1
                  try clear c8
                  try clear c9
                  try clear c10
                  try clear c10b0
                  try clear c11
                  try clear c11b0
                  try clear c12
                  try clear c12b0
                  try clear p13
                  try clear q13
                  try clear hx13
                  try clear c14
                  try clear c14b0
                  try clear c19
                  try clear c21
                  try clear hcz15_0
                  try clear hcz15_1
                  try clear hcz20_0
                  try clear hcz20_1
                  try clear hcz9_0
                  try clear hcz9_1
                  try clear hfz15_0
                  try clear hfz15_1
                  try clear hfz20_0
                  try clear hfz20_1
                  try clear hfz9_0
                  try clear hfz9_1
                  try clear p13
                  try clear p2
                  try clear q13
                  obtain ⟨kq, x4_16, x430000_16, rfl, HA, HJ16, BK424, BK429, HB⟩ := hcut
                  cases kq with
                  | zero => exact absurd HA.out (by simp [fixed_Parse.j2])
                  | succ kj16 =>
                    have H := HA.out
                    clear HA
                    simp only [fixed_Parse.j2] at H
                    rw [show (x4_16.toList != ([] : List UInt8)) = (!x4_16.toList.isEmpty) from by cases x4_16.toList <;> rfl] at H
                    by_cases c28 : t426 = true
                    · subst c28
                      have H1 : ((fixed_Text.f (wrap64 (-x430000_16)) (!x4_16.toList.isEmpty)).bind fun t435 => (if t435.toList = a0.toList then (some (wrap64 (-x430000_16), (!x4_16.toList.isEmpty), 0)) else (some (0, false, 4)))) = some (r1, r2, r3) := by rw [if_pos rfl] at H; exact H
                      clear H
                      have H := H1
                      clear H1
                      replace H := Option.bind_eq_some_iff.mp H
                      obtain ⟨t435, A290, H⟩ := H
                      replace H : (if t435.toList = a0.toList then (some (wrap64 (-x430000_16), (!x4_16.toList.isEmpty), 0)) else (some (0, false, 4))) = some (r1, r2, r3) := H
                      have A29 := Aside0.mk A290
                      clear A290
                      by_cases c30 : t435.toList = a0.toList
                      · rw [if_pos c30] at H
                        have c30b0 : (t435.toList == a0.toList) = true := beq_iff_eq.mpr c30
                        have c30b1 : (t435.toList != a0.toList) = false := bne_eq_false_iff_eq.mpr c30
                        clear c30
                        simp only [Option.some.injEq, Prod.mk.injEq] at H
                        obtain ⟨rfl, rfl, rfl⟩ := H
                        have hnb31 := NB429_424.out
                        have hnc31 := NB424_429.out
                        have hcz32_0 : wc.cell? ⟨gb429, 0, none⟩ = some (.int .i64 x430000_16) := (blk_cell BK429.out 0).trans rfl
                        have hcz32_1 : wc.cell? ⟨gb429, 1, none⟩ = some (.bool false) := (blk_cell BK429.out 1).trans rfl
                        have hfz32_0 := blk_frozen BK429.out 0
                        have hfz32_1 := blk_frozen BK429.out 1
                        go_wp2_with (first | ((with_reducible refine gate_callee (f := 67) rfl ?_); refine goesL_ (some 85) rfl rfl Try.func67 (by kernel_rfl) rfl #[.agg #[.int .i64 (wrap64 (-x430000_16)), .bool (!x4_16.toList.isEmpty)]] rfl (by (try simp only [List.map_toArray, List.map_cons, List.map_nil]); first | done | rfl | (simp only [List.length_drop, List.length_take]; rfl)) ?_; (with_reducible refine (fixed_Text.calls (wrap64 (-x430000_16)) (!x4_16.toList.isEmpty) t435 _ A29.out).mono ?_); rintro e w33 ⟨rfl, hb⟩; refine ⟨_, rfl, ?_⟩; have n0_ := Aside0.mk (blk_below (g := gb424) (o := .cells #[.int .i64 0, .bool false] 23 (0, 0)) (by (with_reducible repeat (first | refine blk_drewN ?_ _ | refine blk_drew ?_ | refine blk_alloc ?_ _)); refine blk_far ?_ NB424_429.out _; (with_reducible repeat (first | refine blk_drewN ?_ _ | refine blk_drew ?_ | refine blk_alloc ?_ _)); refine blk_far ?_ NB424_429.out _; (with_reducible repeat (first | refine blk_drewN ?_ _ | refine blk_drew ?_ | refine blk_alloc ?_ _)); exact BK424.out) hb); have n1_ := Aside0.mk (blk_below (g := gb429) (o := .cells #[.int .i64 (wrap64 (-x430000_16)), .bool (!x4_16.toList.isEmpty)] 23 (0, 0)) (by (with_reducible repeat (first | refine blk_drewN ?_ _ | refine blk_drew ?_ | refine blk_alloc ?_ _)); refine blk_put (cs := #[.int .i64 (wrap64 (-x430000_16)), .bool false]) ?_ 1 _ rfl; (with_reducible repeat (first | refine blk_drewN ?_ _ | refine blk_drew ?_ | refine blk_alloc ?_ _)); refine blk_put (cs := #[.int .i64 x430000_16, .bool false]) ?_ 0 _ rfl; (with_reducible repeat (first | refine blk_drewN ?_ _ | refine blk_drew ?_ | refine blk_alloc ?_ _)); exact BK429.out) hb); have n2_ := Aside0.mk (below_step (by repeat (first | (with_reducible first | exact HB.out | apply below_alloc | apply pw_below_drewN | apply below_drew1 | refine below_set ?_ GE424.out | refine below_set ?_ GE429.out) | exact HB.out)) hb); clear BK424; clear BK429; clear HB; have BK424 := n0_; have BK429 := n1_; have HB := n2_; clear n0_ n1_ n2_; (try clear hb); (try clear hb2); (try clear hk); (try clear hi); have hcz34_0 : w33.cell? ⟨gb429, 0, none⟩ = some (.int .i64 (wrap64 (-x430000_16))) := (blk_cell BK429.out 0).trans rfl; have hcz34_1 : w33.cell? ⟨gb429, 1, none⟩ = some (.bool (!x4_16.toList.isEmpty)) := (blk_cell BK429.out 1).trans rfl; have hfz34_0 := blk_frozen BK429.out 0; have hfz34_1 := blk_frozen BK429.out 1; have hcz35_0 : w33.cell? ⟨gb424, 0, none⟩ = some (.int .i64 0) := (blk_cell BK424.out 0).trans rfl; have hcz35_1 : w33.cell? ⟨gb424, 1, none⟩ = some (.bool false) := (blk_cell BK424.out 1).trans rfl; have hfz35_0 := blk_frozen BK424.out 0; have hfz35_1 := blk_frozen BK424.out 1))
                        refine bodyPost_ret (results_ct rfl _ _ gb424 23 #[.int .i64 (wrap64 (-x430000_16)), .bool (!x4_16.toList.isEmpty)] (0, 0) _ rfl (by (with_reducible repeat (first | refine blk_drewN ?_ _ | refine blk_drew ?_ | refine blk_alloc ?_ _)); refine blk_put (cs := #[.int .i64 (wrap64 (-x430000_16)), .bool false]) ?_ 1 _ rfl; (with_reducible repeat (first | refine blk_drewN ?_ _ | refine blk_drew ?_ | refine blk_alloc ?_ _)); refine blk_put (cs := #[.int .i64 0, .bool false]) ?_ 0 _ rfl; (with_reducible repeat (first | refine blk_drewN ?_ _ | refine blk_drew ?_ | refine blk_alloc ?_ _)); exact BK424.out) Try.underlying23 rfl (by kernel_rfl)) rfl ?_
                        exact ⟨by first | rfl | (simp [errW_none, errW_some] <;> rfl) | (simp [*, errW_none, errW_some] <;> rfl), by repeat (first | (with_reducible first | exact HB.out | apply below_alloc | apply pw_below_drewN | apply below_drew1 | refine below_set ?_ GE424.out | refine below_set ?_ GE429.out) | exact HB.out)⟩
                      · rw [if_neg c30] at H
                        have c30b0 : (t435.toList == a0.toList) = false := beq_eq_false_iff_ne.mpr c30
                        have c30b1 : (t435.toList != a0.toList) = true := bne_iff_ne.mpr c30
                        simp only [Option.some.injEq, Prod.mk.injEq] at H
                        obtain ⟨rfl, rfl, rfl⟩ := H
                        have hnb36 := NB429_424.out
                        have hnc36 := NB424_429.out
                        have hcz37_0 : wc.cell? ⟨gb429, 0, none⟩ = some (.int .i64 x430000_16) := (blk_cell BK429.out 0).trans rfl
                        have hcz37_1 : wc.cell? ⟨gb429, 1, none⟩ = some (.bool false) := (blk_cell BK429.out 1).trans rfl
                        have hfz37_0 := blk_frozen BK429.out 0
                        have hfz37_1 := blk_frozen BK429.out 1
                        go_wp2_with (first | ((with_reducible refine gate_callee (f := 67) rfl ?_); refine goesL_ (some 85) rfl rfl Try.func67 (by kernel_rfl) rfl #[.agg #[.int .i64 (wrap64 (-x430000_16)), .bool (!x4_16.toList.isEmpty)]] rfl (by (try simp only [List.map_toArray, List.map_cons, List.map_nil]); first | done | rfl | (simp only [List.length_drop, List.length_take]; rfl)) ?_; (with_reducible refine (fixed_Text.calls (wrap64 (-x430000_16)) (!x4_16.toList.isEmpty) t435 _ A29.out).mono ?_); rintro e w38 ⟨rfl, hb⟩; refine ⟨_, rfl, ?_⟩; have n0_ := Aside0.mk (blk_below (g := gb424) (o := .cells #[.int .i64 0, .bool false] 23 (0, 0)) (by (with_reducible repeat (first | refine blk_drewN ?_ _ | refine blk_drew ?_ | refine blk_alloc ?_ _)); refine blk_far ?_ NB424_429.out _; (with_reducible repeat (first | refine blk_drewN ?_ _ | refine blk_drew ?_ | refine blk_alloc ?_ _)); refine blk_far ?_ NB424_429.out _; (with_reducible repeat (first | refine blk_drewN ?_ _ | refine blk_drew ?_ | refine blk_alloc ?_ _)); exact BK424.out) hb); have n1_ := Aside0.mk (blk_below (g := gb429) (o := .cells #[.int .i64 (wrap64 (-x430000_16)), .bool (!x4_16.toList.isEmpty)] 23 (0, 0)) (by (with_reducible repeat (first | refine blk_drewN ?_ _ | refine blk_drew ?_ | refine blk_alloc ?_ _)); refine blk_put (cs := #[.int .i64 (wrap64 (-x430000_16)), .bool false]) ?_ 1 _ rfl; (with_reducible repeat (first | refine blk_drewN ?_ _ | refine blk_drew ?_ | refine blk_alloc ?_ _)); refine blk_put (cs := #[.int .i64 x430000_16, .bool false]) ?_ 0 _ rfl; (with_reducible repeat (first | refine blk_drewN ?_ _ | refine blk_drew ?_ | refine blk_alloc ?_ _)); exact BK429.out) hb); have n2_ := Aside0.mk (below_step (by repeat (first | (with_reducible first | exact HB.out | apply below_alloc | apply pw_below_drewN | apply below_drew1 | refine below_set ?_ GE424.out | refine below_set ?_ GE429.out) | exact HB.out)) hb); clear BK424; clear BK429; clear HB; have BK424 := n0_; have BK429 := n1_; have HB := n2_; clear n0_ n1_ n2_; (try clear hb); (try clear hb2); (try clear hk); (try clear hi); have hcz39_0 : w38.cell? ⟨gb424, 0, none⟩ = some (.int .i64 0) := (blk_cell BK424.out 0).trans rfl; have hcz39_1 : w38.cell? ⟨gb424, 1, none⟩ = some (.bool false) := (blk_cell BK424.out 1).trans rfl; have hfz39_0 := blk_frozen BK424.out 0; have hfz39_1 := blk_frozen BK424.out 1))
                        refine bodyPost_ret (results_ct rfl _ _ gb424 23 #[.int .i64 0, .bool false] (0, 0) _ rfl (by (with_reducible repeat (first | refine blk_drewN ?_ _ | refine blk_drew ?_ | refine blk_alloc ?_ _)); refine blk_put (cs := #[.int .i64 0, .bool false]) ?_ 1 _ rfl; (with_reducible repeat (first | refine blk_drewN ?_ _ | refine blk_drew ?_ | refine blk_alloc ?_ _)); refine blk_put (cs := #[.int .i64 0, .bool false]) ?_ 0 _ rfl; (with_reducible repeat (first | refine blk_drewN ?_ _ | refine blk_drew ?_ | refine blk_alloc ?_ _)); exact BK424.out) Try.underlying23 rfl (by kernel_rfl)) rfl ?_
                        exact ⟨by first | rfl | (simp [errW_none, errW_some] <;> rfl) | (simp [*, errW_none, errW_some] <;> rfl), by repeat (first | (with_reducible first | exact HB.out | apply below_alloc | apply pw_below_drewN | apply below_drew1 | refine below_set ?_ GE424.out | refine below_set ?_ GE429.out) | exact HB.out)⟩
                    · replace c28 := Bool.eq_false_iff.mpr c28
                      subst c28
                      have H1 : ((fixed_Text.f x430000_16 (!x4_16.toList.isEmpty)).bind fun t436 => (if t436.toList = a0.toList then (some (x430000_16, (!x4_16.toList.isEmpty), 0)) else (some (0, false, 4)))) = some (r1, r2, r3) := by rw [if_neg (show ¬ (false = true) by decide)] at H; exact H
                      clear H
                      have H := H1
                      clear H1
                      replace H := Option.bind_eq_some_iff.mp H
                      obtain ⟨t436, A400, H⟩ := H
                      replace H : (if t436.toList = a0.toList then (some (x430000_16, (!x4_16.toList.isEmpty), 0)) else (some (0, false, 4))) = some (r1, r2, r3) := H
                      have A40 := Aside0.mk A400
                      clear A400
                      by_cases c41 : t436.toList = a0.toList
                      · rw [if_pos c41] at H
                        have c41b0 : (t436.toList == a0.toList) = true := beq_iff_eq.mpr c41
                        have c41b1 : (t436.toList != a0.toList) = false := bne_eq_false_iff_eq.mpr c41
                        clear c41
                        simp only [Option.some.injEq, Prod.mk.injEq] at H
                        obtain ⟨rfl, rfl, rfl⟩ := H
                        have hnb42 := NB429_424.out
                        have hnc42 := NB424_429.out
                        have hcz43_0 : wc.cell? ⟨gb429, 0, none⟩ = some (.int .i64 x430000_16) := (blk_cell BK429.out 0).trans rfl
                        have hcz43_1 : wc.cell? ⟨gb429, 1, none⟩ = some (.bool false) := (blk_cell BK429.out 1).trans rfl
                        have hfz43_0 := blk_frozen BK429.out 0
                        have hfz43_1 := blk_frozen BK429.out 1
                        go_wp2_with (first | ((with_reducible refine gate_callee (f := 67) rfl ?_); refine goesL_ (some 85) rfl rfl Try.func67 (by kernel_rfl) rfl #[.agg #[.int .i64 x430000_16, .bool (!x4_16.toList.isEmpty)]] rfl (by (try simp only [List.map_toArray, List.map_cons, List.map_nil]); first | done | rfl | (simp only [List.length_drop, List.length_take]; rfl)) ?_; (with_reducible refine (fixed_Text.calls x430000_16 (!x4_16.toList.isEmpty) t436 _ A40.out).mono ?_); rintro e w44 ⟨rfl, hb⟩; refine ⟨_, rfl, ?_⟩; have n0_ := Aside0.mk (blk_below (g := gb424) (o := .cells #[.int .i64 0, .bool false] 23 (0, 0)) (by (with_reducible repeat (first | refine blk_drewN ?_ _ | refine blk_drew ?_ | refine blk_alloc ?_ _)); refine blk_far ?_ NB424_429.out _; (with_reducible repeat (first | refine blk_drewN ?_ _ | refine blk_drew ?_ | refine blk_alloc ?_ _)); exact BK424.out) hb); have n1_ := Aside0.mk (blk_below (g := gb429) (o := .cells #[.int .i64 x430000_16, .bool (!x4_16.toList.isEmpty)] 23 (0, 0)) (by (with_reducible repeat (first | refine blk_drewN ?_ _ | refine blk_drew ?_ | refine blk_alloc ?_ _)); refine blk_put (cs := #[.int .i64 x430000_16, .bool false]) ?_ 1 _ rfl; (with_reducible repeat (first | refine blk_drewN ?_ _ | refine blk_drew ?_ | refine blk_alloc ?_ _)); exact BK429.out) hb); have n2_ := Aside0.mk (below_step (by repeat (first | (with_reducible first | exact HB.out | apply below_alloc | apply pw_below_drewN | apply below_drew1 | refine below_set ?_ GE424.out | refine below_set ?_ GE429.out) | exact HB.out)) hb); clear BK424; clear BK429; clear HB; have BK424 := n0_; have BK429 := n1_; have HB := n2_; clear n0_ n1_ n2_; (try clear hb); (try clear hb2); (try clear hk); (try clear hi); have hcz45_0 : w44.cell? ⟨gb429, 0, none⟩ = some (.int .i64 x430000_16) := (blk_cell BK429.out 0).trans rfl; have hcz45_1 : w44.cell? ⟨gb429, 1, none⟩ = some (.bool (!x4_16.toList.isEmpty)) := (blk_cell BK429.out 1).trans rfl; have hfz45_0 := blk_frozen BK429.out 0; have hfz45_1 := blk_frozen BK429.out 1; have hcz46_0 : w44.cell? ⟨gb424, 0, none⟩ = some (.int .i64 0) := (blk_cell BK424.out 0).trans rfl; have hcz46_1 : w44.cell? ⟨gb424, 1, none⟩ = some (.bool false) := (blk_cell BK424.out 1).trans rfl; have hfz46_0 := blk_frozen BK424.out 0; have hfz46_1 := blk_frozen BK424.out 1))
                        refine bodyPost_ret (results_ct rfl _ _ gb424 23 #[.int .i64 x430000_16, .bool (!x4_16.toList.isEmpty)] (0, 0) _ rfl (by (with_reducible repeat (first | refine blk_drewN ?_ _ | refine blk_drew ?_ | refine blk_alloc ?_ _)); refine blk_put (cs := #[.int .i64 x430000_16, .bool false]) ?_ 1 _ rfl; (with_reducible repeat (first | refine blk_drewN ?_ _ | refine blk_drew ?_ | refine blk_alloc ?_ _)); refine blk_put (cs := #[.int .i64 0, .bool false]) ?_ 0 _ rfl; (with_reducible repeat (first | refine blk_drewN ?_ _ | refine blk_drew ?_ | refine blk_alloc ?_ _)); exact BK424.out) Try.underlying23 rfl (by kernel_rfl)) rfl ?_
                        exact ⟨by first | rfl | (simp [errW_none, errW_some] <;> rfl) | (simp [*, errW_none, errW_some] <;> rfl), by repeat (first | (with_reducible first | exact HB.out | apply below_alloc | apply pw_below_drewN | apply below_drew1 | refine below_set ?_ GE424.out | refine below_set ?_ GE429.out) | exact HB.out)⟩
                      · rw [if_neg c41] at H
                        have c41b0 : (t436.toList == a0.toList) = false := beq_eq_false_iff_ne.mpr c41
                        have c41b1 : (t436.toList != a0.toList) = true := bne_iff_ne.mpr c41
                        simp only [Option.some.injEq, Prod.mk.injEq] at H
                        obtain ⟨rfl, rfl, rfl⟩ := H
                        have hnb47 := NB429_424.out
                        have hnc47 := NB424_429.out
                        have hcz48_0 : wc.cell? ⟨gb429, 0, none⟩ = some (.int .i64 x430000_16) := (blk_cell BK429.out 0).trans rfl
                        have hcz48_1 : wc.cell? ⟨gb429, 1, none⟩ = some (.bool false) := (blk_cell BK429.out 1).trans rfl
                        have hfz48_0 := blk_frozen BK429.out 0
                        have hfz48_1 := blk_frozen BK429.out 1
                        go_wp2_with (first | ((with_reducible refine gate_callee (f := 67) rfl ?_); refine goesL_ (some 85) rfl rfl Try.func67 (by kernel_rfl) rfl #[.agg #[.int .i64 x430000_16, .bool (!x4_16.toList.isEmpty)]] rfl (by (try simp only [List.map_toArray, List.map_cons, List.map_nil]); first | done | rfl | (simp only [List.length_drop, List.length_take]; rfl)) ?_; (with_reducible refine (fixed_Text.calls x430000_16 (!x4_16.toList.isEmpty) t436 _ A40.out).mono ?_); rintro e w49 ⟨rfl, hb⟩; refine ⟨_, rfl, ?_⟩; have n0_ := Aside0.mk (blk_below (g := gb424) (o := .cells #[.int .i64 0, .bool false] 23 (0, 0)) (by (with_reducible repeat (first | refine blk_drewN ?_ _ | refine blk_drew ?_ | refine blk_alloc ?_ _)); refine blk_far ?_ NB424_429.out _; (with_reducible repeat (first | refine blk_drewN ?_ _ | refine blk_drew ?_ | refine blk_alloc ?_ _)); exact BK424.out) hb); have n1_ := Aside0.mk (blk_below (g := gb429) (o := .cells #[.int .i64 x430000_16, .bool (!x4_16.toList.isEmpty)] 23 (0, 0)) (by (with_reducible repeat (first | refine blk_drewN ?_ _ | refine blk_drew ?_ | refine blk_alloc ?_ _)); refine blk_put (cs := #[.int .i64 x430000_16, .bool false]) ?_ 1 _ rfl; (with_reducible repeat (first | refine blk_drewN ?_ _ | refine blk_drew ?_ | refine blk_alloc ?_ _)); exact BK429.out) hb); have n2_ := Aside0.mk (below_step (by repeat (first | (with_reducible first | exact HB.out | apply below_alloc | apply pw_below_drewN | apply below_drew1 | refine below_set ?_ GE424.out | refine below_set ?_ GE429.out) | exact HB.out)) hb); clear BK424; clear BK429; clear HB; have BK424 := n0_; have BK429 := n1_; have HB := n2_; clear n0_ n1_ n2_; (try clear hb); (try clear hb2); (try clear hk); (try clear hi); have hcz50_0 : w49.cell? ⟨gb424, 0, none⟩ = some (.int .i64 0) := (blk_cell BK424.out 0).trans rfl; have hcz50_1 : w49.cell? ⟨gb424, 1, none⟩ = some (.bool false) := (blk_cell BK424.out 1).trans rfl; have hfz50_0 := blk_frozen BK424.out 0; have hfz50_1 := blk_frozen BK424.out 1))
                        refine bodyPost_ret (results_ct rfl _ _ gb424 23 #[.int .i64 0, .bool false] (0, 0) _ rfl (by (with_reducible repeat (first | refine blk_drewN ?_ _ | refine blk_drew ?_ | refine blk_alloc ?_ _)); refine blk_put (cs := #[.int .i64 0, .bool false]) ?_ 1 _ rfl; (with_reducible repeat (first | refine blk_drewN ?_ _ | refine blk_drew ?_ | refine blk_alloc ?_ _)); refine blk_put (cs := #[.int .i64 0, .bool false]) ?_ 0 _ rfl; (with_reducible repeat (first | refine blk_drewN ?_ _ | refine blk_drew ?_ | refine blk_alloc ?_ _)); exact BK424.out) Try.underlying23 rfl (by kernel_rfl)) rfl ?_
                        exact ⟨by first | rfl | (simp [errW_none, errW_some] <;> rfl) | (simp [*, errW_none, errW_some] <;> rfl), by repeat (first | (with_reducible first | exact HB.out | apply below_alloc | apply pw_below_drewN | apply below_drew1 | refine below_set ?_ GE424.out | refine below_set ?_ GE429.out) | exact HB.out)⟩
end Go.Proofs.Ytenpiaafkmfjfaa.B

end
section
namespace Go.Proofs.Ytenpiaafkmfjfaa.B
open Go.RowKit Go.Proofs.YtenpiaafkmfjfaaW.PrintWords
theorem bl (a : ByteArray) : a.toList = a.data.toList := Go.ByteArray.toList_eq a
theorem size_l (a : ByteArray) : a.size = a.data.toList.length := by
  show a.data.size = a.data.toList.length
  exact Array.length_toList.symm
theorem ext_l (a : ByteArray) (i j : Nat) : (a.extract i j).data.toList = (a.data.toList.take j).drop i := by
  rw [ByteArray.data_extract]
  simp [Array.toList_extract, List.extract_eq_take_drop, List.drop_take]
theorem bt_l (a : ByteArray) (i : Nat) (h : i < a.data.toList.length) : bt a (i : Int) = ((a.data.toList[i]).toNat : Int) := by
  have h2 : (i : Int).toNat < a.size := by rw [size_l]; simpa using h
  rw [← bt_at a (i : Int) h2]
  rfl
theorem bt_isD (a : ByteArray) (i : Nat) (h : i < a.data.toList.length) : (isD a.data.toList[i] = true ↔ (bt a (i : Int) ≥ 48 ∧ bt a (i : Int) ≤ 57)) := by
  rw [bt_l a i h]
  unfold isD
  simp only [Bool.and_eq_true, decide_eq_true_eq]
  omega
theorem cutL_eq (c : UInt8) (r : List UInt8) : cutL c (c :: r) = (r, true) := if_pos rfl
theorem cutL_ne {c x : UInt8} (h : ¬ x = c) (r : List UInt8) : cutL c (x :: r) = (x :: r, false) := if_neg h
theorem cut_f (s : ByteArray) (c : UInt8) : ∃ r, strings_CutPrefix.f s ⟨#[c]⟩ = some (r, (cutL c s.data.toList).2) ∧ r.data.toList = (cutL c s.data.toList).1 := by
  have h1 : ((⟨#[c]⟩ : ByteArray).size : Int) = 1 := rfl
  have e1 : (⟨#[c]⟩ : ByteArray).toList = [c] := bl _
  unfold strings_CutPrefix.f stringslite_CutPrefix.f stringslite_HasPrefix.f
  rw [h1]
  cases hL : s.data.toList with
  | nil =>
    have hs : s.size = 0 := by rw [size_l, hL]; rfl
    rw [hs, if_neg (by decide)]
    simp only [Option.bind_some]
    rw [if_neg (by decide)]
    exact ⟨s, rfl, hL⟩
  | cons x r =>
    have hs : s.size = r.length + 1 := by rw [size_l, hL]; rfl
    rw [if_pos (by omega), if_pos (by omega), if_pos (by omega)]
    have e2 : (s.extract 0 (1 : Int).toNat).toList = [x] := by
      rw [bl, ext_l, hL]; rfl
    simp only [Option.bind_some, e1, e2]
    by_cases hx : x = c
    · subst hx
      rw [if_pos (by simp), if_pos (by omega), if_pos (by omega)]
      refine ⟨_, by rw [cutL_eq]; simp only [Option.bind_some]; rfl, ?_⟩
      rw [ext_l, hL, hs, cutL_eq]
      show List.drop 1 (List.take (r.length + 1) (x :: r)) = r
      simp
    · rw [if_neg (by simpa using hx)]
      refine ⟨s, by rw [cutL_ne hx]; simp only [Option.bind_some], ?_⟩
      rw [hL, cutL_ne hx]
theorem figs_loop (s : ByteArray) (hs : s.size ≤ 1000) : ∀ (m i k : Nat), m + i = s.size → m + 1 ≤ k →
    fixed_figures.l0 k s i = some (s.extract 0 (i + ((s.data.toList.drop i).takeWhile isD).length), s.extract (i + ((s.data.toList.drop i).takeWhile isD).length) s.size)
  | 0, i, k, h, hk => by
    obtain ⟨k, rfl⟩ : ∃ z, k = z + 1 := ⟨k - 1, by omega⟩
    have e : s.data.toList.drop i = [] := List.drop_eq_nil_of_le (by rw [← size_l]; omega)
    rw [fixed_figures.l0, if_neg (by omega), if_pos (by omega), if_pos (by omega), e]
    simp
  | m + 1, i, k, h, hk => by
    obtain ⟨k, rfl⟩ : ∃ z, k = z + 1 := ⟨k - 1, by omega⟩
    have hi : i < s.data.toList.length := by rw [← size_l]; omega
    have hd := bt_isD s i hi
    have e : s.data.toList.drop i = s.data.toList[i] :: s.data.toList.drop (i + 1) := List.drop_eq_getElem_cons hi
    rw [fixed_figures.l0, if_pos (by omega), if_pos (by omega), e]
    by_cases hx : isD s.data.toList[i] = true
    · obtain ⟨g1, g2⟩ := hd.1 hx
      rw [if_pos g1, if_pos g2, wrap64_id (by omega) (by omega)]
      have ih := figs_loop s hs m (i + 1) k (by omega) (by omega)
      rw [show ((i : Int) + 1) = ((i + 1 : Nat) : Int) by omega, ih, List.takeWhile_cons, if_pos hx, List.length_cons]
      rw [show i + 1 + (List.takeWhile isD (List.drop (i + 1) s.data.toList)).length = i + ((List.takeWhile isD (List.drop (i + 1) s.data.toList)).length + 1) by omega]
    · rw [List.takeWhile_cons, if_neg hx]
      have fin : (if (i : Int) ≤ (s.size : Int) then some (s.extract 0 (i : Int).toNat, s.extract (i : Int).toNat s.size) else none) = some (s.extract 0 (i + ([] : List UInt8).length), s.extract (i + ([] : List UInt8).length) s.size) := by
        rw [if_pos (by omega)]; simp
      by_cases g1 : bt s (i : Int) ≥ 48
      · rw [if_pos g1]
        by_cases g2 : bt s (i : Int) ≤ 57
        · exact absurd (hd.2 ⟨g1, g2⟩) hx
        · rw [if_neg g2]; exact fin
      · rw [if_neg g1]; exact fin
theorem tw_take (l : List UInt8) : l.take (l.takeWhile isD).length = l.takeWhile isD := by
  conv => lhs; arg 2; rw [← List.takeWhile_append_dropWhile (p := isD) (l := l)]
  exact List.take_left' rfl
theorem tw_drop (l : List UInt8) : l.drop (l.takeWhile isD).length = l.dropWhile isD := by
  conv => lhs; arg 2; rw [← List.takeWhile_append_dropWhile (p := isD) (l := l)]
  exact List.drop_left' rfl
theorem figs_f (s : ByteArray) (hs : s.size ≤ 1000) (k : Nat) (hk : 1001 ≤ k) : ∃ a b, fixed_figures.f k s = some (a, b) ∧ a.data.toList = s.data.toList.takeWhile isD ∧ b.data.toList = s.data.toList.dropWhile isD := by
  refine ⟨_, _, figs_loop s hs s.size 0 k (by omega) (by omega), ?_, ?_⟩
  · rw [ext_l, List.drop_zero, Nat.zero_add, List.drop_zero, tw_take]
  · rw [ext_l, size_l, List.take_length, List.drop_zero, Nat.zero_add, tw_drop]
theorem i64_or (a b : Nat) (ha : a < 2147483648) (hb : b < 4294967296) : Go.bits .or .i64 ((a * 4294967296 : Nat) : Int) (b : Int) = ((a * 4294967296 + b : Nat) : Int) := by
  have e1 : (BitVec.ofInt 64 ((a * 4294967296 : Nat) : Int)).toNat = 2 ^ 32 * a := by
    rw [BitVec.toNat_ofInt]; omega
  have e2 : (BitVec.ofInt 64 (b : Int)).toNat = b := by
    rw [BitVec.toNat_ofInt]; omega
  have key : (BitVec.ofInt 64 ((a * 4294967296 : Nat) : Int) ||| BitVec.ofInt 64 (b : Int)).toNat = a * 4294967296 + b := by
    rw [BitVec.toNat_or, e1, e2, ← Nat.two_pow_add_eq_or_of_lt (by omega) a]; omega
  show IntKind.i64.wrap ((BitVec.ofInt 64 ((a * 4294967296 : Nat) : Int) ||| BitVec.ofInt 64 (b : Int)).toNat : Nat) = _
  rw [key, IntKind.wrap_i64]
  omega
theorem text_f {v : Int} (f : Bool) (h : I64 v) : fixed_Text.f v f = some ⟨(textB v f).toArray⟩ := by
  unfold I64 at h
  unfold fixed_Text.f
  rw [if_pos h.1, if_pos h.2]
theorem parse_j2 (k : Nat) (hk : 1 ≤ k) (s rest : ByteArray) (neg : Bool) (V : Nat) (hV : V < 9223372036854775808) :
    fixed_Parse.j2 k s rest neg (V : Int) false = some (finP s.data.toList neg (V : Int) (!rest.data.toList.isEmpty)) := by
  obtain ⟨k, rfl⟩ : ∃ z, k = z + 1 := ⟨k - 1, by omega⟩
  have er : (rest.toList != ([] : List UInt8)) = (!rest.data.toList.isEmpty) := by rw [bl]; cases rest.data.toList <;> rfl
  rw [fixed_Parse.j2, er, bl s]
  unfold finP
  cases neg
  · rw [if_neg (show ¬ (false = true) by decide), if_neg (show ¬ (false = true) by decide), text_f _ (by unfold I64; omega), Option.bind_some, bl]
    by_cases h : textB (V : Int) (!rest.data.toList.isEmpty) = s.data.toList
    · rw [if_pos h, if_pos (by simpa using h)]
    · rw [if_neg h, if_neg (by simpa using h)]
  · rw [if_pos rfl, if_pos rfl, wrap64_id (by omega) (by omega), text_f _ (by unfold I64; omega), Option.bind_some, bl]
    by_cases h : textB (-(V : Int)) (!rest.data.toList.isEmpty) = s.data.toList
    · rw [if_pos h, if_pos (by simpa using h)]
    · rw [if_neg h, if_neg (by simpa using h)]
theorem all_tw (a : ByteArray) (h : ∀ c ∈ a.data.toList, isD c = true) : allDigits a = true := by
  unfold allDigits
  rw [List.all_eq_true]
  intro c hc
  exact h c hc
theorem bits_f (a : ByteArray) (hs : a.size ≤ 1000) (h : ∀ c ∈ a.data.toList, isD c = true) : fixed_bits32.f a = some ((frac 32 (a.data.toList.map dg) 0 : Nat) : Int) := by
  unfold fixed_bits32.f
  rw [if_pos hs, if_pos (all_tw a h)]
  rfl
theorem tw_le (l : List UInt8) : (l.takeWhile isD).length ≤ l.length := by
  have := congrArg List.length (List.takeWhile_append_dropWhile (p := isD) (l := l))
  rw [List.length_append] at this
  omega
theorem dw_le (l : List UInt8) : (l.dropWhile isD).length ≤ l.length := by
  have := congrArg List.length (List.takeWhile_append_dropWhile (p := isD) (l := l))
  rw [List.length_append] at this
  omega
theorem cut_le (c : UInt8) (l : List UInt8) : (cutL c l).1.length ≤ l.length := by
  cases l with
  | nil => exact Nat.le_refl _
  | cons x r =>
    by_cases h : x = c
    · subst h; rw [cutL_eq]; simp
    · rw [cutL_ne h]; exact Nat.le_refl _
theorem parse_tail (k : Nat) (hk : 1003 ≤ k) (s rest x6 : ByteArray) (neg : Bool) (n : Nat) (hn : n < 18446744073709551616) (hr : rest.size ≤ 1000) :
    fixed_Parse.l0 k s rest neg x6 (n : Int) (x6.size : Int) (x6.size : Int) = some (if n ≥ 2147483648 then (0, false, 4) else finP s.data.toList neg ((n * 4294967296 + (fracP rest.data.toList).1 : Nat) : Int) (!(fracP rest.data.toList).2.isEmpty)) := by
  obtain ⟨k, rfl⟩ : ∃ z, k = z + 1 := ⟨k - 1, by omega⟩
  rw [fixed_Parse.l0, if_neg (by omega)]
  by_cases h : n ≥ 2147483648
  · rw [if_pos (by omega), if_pos h]
  · rw [if_neg (by omega), if_neg h, u64_id (by omega) (by omega), wrap64_id (by omega) (by omega)]
    obtain ⟨r, e, er⟩ := cut_f rest 46
    have e2 : fracP rest.data.toList = if (cutL 46 rest.data.toList).2 = true then (frac 32 (((cutL 46 rest.data.toList).1.takeWhile isD).map dg) 0, (cutL 46 rest.data.toList).1.dropWhile isD) else (0, rest.data.toList) := rfl
    rw [e, Option.bind_some]
    dsimp only
    by_cases hc : (cutL 46 rest.data.toList).2 = true
    · rw [if_pos hc] at e2
      have hrs : r.size ≤ 1000 := by
        rw [size_l, er]
        have := cut_le 46 rest.data.toList
        rw [← size_l] at this
        omega
      obtain ⟨a, b, ef, ea, eb⟩ := figs_f r hrs k (by omega)
      have hdig : ∀ c ∈ a.data.toList, isD c = true := by rw [ea]; exact tw_isD _
      have hsz : a.size ≤ 1000 := by
        rw [size_l, ea]
        have := tw_le r.data.toList
        rw [← size_l] at this
        omega
      have hlt := frac32_lt _ (nine_dg hdig)
      rw [if_pos hc, ef, Option.bind_some]
      dsimp only
      rw [bits_f a hsz hdig, Option.bind_some, wrap64_id (by omega) (by omega)]
      rw [show ((n : Int) * 4294967296) = ((n * 4294967296 : Nat) : Int) by omega, i64_or n _ (by omega) hlt, parse_j2 k (by omega) s b neg _ (by omega), e2]
      dsimp only
      rw [ea, er, eb, er]
    · rw [if_neg hc] at e2
      rw [if_neg hc, show ((n : Int) * 4294967296) = ((n * 4294967296 : Nat) : Int) by omega, parse_j2 k (by omega) s rest neg _ (by omega), e2]
      dsimp only
      rw [Nat.add_zero]
theorem parse_loop (s rest x6 : ByteArray) (neg : Bool) (hr : rest.size ≤ 1000) (hx : x6.size ≤ 10) (hd : ∀ c ∈ x6.data.toList, isD c = true) : ∀ (m i k : Nat), m + i = x6.size → m + 1003 ≤ k →
    fixed_Parse.l0 k s rest neg x6 ((dval ((x6.data.toList.take i).map dg) : Nat) : Int) (x6.size : Int) (i : Int) =
      some (if dval (x6.data.toList.map dg) ≥ 2147483648 then (0, false, 4) else finP s.data.toList neg ((dval (x6.data.toList.map dg) * 4294967296 + (fracP rest.data.toList).1 : Nat) : Int) (!(fracP rest.data.toList).2.isEmpty))
  | 0, i, k, h, hk => by
    have hi : i = x6.size := by omega
    subst hi
    have e : x6.data.toList.take x6.size = x6.data.toList := by rw [size_l]; exact List.take_length
    have hlt : dval (x6.data.toList.map dg) < 10 ^ 10 := by
      have h1 := dval_lt _ (nine_dg hd)
      rw [List.length_map, ← size_l] at h1
      exact Nat.lt_of_lt_of_le h1 (Nat.pow_le_pow_right (by omega) hx)
    rw [e]
    exact parse_tail k (by omega) s rest x6 neg _ (by omega) hr
  | m + 1, i, k, h, hk => by
    obtain ⟨k, rfl⟩ : ∃ z, k = z + 1 := ⟨k - 1, by omega⟩
    have hi : i < x6.data.toList.length := by rw [← size_l]; omega
    have hD : isD x6.data.toList[i] = true := hd _ (List.getElem_mem hi)
    have hb := bt_l x6 i hi
    obtain ⟨g1, g2⟩ := (bt_isD x6 i hi).1 hD
    have hnine : ninth ((x6.data.toList.take i).map dg) := nine_dg (fun c hc => hd c (List.mem_of_mem_take hc))
    have hlt : dval ((x6.data.toList.take i).map dg) < 10 ^ 10 := by
      have h1 := dval_lt _ hnine
      rw [List.length_map, List.length_take] at h1
      exact Nat.lt_of_lt_of_le h1 (Nat.pow_le_pow_right (by omega) (by omega))
    have es : dval ((x6.data.toList.take (i + 1)).map dg) = 10 * dval ((x6.data.toList.take i).map dg) + dg x6.data.toList[i] := by
      rw [List.take_succ_eq_append_getElem hi, List.map_append]
      exact dval_snoc _ _
    have edg : ((dg x6.data.toList[i] : Nat) : Int) = (bt x6 (i : Int) - 48) % 256 := by
      rw [hb] at g1 g2 ⊢
      unfold dg; omega
    have ih := parse_loop s rest x6 neg hr hx hd m (i + 1) k (by omega) (by omega)
    rw [fixed_Parse.l0, if_pos (by omega), if_pos (by omega), if_pos (by rw [size_l]; omega), ← edg, wrap64_id (by omega) (by omega)]
    have hdg := isD_dg hD
    rw [u64_id (x := 10 * _) (by omega) (by omega), u64_id (by omega) (by omega), ← ih, es]
    congr 1
theorem parse_f (k : Nat) (hk : 1100 ≤ k) (s : ByteArray) (hs : s.size ≤ 1000) : fixed_Parse.f k s = some (parseF s.data.toList) := by
  unfold fixed_Parse.f
  obtain ⟨r, e, er⟩ := cut_f s 45
  have hr : r.size ≤ 1000 := by
    rw [size_l, er]
    have := cut_le 45 s.data.toList
    rw [← size_l] at this
    omega
  obtain ⟨a, b, ef, ea, eb⟩ := figs_f r hr k (by omega)
  rw [er] at ea eb
  have hd : ∀ c ∈ a.data.toList, isD c = true := by rw [ea]; exact tw_isD _
  have hb : b.size ≤ 1000 := by
    rw [size_l, eb]
    have h1 := dw_le (cutL 45 s.data.toList).1
    have h2 := cut_le 45 s.data.toList
    rw [← size_l s] at h2
    omega
  rw [e, Option.bind_some]
  dsimp only
  rw [ef, Option.bind_some]
  dsimp only
  obtain ⟨k, rfl⟩ : ∃ z, k = z + 1 := ⟨k - 1, by omega⟩
  have la : a.size = ((cutL 45 s.data.toList).1.takeWhile isD).length := by rw [size_l, ea]
  have ls := size_l s
  unfold parseF
  rw [← la, ← ls]
  by_cases h1 : (a.size : Int) < 1
  · rw [if_pos h1, if_pos (.inl (by omega)), fixed_Parse.j0, if_pos rfl]
  · rw [if_neg h1]
    by_cases h2 : (a.size : Int) > 10
    · rw [if_pos h2, if_pos (.inr (.inl (by omega))), fixed_Parse.j0, if_pos rfl]
    · rw [if_neg h2]
      by_cases h3 : (s.size : Int) > 50
      · rw [decide_eq_true h3, if_pos (.inr (.inr (by omega))), fixed_Parse.j0, if_pos rfl]
      · have ih := parse_loop s b a (cutL 45 s.data.toList).2 hb (by omega) hd a.size 0 k (by omega) (by omega)
        rw [ea, eb] at ih
        rw [decide_eq_false h3, if_neg (by omega), fixed_Parse.j0, if_neg (show ¬ (false = true) by decide)]
        refine Eq.trans ih ?_
        split <;> rfl
end Go.Proofs.Ytenpiaafkmfjfaa.B

end
section
namespace Go.Proofs.Ytenpiaafkmfjfaa.B
open Go.RowKit Go.Proofs.YtenpiaafkmfjfaaW.PrintWords Go.Proofs.YtenpiaafkmfjfaaW.PrintLast Go.Proofs.YtenpiaafkmfjfaaW.PrintMore
attribute [local go_sem] max2_int min2_int max_two min_two max_three min_three max_four min_four
set_option linter.unusedVariables false
set_option linter.unusedSimpArgs false
attribute [local go_sem high] eqA23
def bagatellelaw01_FixedBackw0.f (k : Nat) (a0_0 : Int) (a0_1 : Bool) (a1_0 : Int) (a1_1 : Bool) (a2 : ByteArray) : Option (Bool) := if (a2.size : Int) > 200 then ((bagatellelaw01_awake.f k).bind fun t205 => (some t205)) else (none)
set_option maxHeartbeats 8000000 in
set_option maxRecDepth 100000 in
theorem bagatellelaw01_FixedBackw0.calls (k : Nat) (a0_0 : Int) (a0_1 : Bool) (a1_0 : Int) (a1_1 : Bool) (a2 : ByteArray) (r : Bool) (w : World) (h : bagatellelaw01_FixedBackw0.f k a0_0 a0_1 a1_0 a1_1 a2 = some r) :
    Calls Try.prog 13 #[.agg #[.int .i64 a0_0, .bool a0_1], .agg #[.int .i64 a1_0, .bool a1_1], .string a2] w fun e w' => e = .returned (.bool r) ∧ Below w.heap.size w w' := by
  have hu23 := Try.underlying23
  have HB := Aside0.mk (Below.refl w.heap.size w)
  have H : (if (a2.size : Int) > 200 then ((bagatellelaw01_awake.f k).bind fun t205 => (some t205)) else (none)) = some r := h
  clear h
  by_cases c4 : (a2.size : Int) > 200
  rotate_left
  · rw [if_neg c4] at H; exact absurd H (by simp)
  rw [if_pos c4] at H
  have c4b0 : decide (200 < (a2.size : Int)) = true := decide_eq_true c4
  have c4b1 : decide (200 < a2.size) = true := decide_eq_true (by omega)
  clear c4
  obtain ⟨t205, A50, H⟩ := Option.bind_eq_some_iff.mp H
  (try dsimp only at H)
  have A5 := Aside0.mk A50
  clear A50
  obtain rfl := Option.some.inj H
  go_enter Try.func13, Try.ntmps13
  go_wp2_with (first | ((with_reducible refine gate_dst (N := 3) rfl ?_); refine box_event ?hg (N := 3) ?hd (cs := #[.int .i64 a0_0, .bool a0_1]) (t := 23) ?hr ?_; (case hd => rfl); (case hg => rfl); (case hr => first | (go_simp; done) | (go_simp; rfl)); intro gb203 hg w6 hbox hb; have n0_ := Aside0.mk (below_step (by repeat (first | (with_reducible first | exact HB.out | apply below_alloc | apply pw_below_drewN | apply below_drew1) | exact HB.out)) hb); have n1_ := Aside0.mk (hbox); have n2_ := Aside0.mk ((by rw [hg]; exact (below_size (by repeat (first | (with_reducible first | exact HB.out | apply below_alloc | apply pw_below_drewN | apply below_drew1) | exact HB.out))) : w.heap.size ≤ gb203)); have n3_ := Aside0.mk ((by rw [hg]; exact (below_size (by repeat (first | (with_reducible first | exact HB.out | apply below_alloc | apply pw_below_drewN | apply below_drew1) | exact HB.out))) : w.heap.size ≤ gb203)); clear HB; have HB := n0_; have BK203 := n1_; have GW203 := n2_; have GE203 := n3_; clear n0_ n1_ n2_ n3_; clear hb hbox hg) | ((with_reducible refine gate_dst (N := 4) rfl ?_); refine box_event ?hg (N := 4) ?hd (cs := #[.int .i64 a1_0, .bool a1_1]) (t := 23) ?hr ?_; (case hd => rfl); (case hg => rfl); (case hr => first | (go_simp; done) | (go_simp; rfl)); intro gb204 hg w7 hbox hb; have n0_ := Aside0.mk (blk_below (g := gb203) (o := .cells #[.int .i64 a0_0, .bool a0_1] 23 (0, 0)) (by (with_reducible repeat (first | refine blk_drewN ?_ _ | refine blk_drew ?_ | refine blk_alloc ?_ _)); exact BK203.out) hb); have n1_ := Aside0.mk (below_step (by repeat (first | (with_reducible first | exact HB.out | apply below_alloc | apply pw_below_drewN | apply below_drew1 | refine below_set ?_ GE203.out) | exact HB.out)) hb); have n2_ := Aside0.mk (hbox); have n3_ := Aside0.mk ((by rw [hg]; exact (below_size (by repeat (first | (with_reducible first | exact HB.out | apply below_alloc | apply pw_below_drewN | apply below_drew1 | refine below_set ?_ GE203.out) | exact HB.out))) : w.heap.size ≤ gb204)); have n4_ := Aside0.mk ((by rw [hg]; exact (below_size (by repeat (first | (with_reducible first | exact HB.out | apply below_alloc | apply pw_below_drewN | apply below_drew1 | refine below_set ?_ GE203.out) | exact HB.out))) : w.heap.size ≤ gb204)); have n5_ := Aside0.mk ((by rw [hg]; exact Nat.ne_of_lt (blk_lt (g := gb203) (o := .cells #[.int .i64 a0_0, .bool a0_1] 23 (0, 0)) (by (with_reducible repeat (first | refine blk_drewN ?_ _ | refine blk_drew ?_ | refine blk_alloc ?_ _)); exact BK203.out)) : gb203 ≠ gb204)); have n6_ := Aside0.mk ((by rw [hg]; exact Nat.ne_of_gt (blk_lt (g := gb203) (o := .cells #[.int .i64 a0_0, .bool a0_1] 23 (0, 0)) (by (with_reducible repeat (first | refine blk_drewN ?_ _ | refine blk_drew ?_ | refine blk_alloc ?_ _)); exact BK203.out)) : gb204 ≠ gb203)); clear BK203; clear HB; have BK203 := n0_; have HB := n1_; have BK204 := n2_; have GW204 := n3_; have GE204 := n4_; have NB203_204 := n5_; have NB204_203 := n6_; clear n0_ n1_ n2_ n3_ n4_ n5_ n6_; clear hb hbox hg) | ((with_reducible refine gate_callee (f := 23) rfl ?_); refine goesL_ (some 17) rfl rfl Try.func23 (by kernel_rfl) rfl #[] rfl (by (try simp only [List.map_toArray, List.map_cons, List.map_nil]); first | done | rfl | (simp only [List.length_drop, List.length_take]; rfl)) ?_; (with_reducible refine (bagatellelaw01_awake.calls k  t205 _ A5.out).mono ?_); rintro e w8 ⟨rfl, hb⟩; refine ⟨_, rfl, ?_⟩; have n0_ := Aside0.mk (blk_below (g := gb203) (o := .cells #[.int .i64 a0_0, .bool a0_1] 23 (0, 0)) (by (with_reducible repeat (first | refine blk_drewN ?_ _ | refine blk_drew ?_ | refine blk_alloc ?_ _)); exact BK203.out) hb); have n1_ := Aside0.mk (blk_below (g := gb204) (o := .cells #[.int .i64 a1_0, .bool a1_1] 23 (0, 0)) (by (with_reducible repeat (first | refine blk_drewN ?_ _ | refine blk_drew ?_ | refine blk_alloc ?_ _)); exact BK204.out) hb); have n2_ := Aside0.mk (below_step (by repeat (first | (with_reducible first | exact HB.out | apply below_alloc | apply pw_below_drewN | apply below_drew1 | refine below_set ?_ GE203.out | refine below_set ?_ GE204.out) | exact HB.out)) hb); clear BK203; clear BK204; clear HB; have BK203 := n0_; have BK204 := n1_; have HB := n2_; clear n0_ n1_ n2_; (try clear hb); (try clear hb2); (try clear hk); (try clear hi)))
  go_ret
  exact ⟨by first | rfl | (simp [errW_none, errW_some] <;> rfl) | (simp [*, errW_none, errW_some] <;> rfl), by repeat (first | (with_reducible first | exact HB.out | apply below_alloc | apply pw_below_drewN | apply below_drew1 | refine below_set ?_ GE203.out | refine below_set ?_ GE204.out) | exact HB.out)⟩
end Go.Proofs.Ytenpiaafkmfjfaa.B

end
