/- FixedTexts: part 4 of the proof. -/
import Derived.Test.YtenpiaafkmfjfaaQFixedTexts3
import Derived.Laws.Append
section
namespace Go.Proofs.Ytenpiaafkmfjfaa.B
open Go.RowKit Go.Proofs.YtenpiaafkmfjfaaW.PrintWords Go.Proofs.YtenpiaafkmfjfaaW.PrintLast Go.Proofs.YtenpiaafkmfjfaaW.PrintMore
attribute [local go_sem] max2_int min2_int max_two min_two max_three min_three max_four min_four
set_option linter.unusedVariables false
set_option linter.unusedSimpArgs false
mutual
def fixed_Parse.j0 : Nat → ByteArray → ByteArray → Bool → ByteArray → Bool → Option (Int × Bool × Int)
  | 0, _, _, _, _, _ => none
  | k + 1, x0, x4, x5, x6, x35 => if x35 = true then (some (0, false, 4)) else (fixed_Parse.l0 k x0 x4 x5 x6 0 (x6.size : Int) 0)
def fixed_Parse.l0 : Nat → ByteArray → ByteArray → Bool → ByteArray → Int → Int → Int → Option (Int × Bool × Int)
  | 0, _, _, _, _, _, _, _ => none
  | k + 1, x0, x4, x5, x6, x7, x38, x39 => if x39 < x38 then (if 0 ≤ x39 then (if x39 < (x6.size : Int) then (fixed_Parse.l0 k x0 x4 x5 x6 (IntKind.u64.wrap ((IntKind.u64.wrap (10 * x7)) + (((bt x6 x39) - 48) % 256))) x38 (wrap64 (x39 + 1))) else (none)) else (none)) else (if x7 ≥ 2147483648 then (some (0, false, 4)) else ((strings_CutPrefix.f x4 (⟨#[46]⟩ : ByteArray)).bind fun bt430 => (if bt430.2 = true then ((fixed_figures.f k bt430.1).bind fun bt432 => ((fixed_bits32.f bt432.1).bind fun t434 => (fixed_Parse.j2 k x0 bt432.2 x5 (Go.bits .or .i64 (wrap64 (IntKind.u64.wrap (x7 * 4294967296))) (wrap64 (t434))) false))) else (fixed_Parse.j2 k x0 x4 x5 (wrap64 (IntKind.u64.wrap (x7 * 4294967296))) false))))
def fixed_Parse.j2 : Nat → ByteArray → ByteArray → Bool → Int → Bool → Option (Int × Bool × Int)
  | 0, _, _, _, _, _ => none
  | k + 1, x0, x4, x5, x430000, x430001 => if x5 = true then ((fixed_Text.f (wrap64 (-x430000)) (x4.toList != ([] : List UInt8))).bind fun t435 => (if t435.toList = x0.toList then (some (wrap64 (-x430000), (x4.toList != ([] : List UInt8)), 0)) else (some (0, false, 4)))) else ((fixed_Text.f x430000 (x4.toList != ([] : List UInt8))).bind fun t436 => (if t436.toList = x0.toList then (some (x430000, (x4.toList != ([] : List UInt8)), 0)) else (some (0, false, 4))))
end
def fixed_Parse.f (k : Nat) (a0 : ByteArray) : Option (Int × Bool × Int) := (strings_CutPrefix.f a0 (⟨#[45]⟩ : ByteArray)).bind fun bt425 => ((fixed_figures.f k bt425.1).bind fun bt427 => (if (bt427.1.size : Int) < 1 then (fixed_Parse.j0 k a0 bt427.2 bt425.2 bt427.1 true) else (if (bt427.1.size : Int) > 10 then (fixed_Parse.j0 k a0 bt427.2 bt425.2 bt427.1 true) else (fixed_Parse.j0 k a0 bt427.2 bt425.2 bt427.1 (decide ((a0.size : Int) > 50))))))
def fixed_Parse.T18 : Bool × List (List Nat × List Nat) := (true, [([], []), ([0], [0]), ([], []), ([2], [2]), ([3], [3]), ([1, 4], [1, 4]), ([0, 1, 2, 3, 4, 5], []), ([6, 5, 3, 0, 1, 2, 3, 4, 5], [5, 6])])
def fixed_Parse.B18 : List Nat := [0, 1, 0, 4, 12, 31, 63, 127]
theorem fixed_Parse.tab18 : rtab .any (opsOf Try.f51 18) = fixed_Parse.T18 := by kernel_rfl
theorem fixed_Parse.bits18 : waitsOk fixed_Parse.T18.2 fixed_Parse.B18 = true := by kernel_rfl
set_option maxHeartbeats 8000000 in
set_option maxRecDepth 100000 in
theorem fixed_Parse.calls (k : Nat) (a0 : ByteArray) (r1 : Int) (r2 : Bool) (r3 : Int) (w : World) (h : fixed_Parse.f k a0 = some (r1, r2, r3)) :
    Calls Try.prog 51 #[.string a0] w fun e w' => e = .returned (.tuple #[.agg #[.int .i64 r1, .bool r2], .int .i64 r3]) ∧ Below w.heap.size w w' := by
  have hu23 := Try.underlying23
  have HB := Aside0.mk (Below.refl w.heap.size w)
  have H : ((strings_CutPrefix.f a0 (⟨#[45]⟩ : ByteArray)).bind fun bt425 => ((fixed_figures.f k bt425.1).bind fun bt427 => (if (bt427.1.size : Int) < 1 then (fixed_Parse.j0 k a0 bt427.2 bt425.2 bt427.1 true) else (if (bt427.1.size : Int) > 10 then (fixed_Parse.j0 k a0 bt427.2 bt425.2 bt427.1 true) else (fixed_Parse.j0 k a0 bt427.2 bt425.2 bt427.1 (decide ((a0.size : Int) > 50))))))) = some (r1, r2, r3) := h
  clear h
  replace H := Option.bind_eq_some_iff.mp H
  obtain ⟨⟨t425, t426⟩, A20, H⟩ := H
  replace H : ((fixed_figures.f k t425).bind fun bt427 => (if (bt427.1.size : Int) < 1 then (fixed_Parse.j0 k a0 bt427.2 t426 bt427.1 true) else (if (bt427.1.size : Int) > 10 then (fixed_Parse.j0 k a0 bt427.2 t426 bt427.1 true) else (fixed_Parse.j0 k a0 bt427.2 t426 bt427.1 (decide ((a0.size : Int) > 50)))))) = some (r1, r2, r3) := H
  have A2 := Aside0.mk A20
  clear A20
  replace H := Option.bind_eq_some_iff.mp H
  obtain ⟨⟨t427, t428⟩, A30, H⟩ := H
  replace H : (if (t427.size : Int) < 1 then (fixed_Parse.j0 k a0 t428 t426 t427 true) else (if (t427.size : Int) > 10 then (fixed_Parse.j0 k a0 t428 t426 t427 true) else (fixed_Parse.j0 k a0 t428 t426 t427 (decide ((a0.size : Int) > 50))))) = some (r1, r2, r3) := H
  have A3 := Aside0.mk A30
  clear A30
  have HC4 := Aside0.mk H
  clear H
  go_enter Try.func51, Try.ntmps51
  go_upto_region 3 with (first | ((with_reducible refine gate_dst (N := 2) rfl ?_); (try (refine gate_guard (by rfl) ?_; dsimp only)); refine box_event ?hg (N := 2) ?hd (cs := #[.int .i64 0, .bool false]) (t := 23) ?hr ?_; (case hd => rfl); (case hg => rfl); (case hr => first | (go_simp; done) | (go_simp; rfl)); intro gb424 hg w5 hbox hb; have n0_ := Aside0.mk (below_step (by repeat (first | (with_reducible first | exact HB.out | apply below_alloc | apply pw_below_drewN | apply below_drew1) | exact HB.out)) hb); have n1_ := Aside0.mk (hbox); have n2_ := Aside0.mk ((by rw [hg]; exact (below_size (by repeat (first | (with_reducible first | exact HB.out | apply below_alloc | apply pw_below_drewN | apply below_drew1) | exact HB.out))) : w.heap.size ≤ gb424)); have n3_ := Aside0.mk ((by rw [hg]; exact (below_size (by repeat (first | (with_reducible first | exact HB.out | apply below_alloc | apply pw_below_drewN | apply below_drew1) | exact HB.out))) : w.heap.size ≤ gb424)); clear HB; have HB := n0_; have BK424 := n1_; have GW424 := n2_; have GE424 := n3_; clear n0_ n1_ n2_ n3_; clear hb hbox hg) | ((with_reducible refine gate_callee (f := 92) rfl ?_); refine goesL_ (some 15) rfl rfl Try.func92 (by kernel_rfl) rfl #[.string a0, .string (⟨#[45]⟩ : ByteArray)] rfl (by (try simp only [List.map_toArray, List.map_cons, List.map_nil]); first | done | rfl | (simp only [List.length_drop, List.length_take]; rfl)) ?_; (with_reducible refine (strings_CutPrefix.calls a0 (⟨#[45]⟩ : ByteArray) t425 t426 _ A2.out).mono ?_); rintro e w' ⟨rfl, ⟨nd, rfl⟩⟩; refine ⟨_, rfl, ?_⟩) | ((with_reducible refine gate_callee (f := 93) rfl ?_); refine goesL_ (some 20) rfl rfl Try.func93 (by kernel_rfl) rfl #[.string t425] rfl (by (try simp only [List.map_toArray, List.map_cons, List.map_nil]); first | done | rfl | (simp only [List.length_drop, List.length_take]; rfl)) ?_; (with_reducible refine (fixed_figures.calls k t425 t427 t428 _ A3.out).mono ?_); rintro e w' ⟨rfl, ⟨nd, rfl⟩⟩; refine ⟨_, rfl, ?_⟩))
  (try simp only [Act.put, List.setIfInBounds_toArray, List.set_cons_zero, List.set_cons_succ])
  go_cut [35] (fun v35 wc => ∃ (kq : Nat) (x35_3 : Bool), v35 = .bool x35_3 ∧ Aside0 (fixed_Parse.j0 kq a0 t428 t426 t427 x35_3 = some (r1, r2, r3)) ∧ Aside0 (kq ≤ k) ∧ Aside0 (wc.heap[gb424]? = some (.cells #[.int .i64 0, .bool false] 23 (0, 0))) ∧ Aside0 (Below w.heap.size w wc))
  case first =>
    have H := HC4.out
    clear HC4
    by_cases c6 : (t427.size : Int) < 1
    · rw [if_pos c6] at H
      have c6b0 : decide ((t427.size : Int) < 1) = true := decide_eq_true c6
      have c6b1 : decide (t427.size < 1) = true := decide_eq_true (by omega)
      clear c6
      (first | rw [c6b0] | (simp only [i64_w, i32_w]; rw [c6b0]) | skip)
      have H' := Aside0.mk H
      clear H
      go_wp2
      go_meet
      case rel => exact ⟨_, (true), (by first | rfl | (simp; done) | (simp [*]; done)), H', ⟨by first | omega | exact Nat.le_refl _⟩, ⟨by (with_reducible repeat (first | refine blk_drewN ?_ _ | refine blk_drew ?_ | refine blk_alloc ?_ _)); exact BK424.out⟩, ⟨by repeat (first | (with_reducible first | exact HB.out | apply below_alloc | apply pw_below_drewN | apply below_drew1 | refine below_set ?_ GE424.out) | exact HB.out)⟩⟩
    · rw [if_neg c6] at H
      have c6b0 : decide ((t427.size : Int) < 1) = false := decide_eq_false c6
      have c6b1 : decide (t427.size < 1) = false := decide_eq_false (by omega)
      clear c6
      (first | rw [c6b0] | (simp only [i64_w, i32_w]; rw [c6b0]) | skip)
      by_cases c7 : (t427.size : Int) > 10
      · rw [if_pos c7] at H
        have c7b0 : decide (10 < (t427.size : Int)) = true := decide_eq_true c7
        have c7b1 : decide (10 < t427.size) = true := decide_eq_true (by omega)
        clear c7
        have H' := Aside0.mk H
        clear H
        go_wp2
        go_meet
        case rel => exact ⟨_, (true), (by first | rfl | (simp; done) | (simp [*]; done)), H', ⟨by first | omega | exact Nat.le_refl _⟩, ⟨by (with_reducible repeat (first | refine blk_drewN ?_ _ | refine blk_drew ?_ | refine blk_alloc ?_ _)); exact BK424.out⟩, ⟨by repeat (first | (with_reducible first | exact HB.out | apply below_alloc | apply pw_below_drewN | apply below_drew1 | refine below_set ?_ GE424.out) | exact HB.out)⟩⟩
      · rw [if_neg c7] at H
        have c7b0 : decide (10 < (t427.size : Int)) = false := decide_eq_false c7
        have c7b1 : decide (10 < t427.size) = false := decide_eq_false (by omega)
        clear c7
        have H' := Aside0.mk H
        clear H
        go_wp2
        go_meet
        case rel => exact ⟨_, (decide ((a0.size : Int) > 50)), (by first | rfl | (simp; done) | (simp [*]; done)), H', ⟨by first | omega | exact Nat.le_refl _⟩, ⟨by (with_reducible repeat (first | refine blk_drewN ?_ _ | refine blk_drew ?_ | refine blk_alloc ?_ _)); exact BK424.out⟩, ⟨by repeat (first | (with_reducible first | exact HB.out | apply below_alloc | apply pw_below_drewN | apply below_drew1 | refine below_set ?_ GE424.out) | exact HB.out)⟩⟩
  case rest =>
    clear HC4
    try clear p2
    try clear c5
    try clear c6
    try clear c6b0
    try clear c6b1
    try clear c7
    try clear c7b0
    try clear c7b1
    obtain ⟨kq, x35_3, rfl, HA, HJ3, BK424, HB⟩ := hcut
    cases kq with
    | zero => exact absurd HA.out (by simp [fixed_Parse.j0])
    | succ kj3 =>
      have H := HA.out
      clear HA
      simp only [fixed_Parse.j0] at H
      by_cases c8 : x35_3 = true
      · subst c8
        have H1 : (some (0, false, 4)) = some (r1, r2, r3) := by rw [if_pos rfl] at H; exact H
        clear H
        have H := H1
        clear H1
        simp only [Option.some.injEq, Prod.mk.injEq] at H
        obtain ⟨rfl, rfl, rfl⟩ := H
        have hcz9_0 : wc.cell? ⟨gb424, 0, none⟩ = some (.int .i64 0) := (blk_cell BK424.out 0).trans rfl
        have hcz9_1 : wc.cell? ⟨gb424, 1, none⟩ = some (.bool false) := (blk_cell BK424.out 1).trans rfl
        have hfz9_0 := blk_frozen BK424.out 0
        have hfz9_1 := blk_frozen BK424.out 1
        go_wp2
        refine bodyPost_ret (results_ct rfl _ _ gb424 23 #[.int .i64 0, .bool false] (0, 0) _ rfl (by (with_reducible repeat (first | refine blk_drewN ?_ _ | refine blk_drew ?_ | refine blk_alloc ?_ _)); refine blk_put (cs := #[.int .i64 0, .bool false]) ?_ 1 _ rfl; (with_reducible repeat (first | refine blk_drewN ?_ _ | refine blk_drew ?_ | refine blk_alloc ?_ _)); refine blk_put (cs := #[.int .i64 0, .bool false]) ?_ 0 _ rfl; (with_reducible repeat (first | refine blk_drewN ?_ _ | refine blk_drew ?_ | refine blk_alloc ?_ _)); exact BK424.out) Try.underlying23 rfl (by kernel_rfl)) rfl ?_
        exact ⟨by first | rfl | (simp [errW_none, errW_some] <;> rfl) | (simp [*, errW_none, errW_some] <;> rfl), by repeat (first | (with_reducible first | exact HB.out | apply below_alloc | apply pw_below_drewN | apply below_drew1 | refine below_set ?_ GE424.out) | exact HB.out)⟩
      · replace c8 := Bool.eq_false_iff.mpr c8
        subst c8
        have H1 : (fixed_Parse.l0 kj3 a0 t428 t426 t427 0 (t427.size : Int) 0) = some (r1, r2, r3) := by rw [if_neg (show ¬ (false = true) by decide)] at H; exact H
        clear H
        have H := H1
        clear H1
        have H' := Aside0.mk H
        clear H
        go_wp2
        go_loopg [7, 39] kj3 (fun kq v7 v39 w' => ∃ (x7_2 : Int) (x39_2 : Int), v7 = .int .u64 x7_2 ∧ v39 = .int .i64 x39_2 ∧ Aside0 (fixed_Parse.l0 kq a0 t428 t426 t427 x7_2 (t427.size : Int) x39_2 = some (r1, r2, r3)) ∧ Aside0 (kq ≤ kj3) ∧ Aside0 (w'.heap[gb424]? = some (.cells #[.int .i64 0, .bool false] 23 (0, 0))) ∧ Aside0 (Below w.heap.size w w'))
        case atStart => exact ⟨(0), (0), (by first | rfl | (simp; done) | (simp [*]; done)), (by first | rfl | (simp; done) | (simp [*]; done)), H', ⟨Nat.le_refl _⟩, ⟨by (with_reducible repeat (first | refine blk_drewN ?_ _ | refine blk_drew ?_ | refine blk_alloc ?_ _)); exact BK424.out⟩, ⟨by repeat (first | (with_reducible first | exact HB.out | apply below_alloc | apply pw_below_drewN | apply below_drew1 | refine below_set ?_ GE424.out) | exact HB.out)⟩⟩
        case round =>
          clear H'
          try clear p2
          try clear c5
          try clear c6
          try clear c6b0
          try clear c6b1
          try clear c7
          try clear c7b0
          try clear c7b1
          try clear c8
          try clear c9
          try clear hcz9_0
          try clear hcz9_1
          try clear hfz9_0
          try clear hfz9_1
          try clear p2
          obtain ⟨x7_2, x39_2, rfl, rfl, HA, HK2, BK424, HB⟩ := hrel
          cases gk with
          | zero => exact absurd HA.out (by simp [fixed_Parse.l0])
          | succ k2 =>
            have H := HA.out
            clear HA
            simp only [fixed_Parse.l0] at H
            by_cases c10 : x39_2 < (t427.size : Int)
            · rw [if_pos c10] at H
              have c10b0 : decide (x39_2 < (t427.size : Int)) = true := decide_eq_true c10
              clear c10
              by_cases c11 : 0 ≤ x39_2
              · rw [if_pos c11] at H
                have c11b0 : decide (0 ≤ x39_2) = true := decide_eq_true c11
                clear c11
                by_cases c12 : x39_2 < (t427.size : Int)
                · rw [if_pos c12] at H
                  have c12b0 : decide (x39_2 < (t427.size : Int)) = true := decide_eq_true c12
                  clear c12
                  have H' := Aside0.mk H
                  clear H
                  have p13 : 0 ≤ (x39_2 : Int) := of_decide_eq_true (by first | (with_reducible assumption) | assumption)
                  have q13 : x39_2 < (t427.size : Int) := of_decide_eq_true (by first | (with_reducible assumption) | assumption)
                  have hx13 := bt_at t427 x39_2
                  replace p13 := eq_true p13
                  replace q13 := eq_true q13
                  go_wp2
                  go_roundg k2
                  case measure => have := HJ3.out; have := HK2.out; omega
                  case rel => exact ⟨(IntKind.u64.wrap ((IntKind.u64.wrap (10 * x7_2)) + (((bt t427 x39_2) - 48) % 256))), (wrap64 (x39_2 + 1)), (by first | rfl | (simp; done) | (simp [*]; done)), (by first | rfl | (simp; done) | (simp [*]; done)), H', ⟨by have := HJ3.out; have := HK2.out; omega⟩, ⟨by (with_reducible repeat (first | refine blk_drewN ?_ _ | refine blk_drew ?_ | refine blk_alloc ?_ _)); exact BK424.out⟩, ⟨by repeat (first | (with_reducible first | exact HB.out | apply below_alloc | apply pw_below_drewN | apply below_drew1 | refine below_set ?_ GE424.out) | exact HB.out)⟩⟩
                · rw [if_neg c12] at H
                  exact absurd H (by simp)
              · rw [if_neg c11] at H
                exact absurd H (by simp)
            · rw [if_neg c10] at H
              have c10b0 : decide (x39_2 < (t427.size : Int)) = false := decide_eq_false c10
              clear c10
              by_cases c14 : x7_2 ≥ 2147483648
              · rw [if_pos c14] at H
                have c14b0 : decide (2147483648 ≤ x7_2) = true := decide_eq_true c14
                clear c14
                simp only [Option.some.injEq, Prod.mk.injEq] at H
                obtain ⟨rfl, rfl, rfl⟩ := H
                have hcz15_0 : wr.cell? ⟨gb424, 0, none⟩ = some (.int .i64 0) := (blk_cell BK424.out 0).trans rfl
                have hcz15_1 : wr.cell? ⟨gb424, 1, none⟩ = some (.bool false) := (blk_cell BK424.out 1).trans rfl
                have hfz15_0 := blk_frozen BK424.out 0
                have hfz15_1 := blk_frozen BK424.out 1
                go_wp2
                refine bodyPost_ret (results_ct rfl _ _ gb424 23 #[.int .i64 0, .bool false] (0, 0) _ rfl (by (with_reducible repeat (first | refine blk_drewN ?_ _ | refine blk_drew ?_ | refine blk_alloc ?_ _)); refine blk_put (cs := #[.int .i64 0, .bool false]) ?_ 1 _ rfl; (with_reducible repeat (first | refine blk_drewN ?_ _ | refine blk_drew ?_ | refine blk_alloc ?_ _)); refine blk_put (cs := #[.int .i64 0, .bool false]) ?_ 0 _ rfl; (with_reducible repeat (first | refine blk_drewN ?_ _ | refine blk_drew ?_ | refine blk_alloc ?_ _)); exact BK424.out) Try.underlying23 rfl (by kernel_rfl)) rfl ?_
                exact ⟨by first | rfl | (simp [errW_none, errW_some] <;> rfl) | (simp [*, errW_none, errW_some] <;> rfl), by repeat (first | (with_reducible first | exact HB.out | apply below_alloc | apply pw_below_drewN | apply below_drew1 | refine below_set ?_ GE424.out) | exact HB.out)⟩
              · rw [if_neg c14] at H
                have c14b0 : decide (2147483648 ≤ x7_2) = false := decide_eq_false c14
                clear c14
                replace H := Option.bind_eq_some_iff.mp H
                obtain ⟨⟨t430, t431⟩, A160, H⟩ := H
                replace H : (if t431 = true then ((fixed_figures.f k2 t430).bind fun bt432 => ((fixed_bits32.f bt432.1).bind fun t434 => (fixed_Parse.j2 k2 a0 bt432.2 t426 (Go.bits .or .i64 (wrap64 (IntKind.u64.wrap (x7_2 * 4294967296))) (wrap64 (t434))) false))) else (fixed_Parse.j2 k2 a0 t428 t426 (wrap64 (IntKind.u64.wrap (x7_2 * 4294967296))) false)) = some (r1, r2, r3) := H
                have A16 := Aside0.mk A160
                clear A160
                have HC17 := Aside0.mk H
                clear H
                go_upto_if 63 with (first | ((with_reducible refine gate_dst (N := 9) rfl ?_); (try (refine gate_guard (by rfl) ?_; dsimp only)); refine box_event ?hg (N := 9) ?hd (cs := #[.int .i64 0, .bool false]) (t := 23) ?hr ?_; (case hd => rfl); (case hg => rfl); (case hr => first | (go_simp; done) | (go_simp; rfl)); intro gb429 hg w18 hbox hb; have n0_ := Aside0.mk (blk_below (g := gb424) (o := .cells #[.int .i64 0, .bool false] 23 (0, 0)) (by (with_reducible repeat (first | refine blk_drewN ?_ _ | refine blk_drew ?_ | refine blk_alloc ?_ _)); exact BK424.out) hb); have n1_ := Aside0.mk (below_step (by repeat (first | (with_reducible first | exact HB.out | apply below_alloc | apply pw_below_drewN | apply below_drew1 | refine below_set ?_ GE424.out) | exact HB.out)) hb); have n2_ := Aside0.mk (hbox); have n3_ := Aside0.mk ((by rw [hg]; exact (below_size (by repeat (first | (with_reducible first | exact HB.out | apply below_alloc | apply pw_below_drewN | apply below_drew1 | refine below_set ?_ GE424.out) | exact HB.out))) : w.heap.size ≤ gb429)); have n4_ := Aside0.mk ((by rw [hg]; exact (below_size (by repeat (first | (with_reducible first | exact HB.out | apply below_alloc | apply pw_below_drewN | apply below_drew1 | refine below_set ?_ GE424.out) | exact HB.out))) : w.heap.size ≤ gb429)); have n5_ := Aside0.mk ((by rw [hg]; exact Nat.ne_of_lt (blk_lt (g := gb424) (o := .cells #[.int .i64 0, .bool false] 23 (0, 0)) (by (with_reducible repeat (first | refine blk_drewN ?_ _ | refine blk_drew ?_ | refine blk_alloc ?_ _)); exact BK424.out)) : gb424 ≠ gb429)); have n6_ := Aside0.mk ((by rw [hg]; exact Nat.ne_of_gt (blk_lt (g := gb424) (o := .cells #[.int .i64 0, .bool false] 23 (0, 0)) (by (with_reducible repeat (first | refine blk_drewN ?_ _ | refine blk_drew ?_ | refine blk_alloc ?_ _)); exact BK424.out)) : gb429 ≠ gb424)); clear BK424; clear HB; have BK424 := n0_; have HB := n1_; have BK429 := n2_; have GW429 := n3_; have GE429 := n4_; have NB424_429 := n5_; have NB429_424 := n6_; clear n0_ n1_ n2_ n3_ n4_ n5_ n6_; clear hb hbox hg; have hnb19 := NB429_424.out; have hnc19 := NB424_429.out; have hcz20_0 : w18.cell? ⟨gb429, 0, none⟩ = some (.int .i64 0) := (blk_cell BK429.out 0).trans rfl; have hcz20_1 : w18.cell? ⟨gb429, 1, none⟩ = some (.bool false) := (blk_cell BK429.out 1).trans rfl; have hfz20_0 := blk_frozen BK429.out 0; have hfz20_1 := blk_frozen BK429.out 1) | ((with_reducible refine gate_callee (f := 92) rfl ?_); refine goesL_ (some 60) rfl rfl Try.func92 (by kernel_rfl) rfl #[.string t428, .string (⟨#[46]⟩ : ByteArray)] rfl (by (try simp only [List.map_toArray, List.map_cons, List.map_nil]); first | done | rfl | (simp only [List.length_drop, List.length_take]; rfl)) ?_; (with_reducible refine (strings_CutPrefix.calls t428 (⟨#[46]⟩ : ByteArray) t430 t431 _ A16.out).mono ?_); rintro e w' ⟨rfl, ⟨nd, rfl⟩⟩; refine ⟨_, rfl, ?_⟩))
                (try simp only [Act.put, List.setIfInBounds_toArray, List.set_cons_zero, List.set_cons_succ])
                go_cut [4] (fun v4 wc => ∃ (kq : Nat) (x4_16 : ByteArray) (x430000_16 : Int), v4 = .string x4_16 ∧ Aside0 (fixed_Parse.j2 kq a0 x4_16 t426 x430000_16 false = some (r1, r2, r3)) ∧ Aside0 (kq ≤ k2) ∧ Aside0 (wc.heap[gb424]? = some (.cells #[.int .i64 0, .bool false] 23 (0, 0))) ∧ Aside0 (wc.heap[gb429]? = some (.cells #[.int .i64 x430000_16, .bool false] 23 (0, 0))) ∧ Aside0 (Below w.heap.size w wc))
                case first =>
                  have H := HC17.out
                  clear HC17
                  by_cases c21 : t431 = true
                  · subst c21
                    have H1 : ((fixed_figures.f k2 t430).bind fun bt432 => ((fixed_bits32.f bt432.1).bind fun t434 => (fixed_Parse.j2 k2 a0 bt432.2 t426 (Go.bits .or .i64 (wrap64 (IntKind.u64.wrap (x7_2 * 4294967296))) (wrap64 (t434))) false))) = some (r1, r2, r3) := by rw [if_pos rfl] at H; exact H
                    clear H
                    have H := H1
                    clear H1
                    replace H := Option.bind_eq_some_iff.mp H
                    obtain ⟨⟨t432, t433⟩, A220, H⟩ := H
                    replace H : ((fixed_bits32.f t432).bind fun t434 => (fixed_Parse.j2 k2 a0 t433 t426 (Go.bits .or .i64 (wrap64 (IntKind.u64.wrap (x7_2 * 4294967296))) (wrap64 (t434))) false)) = some (r1, r2, r3) := H
                    have A22 := Aside0.mk A220
                    clear A220
                    replace H := Option.bind_eq_some_iff.mp H
                    obtain ⟨t434, A230, H⟩ := H
                    replace H : (fixed_Parse.j2 k2 a0 t433 t426 (Go.bits .or .i64 (wrap64 (IntKind.u64.wrap (x7_2 * 4294967296))) (wrap64 (t434))) false) = some (r1, r2, r3) := H
                    have A23 := Aside0.mk A230
                    clear A230
                    have H' := Aside0.mk H
                    clear H
                    try go_wp2_with (first | ((with_reducible refine gate_callee (f := 93) rfl ?_); refine goesL_ (some 66) rfl rfl Try.func93 (by kernel_rfl) rfl #[.string t430] rfl (by (try simp only [List.map_toArray, List.map_cons, List.map_nil]); first | done | rfl | (simp only [List.length_drop, List.length_take]; rfl)) ?_; (with_reducible refine (fixed_figures.calls k2 t430 t432 t433 _ A22.out).mono ?_); rintro e w' ⟨rfl, ⟨nd, rfl⟩⟩; refine ⟨_, rfl, ?_⟩))
                    have n0_ : Aside0 (((w18.setCell ⟨gb429, 0, none⟩ (.int .i64 (wrap64 (IntKind.u64.wrap (x7_2 * 4294967296))))).setCell ⟨gb429, 1, none⟩ (.bool false)).heap[gb424]? = some (.cells #[.int .i64 0, .bool false] 23 (0, 0))) := ⟨by (with_reducible repeat (first | refine blk_drewN ?_ _ | refine blk_drew ?_ | refine blk_alloc ?_ _)); refine blk_far ?_ NB424_429.out _; (with_reducible repeat (first | refine blk_drewN ?_ _ | refine blk_drew ?_ | refine blk_alloc ?_ _)); refine blk_far ?_ NB424_429.out _; (with_reducible repeat (first | refine blk_drewN ?_ _ | refine blk_drew ?_ | refine blk_alloc ?_ _)); exact BK424.out⟩
                    have n1_ : Aside0 (((w18.setCell ⟨gb429, 0, none⟩ (.int .i64 (wrap64 (IntKind.u64.wrap (x7_2 * 4294967296))))).setCell ⟨gb429, 1, none⟩ (.bool false)).heap[gb429]? = some (.cells #[.int .i64 (wrap64 (IntKind.u64.wrap (x7_2 * 4294967296))), .bool false] 23 (0, 0))) := ⟨by (with_reducible repeat (first | refine blk_drewN ?_ _ | refine blk_drew ?_ | refine blk_alloc ?_ _)); refine blk_put (cs := #[.int .i64 (wrap64 (IntKind.u64.wrap (x7_2 * 4294967296))), .bool false]) ?_ 1 _ rfl; (with_reducible repeat (first | refine blk_drewN ?_ _ | refine blk_drew ?_ | refine blk_alloc ?_ _)); refine blk_put (cs := #[.int .i64 0, .bool false]) ?_ 0 _ rfl; (with_reducible repeat (first | refine blk_drewN ?_ _ | refine blk_drew ?_ | refine blk_alloc ?_ _)); exact BK429.out⟩
                    have n2_ : Aside0 (Below w.heap.size w ((w18.setCell ⟨gb429, 0, none⟩ (.int .i64 (wrap64 (IntKind.u64.wrap (x7_2 * 4294967296))))).setCell ⟨gb429, 1, none⟩ (.bool false))) := ⟨by repeat (first | (with_reducible first | exact HB.out | apply below_alloc | apply pw_below_drewN | apply below_drew1 | refine below_set ?_ GE424.out | refine below_set ?_ GE429.out) | exact HB.out)⟩
                    (try clear BK424)
                    (try clear BK429)
                    (try clear HB)
                    generalize ((w18.setCell ⟨gb429, 0, none⟩ (.int .i64 (wrap64 (IntKind.u64.wrap (x7_2 * 4294967296))))).setCell ⟨gb429, 1, none⟩ (.bool false)) = w24 at n0_ n1_ n2_ ⊢
                    have BK424 := n0_
                    have BK429 := n1_
                    have HB := n2_
                    clear n0_ n1_ n2_
                    (try (rw [drewN_self w24]; generalize hq_ : World.drewN w24 _ = w24; have n0_ : Aside0 (w24.heap[gb424]? = some (.cells #[.int .i64 0, .bool false] 23 (0, 0))) := ⟨by rw [← hq_]; exact (by (with_reducible repeat (first | refine blk_drewN ?_ _ | refine blk_drew ?_ | refine blk_alloc ?_ _)); exact BK424.out)⟩; have n1_ : Aside0 (w24.heap[gb429]? = some (.cells #[.int .i64 (wrap64 (IntKind.u64.wrap (x7_2 * 4294967296))), .bool false] 23 (0, 0))) := ⟨by rw [← hq_]; exact (by (with_reducible repeat (first | refine blk_drewN ?_ _ | refine blk_drew ?_ | refine blk_alloc ?_ _)); exact BK429.out)⟩; have n2_ : Aside0 (Below w.heap.size w w24) := ⟨by rw [← hq_]; exact (by repeat (first | (with_reducible first | exact HB.out | apply below_alloc | apply pw_below_drewN | apply below_drew1 | refine below_set ?_ GE424.out | refine below_set ?_ GE429.out) | exact HB.out))⟩; clear BK424 BK429 HB hq_; have BK424 := n0_; have BK429 := n1_; have HB := n2_; clear n0_ n1_ n2_))
                    have n0_ := Aside0.mk (blk_drew BK424.out)
                    have n1_ := Aside0.mk (blk_drew BK429.out)
                    have n2_ := Aside0.mk (below_drew1 HB.out)
                    clear BK424
                    clear BK429
                    clear HB
                    have BK424 := n0_
                    have BK429 := n1_
                    have HB := n2_
                    clear n0_ n1_ n2_
                    refine start_ (n := 8) (S := fun w' => w'.cell? ⟨gb429, 0, none⟩ = some (.int .i64 (wrap64 (IntKind.u64.wrap (x7_2 * 4294967296)))) ∧ w'.cell? ⟨gb429, 1, none⟩ = some (.bool false)) (ds := [7]) #[false, false, false, false, false, false, false, false] (by kernel_rfl) rfl rfl ⟨(blk_cell BK429.out 0).trans rfl, (blk_cell BK429.out 1).trans rfl⟩ (fun hHeld => ?_); refine with_tabW fixed_Parse.tab18 fixed_Parse.bits18 (fun HT_ HW_ => ?_)
                    generalize w24.drew = w25 at BK424 BK429 HB hHeld ⊢
                    refine pure_ (i := 0) (N := some 69) (v := ?_) (a' := ?_) #[true, false, false, false, false, false, false, false] rfl rfl (any_of HT_.out (by kernel_rfl)) (fun _ _ _ h => h) (Or.inl ⟨by rfl, ?_⟩) ?_ ?_
                    rotate_left
                    · intro w'
                      go_simp
                      with_reducible rfl
                    rotate_left
                    · simp only [Act.put, List.setIfInBounds_toArray, List.set_cons_zero, List.set_cons_succ, i64_w, i32_w]
                      rfl
                    refine pure_ (i := 2) (N := some 71) (v := ?_) (a' := ?_) #[true, false, true, false, false, false, false, false] rfl rfl (any_of HT_.out (by kernel_rfl)) (fun _ _ _ h => h) (Or.inl ⟨by rfl, ?_⟩) ?_ ?_
                    rotate_left
                    · intro w'
                      go_simp
                      with_reducible rfl
                    rotate_left
                    · simp only [Act.put, List.setIfInBounds_toArray, List.set_cons_zero, List.set_cons_succ, i64_w, i32_w]
                      rfl
                    refine take_ (i := 1) (N := some 70) (v := ?_) (a' := ?_) #[true, true, true, false, false, false, false, false] rfl rfl (take_ofW HT_.out HW_.out (by kernel_rfl)) (fun _ _ _ h => h) (Or.inl ⟨by rfl, ?_⟩) hHeld ?_ ?_
                    rotate_left
                    · rintro w' ⟨s0, s1⟩
                      go_simp
                      with_reducible rfl
                    rotate_left
                    · simp only [Act.put, List.setIfInBounds_toArray, List.set_cons_zero, List.set_cons_succ, i64_w, i32_w]
                      rfl
                    refine one_ (i := 3) (N := some 72) #[true, true, true, true, false, false, false, false] rfl rfl (one_of HT_.out (by kernel_rfl)) (by decide) (fun K hK => ?_)
                    refine goes_ Try.func94 (by kernel_rfl) rfl #[.string t432] (by rfl) rfl rfl (by (try simp only [List.map_toArray, List.map_cons, List.map_nil]); first | done | rfl | (simp only [List.length_drop, List.length_take]; rfl)) ?_
                    with_reducible refine (fixed_bits32.calls t432 t434 _ A23.out).mono ?_
                    rintro e w26 ⟨rfl, hb⟩
                    refine ⟨_, rfl, ?_⟩
                    have n0_ := Aside0.mk (blk_below (g := gb424) (o := .cells #[.int .i64 0, .bool false] 23 (0, 0)) (by (with_reducible repeat (first | refine blk_drewN ?_ _ | refine blk_drew ?_ | refine blk_alloc ?_ _)); exact BK424.out) hb)
                    have n1_ := Aside0.mk (blk_below (g := gb429) (o := .cells #[.int .i64 (wrap64 (IntKind.u64.wrap (x7_2 * 4294967296))), .bool false] 23 (0, 0)) (by (with_reducible repeat (first | refine blk_drewN ?_ _ | refine blk_drew ?_ | refine blk_alloc ?_ _)); exact BK429.out) hb)
                    have n2_ := Aside0.mk (below_step (by repeat (first | (with_reducible first | exact HB.out | apply below_alloc | apply pw_below_drewN | apply below_drew1 | refine below_set ?_ GE424.out | refine below_set ?_ GE429.out) | exact HB.out)) hb)
                    clear BK424
                    clear BK429
                    clear HB
                    have BK424 := n0_
                    have BK429 := n1_
                    have HB := n2_
                    clear n0_ n1_ n2_
                    (try clear hb)
                    (try clear hb2)
                    (try clear hk)
                    (try clear hi)
                    refine hK.out _ _ ⟨(blk_cell BK429.out 0).trans rfl, (blk_cell BK429.out 1).trans rfl⟩ (fun hHeld => ?_)
                    clear hK K
                    refine norm_ (a' := ?_) ?_ ?_
                    rotate_left
                    · show Act.put _ (some 72) _ = _
                      simp only [Act.put, List.setIfInBounds_toArray, List.set_cons_zero, List.set_cons_succ, i64_w, i32_w]
                      rfl
                    refine pure_ (i := 4) (N := some 73) (v := ?_) (a' := ?_) #[true, true, true, true, true, false, false, false] rfl rfl (any_of HT_.out (by kernel_rfl)) (fun _ _ _ h => h) (Or.inl ⟨by rfl, ?_⟩) ?_ ?_
                    rotate_left
                    · intro w'
                      go_simp
                      with_reducible rfl
                    rotate_left
                    · simp only [Act.put, List.setIfInBounds_toArray, List.set_cons_zero, List.set_cons_succ, i64_w, i32_w]
                      rfl
                    refine pure_ (i := 5) (N := some 74) (v := ?_) (a' := ?_) #[true, true, true, true, true, true, false, false] rfl rfl (any_of HT_.out (by kernel_rfl)) (fun _ _ _ h => h) (Or.inl ⟨by rfl, ?_⟩) ?_ ?_
                    rotate_left
                    · intro w'
                      go_simp
                      with_reducible rfl
                    rotate_left
                    · simp only [Act.put, List.setIfInBounds_toArray, List.set_cons_zero, List.set_cons_succ, i64_w, i32_w]
                      rfl
                    refine pure_ (i := 6) (N := some 75) (v := ?_) (a' := ?_) #[true, true, true, true, true, true, true, false] rfl rfl (any_of HT_.out (by kernel_rfl)) (fun _ _ _ h => h) (Or.inl ⟨by rfl, ?_⟩) ?_ ?_
                    rotate_left
                    · intro w'
                      go_simp
                      with_reducible rfl
                    rotate_left
                    · simp only [Act.put, List.setIfInBounds_toArray, List.set_cons_zero, List.set_cons_succ, i64_w, i32_w]
                      rfl
                    refine last_ (i := 7) (N := none) #[true, true, true, true, true, true, true, true] rfl rfl (one_of HT_.out (by kernel_rfl)) (by decide) (fun K hK => ?_)
                    have hs27 : w26.cell? ⟨gb429, 0, none⟩ = some (.int .i64 (wrap64 (IntKind.u64.wrap (x7_2 * 4294967296)))) := (blk_cell BK429.out 0).trans rfl
                    have hfs27 := blk_frozen BK429.out 0
                    have hns27_0 := NB424_429.out
                    have hms27_0 := NB429_424.out
                    refine skip_ (w1 := ?_) (by rfl) rfl ?_ ?_
                    rotate_left
                    · go_simp
                      rfl
                    refine hK.out _ _ ?_
                    clear hK K
                    refine done_ (done_of HT_.out (by kernel_rfl)) ?_
                    try go_wp2
                    go_meet
                    case rel => exact ⟨_, (t433), (Go.bits .or .i64 (wrap64 (IntKind.u64.wrap (x7_2 * 4294967296))) (wrap64 (t434))), (by first | rfl | (simp; done) | (simp [*]; done)), H', ⟨by have := HJ3.out; have := HK2.out; first | omega | exact Nat.le_refl _⟩, ⟨by (with_reducible repeat (first | refine blk_drewN ?_ _ | refine blk_drew ?_ | refine blk_alloc ?_ _)); refine blk_far ?_ NB424_429.out _; (with_reducible repeat (first | refine blk_drewN ?_ _ | refine blk_drew ?_ | refine blk_alloc ?_ _)); exact BK424.out⟩, ⟨by (with_reducible repeat (first | refine blk_drewN ?_ _ | refine blk_drew ?_ | refine blk_alloc ?_ _)); refine blk_put (cs := #[.int .i64 (wrap64 (IntKind.u64.wrap (x7_2 * 4294967296))), .bool false]) ?_ 0 _ rfl; (with_reducible repeat (first | refine blk_drewN ?_ _ | refine blk_drew ?_ | refine blk_alloc ?_ _)); exact BK429.out⟩, ⟨by repeat (first | (with_reducible first | exact HB.out | apply below_alloc | apply pw_below_drewN | apply below_drew1 | refine below_set ?_ GE424.out | refine below_set ?_ GE429.out) | exact HB.out)⟩⟩
                  · replace c21 := Bool.eq_false_iff.mpr c21
                    subst c21
                    have H1 : (fixed_Parse.j2 k2 a0 t428 t426 (wrap64 (IntKind.u64.wrap (x7_2 * 4294967296))) false) = some (r1, r2, r3) := by rw [if_neg (show ¬ (false = true) by decide)] at H; exact H
                    clear H
                    have H := H1
                    clear H1
                    have H' := Aside0.mk H
                    clear H
                    go_wp2
                    go_meet
                    case rel => exact ⟨_, (t428), (wrap64 (IntKind.u64.wrap (x7_2 * 4294967296))), (by first | rfl | (simp; done) | (simp [*]; done)), H', ⟨by have := HJ3.out; have := HK2.out; first | omega | exact Nat.le_refl _⟩, ⟨by (with_reducible repeat (first | refine blk_drewN ?_ _ | refine blk_drew ?_ | refine blk_alloc ?_ _)); refine blk_far ?_ NB424_429.out _; (with_reducible repeat (first | refine blk_drewN ?_ _ | refine blk_drew ?_ | refine blk_alloc ?_ _)); refine blk_far ?_ NB424_429.out _; (with_reducible repeat (first | refine blk_drewN ?_ _ | refine blk_drew ?_ | refine blk_alloc ?_ _)); exact BK424.out⟩, ⟨by (with_reducible repeat (first | refine blk_drewN ?_ _ | refine blk_drew ?_ | refine blk_alloc ?_ _)); refine blk_put (cs := #[.int .i64 (wrap64 (IntKind.u64.wrap (x7_2 * 4294967296))), .bool false]) ?_ 1 _ rfl; (with_reducible repeat (first | refine blk_drewN ?_ _ | refine blk_drew ?_ | refine blk_alloc ?_ _)); refine blk_put (cs := #[.int .i64 0, .bool false]) ?_ 0 _ rfl; (with_reducible repeat (first | refine blk_drewN ?_ _ | refine blk_drew ?_ | refine blk_alloc ?_ _)); exact BK429.out⟩, ⟨by repeat (first | (with_reducible first | exact HB.out | apply below_alloc | apply pw_below_drewN | apply below_drew1 | refine below_set ?_ GE424.out | refine below_set ?_ GE429.out) | exact HB.out)⟩⟩
                case rest =>
                  clear HC17
                  try clear c1
                  try clear p1
                  try clear q1
                  try clear hx1
                  try clear c2
                  try clear p2
                  try clear c5
                  try clear c6
                  try clear c6b0
                  try clear c6b1
                  try clear p6
                  try clear c7
                  try clear c7b0
                  try clear c7b1
                  try clear c8
                  try clear c9
                  try clear c10
                  try clear c10b0
                  try clear c11
                  try clear c11b0
                  try clear c12
                  try clear c12b0
                  try clear p13
                  try clear q13
                  try clear hx13
                  try clear c14
                  try clear c14b0
                  try clear c19
                  try clear c21
                  try clear hcz15_0
                  try clear hcz15_1
                  try clear hcz20_0
                  try clear hcz20_1
                  try clear hcz9_0
                  try clear hcz9_1
                  try clear hfz15_0
                  try clear hfz15_1
                  try clear hfz20_0
                  try clear hfz20_1
                  try clear hfz9_0
                  try clear hfz9_1
                  try clear p13
                  try clear p2
                  try clear q13
                  obtain ⟨kq, x4_16, x430000_16, rfl, HA, HJ16, BK424, BK429, HB⟩ := hcut
                  cases kq with
                  | zero => exact absurd HA.out (by simp [fixed_Parse.j2])
                  | succ kj16 =>
                    have H := HA.out
                    clear HA
                    simp only [fixed_Parse.j2] at H
                    rw [show (x4_16.toList != ([] : List UInt8)) = (!x4_16.toList.isEmpty) from by cases x4_16.toList <;> rfl] at H
                    by_cases c28 : t426 = true
                    · subst c28
                      have H1 : ((fixed_Text.f (wrap64 (-x430000_16)) (!x4_16.toList.isEmpty)).bind fun t435 => (if t435.toList = a0.toList then (some (wrap64 (-x430000_16), (!x4_16.toList.isEmpty), 0)) else (some (0, false, 4)))) = some (r1, r2, r3) := by rw [if_pos rfl] at H; exact H
                      clear H
                      have H := H1
                      clear H1
                      replace H := Option.bind_eq_some_iff.mp H
                      obtain ⟨t435, A290, H⟩ := H
                      replace H : (if t435.toList = a0.toList then (some (wrap64 (-x430000_16), (!x4_16.toList.isEmpty), 0)) else (some (0, false, 4))) = some (r1, r2, r3) := H
                      have A29 := Aside0.mk A290
                      clear A290
                      by_cases c30 : t435.toList = a0.toList
                      · rw [if_pos c30] at H
                        have c30b0 : (t435.toList == a0.toList) = true := beq_iff_eq.mpr c30
                        have c30b1 : (t435.toList != a0.toList) = false := bne_eq_false_iff_eq.mpr c30
                        clear c30
                        simp only [Option.some.injEq, Prod.mk.injEq] at H
                        obtain ⟨rfl, rfl, rfl⟩ := H
                        have hnb31 := NB429_424.out
                        have hnc31 := NB424_429.out
                        have hcz32_0 : wc.cell? ⟨gb429, 0, none⟩ = some (.int .i64 x430000_16) := (blk_cell BK429.out 0).trans rfl
                        have hcz32_1 : wc.cell? ⟨gb429, 1, none⟩ = some (.bool false) := (blk_cell BK429.out 1).trans rfl
                        have hfz32_0 := blk_frozen BK429.out 0
                        have hfz32_1 := blk_frozen BK429.out 1
                        go_wp2_with (first | ((with_reducible refine gate_callee (f := 67) rfl ?_); refine goesL_ (some 85) rfl rfl Try.func67 (by kernel_rfl) rfl #[.agg #[.int .i64 (wrap64 (-x430000_16)), .bool (!x4_16.toList.isEmpty)]] rfl (by (try simp only [List.map_toArray, List.map_cons, List.map_nil]); first | done | rfl | (simp only [List.length_drop, List.length_take]; rfl)) ?_; (with_reducible refine (fixed_Text.calls (wrap64 (-x430000_16)) (!x4_16.toList.isEmpty) t435 _ A29.out).mono ?_); rintro e w33 ⟨rfl, hb⟩; refine ⟨_, rfl, ?_⟩; have n0_ := Aside0.mk (blk_below (g := gb424) (o := .cells #[.int .i64 0, .bool false] 23 (0, 0)) (by (with_reducible repeat (first | refine blk_drewN ?_ _ | refine blk_drew ?_ | refine blk_alloc ?_ _)); refine blk_far ?_ NB424_429.out _; (with_reducible repeat (first | refine blk_drewN ?_ _ | refine blk_drew ?_ | refine blk_alloc ?_ _)); refine blk_far ?_ NB424_429.out _; (with_reducible repeat (first | refine blk_drewN ?_ _ | refine blk_drew ?_ | refine blk_alloc ?_ _)); exact BK424.out) hb); have n1_ := Aside0.mk (blk_below (g := gb429) (o := .cells #[.int .i64 (wrap64 (-x430000_16)), .bool (!x4_16.toList.isEmpty)] 23 (0, 0)) (by (with_reducible repeat (first | refine blk_drewN ?_ _ | refine blk_drew ?_ | refine blk_alloc ?_ _)); refine blk_put (cs := #[.int .i64 (wrap64 (-x430000_16)), .bool false]) ?_ 1 _ rfl; (with_reducible repeat (first | refine blk_drewN ?_ _ | refine blk_drew ?_ | refine blk_alloc ?_ _)); refine blk_put (cs := #[.int .i64 x430000_16, .bool false]) ?_ 0 _ rfl; (with_reducible repeat (first | refine blk_drewN ?_ _ | refine blk_drew ?_ | refine blk_alloc ?_ _)); exact BK429.out) hb); have n2_ := Aside0.mk (below_step (by repeat (first | (with_reducible first | exact HB.out | apply below_alloc | apply pw_below_drewN | apply below_drew1 | refine below_set ?_ GE424.out | refine below_set ?_ GE429.out) | exact HB.out)) hb); clear BK424; clear BK429; clear HB; have BK424 := n0_; have BK429 := n1_; have HB := n2_; clear n0_ n1_ n2_; (try clear hb); (try clear hb2); (try clear hk); (try clear hi); have hcz34_0 : w33.cell? ⟨gb429, 0, none⟩ = some (.int .i64 (wrap64 (-x430000_16))) := (blk_cell BK429.out 0).trans rfl; have hcz34_1 : w33.cell? ⟨gb429, 1, none⟩ = some (.bool (!x4_16.toList.isEmpty)) := (blk_cell BK429.out 1).trans rfl; have hfz34_0 := blk_frozen BK429.out 0; have hfz34_1 := blk_frozen BK429.out 1; have hcz35_0 : w33.cell? ⟨gb424, 0, none⟩ = some (.int .i64 0) := (blk_cell BK424.out 0).trans rfl; have hcz35_1 : w33.cell? ⟨gb424, 1, none⟩ = some (.bool false) := (blk_cell BK424.out 1).trans rfl; have hfz35_0 := blk_frozen BK424.out 0; have hfz35_1 := blk_frozen BK424.out 1))
                        refine bodyPost_ret (results_ct rfl _ _ gb424 23 #[.int .i64 (wrap64 (-x430000_16)), .bool (!x4_16.toList.isEmpty)] (0, 0) _ rfl (by (with_reducible repeat (first | refine blk_drewN ?_ _ | refine blk_drew ?_ | refine blk_alloc ?_ _)); refine blk_put (cs := #[.int .i64 (wrap64 (-x430000_16)), .bool false]) ?_ 1 _ rfl; (with_reducible repeat (first | refine blk_drewN ?_ _ | refine blk_drew ?_ | refine blk_alloc ?_ _)); refine blk_put (cs := #[.int .i64 0, .bool false]) ?_ 0 _ rfl; (with_reducible repeat (first | refine blk_drewN ?_ _ | refine blk_drew ?_ | refine blk_alloc ?_ _)); exact BK424.out) Try.underlying23 rfl (by kernel_rfl)) rfl ?_
                        exact ⟨by first | rfl | (simp [errW_none, errW_some] <;> rfl) | (simp [*, errW_none, errW_some] <;> rfl), by repeat (first | (with_reducible first | exact HB.out | apply below_alloc | apply pw_below_drewN | apply below_drew1 | refine below_set ?_ GE424.out | refine below_set ?_ GE429.out) | exact HB.out)⟩
                      · rw [if_neg c30] at H
                        have c30b0 : (t435.toList == a0.toList) = false := beq_eq_false_iff_ne.mpr c30
                        have c30b1 : (t435.toList != a0.toList) = true := bne_iff_ne.mpr c30
                        simp only [Option.some.injEq, Prod.mk.injEq] at H
                        obtain ⟨rfl, rfl, rfl⟩ := H
                        have hnb36 := NB429_424.out
                        have hnc36 := NB424_429.out
                        have hcz37_0 : wc.cell? ⟨gb429, 0, none⟩ = some (.int .i64 x430000_16) := (blk_cell BK429.out 0).trans rfl
                        have hcz37_1 : wc.cell? ⟨gb429, 1, none⟩ = some (.bool false) := (blk_cell BK429.out 1).trans rfl
                        have hfz37_0 := blk_frozen BK429.out 0
                        have hfz37_1 := blk_frozen BK429.out 1
                        go_wp2_with (first | ((with_reducible refine gate_callee (f := 67) rfl ?_); refine goesL_ (some 85) rfl rfl Try.func67 (by kernel_rfl) rfl #[.agg #[.int .i64 (wrap64 (-x430000_16)), .bool (!x4_16.toList.isEmpty)]] rfl (by (try simp only [List.map_toArray, List.map_cons, List.map_nil]); first | done | rfl | (simp only [List.length_drop, List.length_take]; rfl)) ?_; (with_reducible refine (fixed_Text.calls (wrap64 (-x430000_16)) (!x4_16.toList.isEmpty) t435 _ A29.out).mono ?_); rintro e w38 ⟨rfl, hb⟩; refine ⟨_, rfl, ?_⟩; have n0_ := Aside0.mk (blk_below (g := gb424) (o := .cells #[.int .i64 0, .bool false] 23 (0, 0)) (by (with_reducible repeat (first | refine blk_drewN ?_ _ | refine blk_drew ?_ | refine blk_alloc ?_ _)); refine blk_far ?_ NB424_429.out _; (with_reducible repeat (first | refine blk_drewN ?_ _ | refine blk_drew ?_ | refine blk_alloc ?_ _)); refine blk_far ?_ NB424_429.out _; (with_reducible repeat (first | refine blk_drewN ?_ _ | refine blk_drew ?_ | refine blk_alloc ?_ _)); exact BK424.out) hb); have n1_ := Aside0.mk (blk_below (g := gb429) (o := .cells #[.int .i64 (wrap64 (-x430000_16)), .bool (!x4_16.toList.isEmpty)] 23 (0, 0)) (by (with_reducible repeat (first | refine blk_drewN ?_ _ | refine blk_drew ?_ | refine blk_alloc ?_ _)); refine blk_put (cs := #[.int .i64 (wrap64 (-x430000_16)), .bool false]) ?_ 1 _ rfl; (with_reducible repeat (first | refine blk_drewN ?_ _ | refine blk_drew ?_ | refine blk_alloc ?_ _)); refine blk_put (cs := #[.int .i64 x430000_16, .bool false]) ?_ 0 _ rfl; (with_reducible repeat (first | refine blk_drewN ?_ _ | refine blk_drew ?_ | refine blk_alloc ?_ _)); exact BK429.out) hb); have n2_ := Aside0.mk (below_step (by repeat (first | (with_reducible first | exact HB.out | apply below_alloc | apply pw_below_drewN | apply below_drew1 | refine below_set ?_ GE424.out | refine below_set ?_ GE429.out) | exact HB.out)) hb); clear BK424; clear BK429; clear HB; have BK424 := n0_; have BK429 := n1_; have HB := n2_; clear n0_ n1_ n2_; (try clear hb); (try clear hb2); (try clear hk); (try clear hi); have hcz39_0 : w38.cell? ⟨gb424, 0, none⟩ = some (.int .i64 0) := (blk_cell BK424.out 0).trans rfl; have hcz39_1 : w38.cell? ⟨gb424, 1, none⟩ = some (.bool false) := (blk_cell BK424.out 1).trans rfl; have hfz39_0 := blk_frozen BK424.out 0; have hfz39_1 := blk_frozen BK424.out 1))
                        refine bodyPost_ret (results_ct rfl _ _ gb424 23 #[.int .i64 0, .bool false] (0, 0) _ rfl (by (with_reducible repeat (first | refine blk_drewN ?_ _ | refine blk_drew ?_ | refine blk_alloc ?_ _)); refine blk_put (cs := #[.int .i64 0, .bool false]) ?_ 1 _ rfl; (with_reducible repeat (first | refine blk_drewN ?_ _ | refine blk_drew ?_ | refine blk_alloc ?_ _)); refine blk_put (cs := #[.int .i64 0, .bool false]) ?_ 0 _ rfl; (with_reducible repeat (first | refine blk_drewN ?_ _ | refine blk_drew ?_ | refine blk_alloc ?_ _)); exact BK424.out) Try.underlying23 rfl (by kernel_rfl)) rfl ?_
                        exact ⟨by first | rfl | (simp [errW_none, errW_some] <;> rfl) | (simp [*, errW_none, errW_some] <;> rfl), by repeat (first | (with_reducible first | exact HB.out | apply below_alloc | apply pw_below_drewN | apply below_drew1 | refine below_set ?_ GE424.out | refine below_set ?_ GE429.out) | exact HB.out)⟩
                    · replace c28 := Bool.eq_false_iff.mpr c28
                      subst c28
                      have H1 : ((fixed_Text.f x430000_16 (!x4_16.toList.isEmpty)).bind fun t436 => (if t436.toList = a0.toList then (some (x430000_16, (!x4_16.toList.isEmpty), 0)) else (some (0, false, 4)))) = some (r1, r2, r3) := by rw [if_neg (show ¬ (false = true) by decide)] at H; exact H
                      clear H
                      have H := H1
                      clear H1
                      replace H := Option.bind_eq_some_iff.mp H
                      obtain ⟨t436, A400, H⟩ := H
                      replace H : (if t436.toList = a0.toList then (some (x430000_16, (!x4_16.toList.isEmpty), 0)) else (some (0, false, 4))) = some (r1, r2, r3) := H
                      have A40 := Aside0.mk A400
                      clear A400
                      by_cases c41 : t436.toList = a0.toList
                      · rw [if_pos c41] at H
                        have c41b0 : (t436.toList == a0.toList) = true := beq_iff_eq.mpr c41
                        have c41b1 : (t436.toList != a0.toList) = false := bne_eq_false_iff_eq.mpr c41
                        clear c41
                        simp only [Option.some.injEq, Prod.mk.injEq] at H
                        obtain ⟨rfl, rfl, rfl⟩ := H
                        have hnb42 := NB429_424.out
                        have hnc42 := NB424_429.out
                        have hcz43_0 : wc.cell? ⟨gb429, 0, none⟩ = some (.int .i64 x430000_16) := (blk_cell BK429.out 0).trans rfl
                        have hcz43_1 : wc.cell? ⟨gb429, 1, none⟩ = some (.bool false) := (blk_cell BK429.out 1).trans rfl
                        have hfz43_0 := blk_frozen BK429.out 0
                        have hfz43_1 := blk_frozen BK429.out 1
                        go_wp2_with (first | ((with_reducible refine gate_callee (f := 67) rfl ?_); refine goesL_ (some 85) rfl rfl Try.func67 (by kernel_rfl) rfl #[.agg #[.int .i64 x430000_16, .bool (!x4_16.toList.isEmpty)]] rfl (by (try simp only [List.map_toArray, List.map_cons, List.map_nil]); first | done | rfl | (simp only [List.length_drop, List.length_take]; rfl)) ?_; (with_reducible refine (fixed_Text.calls x430000_16 (!x4_16.toList.isEmpty) t436 _ A40.out).mono ?_); rintro e w44 ⟨rfl, hb⟩; refine ⟨_, rfl, ?_⟩; have n0_ := Aside0.mk (blk_below (g := gb424) (o := .cells #[.int .i64 0, .bool false] 23 (0, 0)) (by (with_reducible repeat (first | refine blk_drewN ?_ _ | refine blk_drew ?_ | refine blk_alloc ?_ _)); refine blk_far ?_ NB424_429.out _; (with_reducible repeat (first | refine blk_drewN ?_ _ | refine blk_drew ?_ | refine blk_alloc ?_ _)); exact BK424.out) hb); have n1_ := Aside0.mk (blk_below (g := gb429) (o := .cells #[.int .i64 x430000_16, .bool (!x4_16.toList.isEmpty)] 23 (0, 0)) (by (with_reducible repeat (first | refine blk_drewN ?_ _ | refine blk_drew ?_ | refine blk_alloc ?_ _)); refine blk_put (cs := #[.int .i64 x430000_16, .bool false]) ?_ 1 _ rfl; (with_reducible repeat (first | refine blk_drewN ?_ _ | refine blk_drew ?_ | refine blk_alloc ?_ _)); exact BK429.out) hb); have n2_ := Aside0.mk (below_step (by repeat (first | (with_reducible first | exact HB.out | apply below_alloc | apply pw_below_drewN | apply below_drew1 | refine below_set ?_ GE424.out | refine below_set ?_ GE429.out) | exact HB.out)) hb); clear BK424; clear BK429; clear HB; have BK424 := n0_; have BK429 := n1_; have HB := n2_; clear n0_ n1_ n2_; (try clear hb); (try clear hb2); (try clear hk); (try clear hi); have hcz45_0 : w44.cell? ⟨gb429, 0, none⟩ = some (.int .i64 x430000_16) := (blk_cell BK429.out 0).trans rfl; have hcz45_1 : w44.cell? ⟨gb429, 1, none⟩ = some (.bool (!x4_16.toList.isEmpty)) := (blk_cell BK429.out 1).trans rfl; have hfz45_0 := blk_frozen BK429.out 0; have hfz45_1 := blk_frozen BK429.out 1; have hcz46_0 : w44.cell? ⟨gb424, 0, none⟩ = some (.int .i64 0) := (blk_cell BK424.out 0).trans rfl; have hcz46_1 : w44.cell? ⟨gb424, 1, none⟩ = some (.bool false) := (blk_cell BK424.out 1).trans rfl; have hfz46_0 := blk_frozen BK424.out 0; have hfz46_1 := blk_frozen BK424.out 1))
                        refine bodyPost_ret (results_ct rfl _ _ gb424 23 #[.int .i64 x430000_16, .bool (!x4_16.toList.isEmpty)] (0, 0) _ rfl (by (with_reducible repeat (first | refine blk_drewN ?_ _ | refine blk_drew ?_ | refine blk_alloc ?_ _)); refine blk_put (cs := #[.int .i64 x430000_16, .bool false]) ?_ 1 _ rfl; (with_reducible repeat (first | refine blk_drewN ?_ _ | refine blk_drew ?_ | refine blk_alloc ?_ _)); refine blk_put (cs := #[.int .i64 0, .bool false]) ?_ 0 _ rfl; (with_reducible repeat (first | refine blk_drewN ?_ _ | refine blk_drew ?_ | refine blk_alloc ?_ _)); exact BK424.out) Try.underlying23 rfl (by kernel_rfl)) rfl ?_
                        exact ⟨by first | rfl | (simp [errW_none, errW_some] <;> rfl) | (simp [*, errW_none, errW_some] <;> rfl), by repeat (first | (with_reducible first | exact HB.out | apply below_alloc | apply pw_below_drewN | apply below_drew1 | refine below_set ?_ GE424.out | refine below_set ?_ GE429.out) | exact HB.out)⟩
                      · rw [if_neg c41] at H
                        have c41b0 : (t436.toList == a0.toList) = false := beq_eq_false_iff_ne.mpr c41
                        have c41b1 : (t436.toList != a0.toList) = true := bne_iff_ne.mpr c41
                        simp only [Option.some.injEq, Prod.mk.injEq] at H
                        obtain ⟨rfl, rfl, rfl⟩ := H
                        have hnb47 := NB429_424.out
                        have hnc47 := NB424_429.out
                        have hcz48_0 : wc.cell? ⟨gb429, 0, none⟩ = some (.int .i64 x430000_16) := (blk_cell BK429.out 0).trans rfl
                        have hcz48_1 : wc.cell? ⟨gb429, 1, none⟩ = some (.bool false) := (blk_cell BK429.out 1).trans rfl
                        have hfz48_0 := blk_frozen BK429.out 0
                        have hfz48_1 := blk_frozen BK429.out 1
                        go_wp2_with (first | ((with_reducible refine gate_callee (f := 67) rfl ?_); refine goesL_ (some 85) rfl rfl Try.func67 (by kernel_rfl) rfl #[.agg #[.int .i64 x430000_16, .bool (!x4_16.toList.isEmpty)]] rfl (by (try simp only [List.map_toArray, List.map_cons, List.map_nil]); first | done | rfl | (simp only [List.length_drop, List.length_take]; rfl)) ?_; (with_reducible refine (fixed_Text.calls x430000_16 (!x4_16.toList.isEmpty) t436 _ A40.out).mono ?_); rintro e w49 ⟨rfl, hb⟩; refine ⟨_, rfl, ?_⟩; have n0_ := Aside0.mk (blk_below (g := gb424) (o := .cells #[.int .i64 0, .bool false] 23 (0, 0)) (by (with_reducible repeat (first | refine blk_drewN ?_ _ | refine blk_drew ?_ | refine blk_alloc ?_ _)); refine blk_far ?_ NB424_429.out _; (with_reducible repeat (first | refine blk_drewN ?_ _ | refine blk_drew ?_ | refine blk_alloc ?_ _)); exact BK424.out) hb); have n1_ := Aside0.mk (blk_below (g := gb429) (o := .cells #[.int .i64 x430000_16, .bool (!x4_16.toList.isEmpty)] 23 (0, 0)) (by (with_reducible repeat (first | refine blk_drewN ?_ _ | refine blk_drew ?_ | refine blk_alloc ?_ _)); refine blk_put (cs := #[.int .i64 x430000_16, .bool false]) ?_ 1 _ rfl; (with_reducible repeat (first | refine blk_drewN ?_ _ | refine blk_drew ?_ | refine blk_alloc ?_ _)); exact BK429.out) hb); have n2_ := Aside0.mk (below_step (by repeat (first | (with_reducible first | exact HB.out | apply below_alloc | apply pw_below_drewN | apply below_drew1 | refine below_set ?_ GE424.out | refine below_set ?_ GE429.out) | exact HB.out)) hb); clear BK424; clear BK429; clear HB; have BK424 := n0_; have BK429 := n1_; have HB := n2_; clear n0_ n1_ n2_; (try clear hb); (try clear hb2); (try clear hk); (try clear hi); have hcz50_0 : w49.cell? ⟨gb424, 0, none⟩ = some (.int .i64 0) := (blk_cell BK424.out 0).trans rfl; have hcz50_1 : w49.cell? ⟨gb424, 1, none⟩ = some (.bool false) := (blk_cell BK424.out 1).trans rfl; have hfz50_0 := blk_frozen BK424.out 0; have hfz50_1 := blk_frozen BK424.out 1))
                        refine bodyPost_ret (results_ct rfl _ _ gb424 23 #[.int .i64 0, .bool false] (0, 0) _ rfl (by (with_reducible repeat (first | refine blk_drewN ?_ _ | refine blk_drew ?_ | refine blk_alloc ?_ _)); refine blk_put (cs := #[.int .i64 0, .bool false]) ?_ 1 _ rfl; (with_reducible repeat (first | refine blk_drewN ?_ _ | refine blk_drew ?_ | refine blk_alloc ?_ _)); refine blk_put (cs := #[.int .i64 0, .bool false]) ?_ 0 _ rfl; (with_reducible repeat (first | refine blk_drewN ?_ _ | refine blk_drew ?_ | refine blk_alloc ?_ _)); exact BK424.out) Try.underlying23 rfl (by kernel_rfl)) rfl ?_
                        exact ⟨by first | rfl | (simp [errW_none, errW_some] <;> rfl) | (simp [*, errW_none, errW_some] <;> rfl), by repeat (first | (with_reducible first | exact HB.out | apply below_alloc | apply pw_below_drewN | apply below_drew1 | refine below_set ?_ GE424.out | refine below_set ?_ GE429.out) | exact HB.out)⟩
end Go.Proofs.Ytenpiaafkmfjfaa.B

end
section
namespace Go.Proofs.Ytenpiaafkmfjfaa.B
open Go.RowKit Go.Proofs.YtenpiaafkmfjfaaW.PrintWords
theorem bl (a : ByteArray) : a.toList = a.data.toList := Go.ByteArray.toList_eq a
theorem size_l (a : ByteArray) : a.size = a.data.toList.length := by
  show a.data.size = a.data.toList.length
  exact Array.length_toList.symm
theorem ext_l (a : ByteArray) (i j : Nat) : (a.extract i j).data.toList = (a.data.toList.take j).drop i := by
  rw [ByteArray.data_extract]
  simp [Array.toList_extract, List.extract_eq_take_drop, List.drop_take]
theorem bt_l (a : ByteArray) (i : Nat) (h : i < a.data.toList.length) : bt a (i : Int) = ((a.data.toList[i]).toNat : Int) := by
  have h2 : (i : Int).toNat < a.size := by rw [size_l]; simpa using h
  rw [← bt_at a (i : Int) h2]
  rfl
theorem bt_isD (a : ByteArray) (i : Nat) (h : i < a.data.toList.length) : (isD a.data.toList[i] = true ↔ (bt a (i : Int) ≥ 48 ∧ bt a (i : Int) ≤ 57)) := by
  rw [bt_l a i h]
  unfold isD
  simp only [Bool.and_eq_true, decide_eq_true_eq]
  omega
theorem cutL_eq (c : UInt8) (r : List UInt8) : cutL c (c :: r) = (r, true) := if_pos rfl
theorem cutL_ne {c x : UInt8} (h : ¬ x = c) (r : List UInt8) : cutL c (x :: r) = (x :: r, false) := if_neg h
theorem cut_f (s : ByteArray) (c : UInt8) : ∃ r, strings_CutPrefix.f s ⟨#[c]⟩ = some (r, (cutL c s.data.toList).2) ∧ r.data.toList = (cutL c s.data.toList).1 := by
  have h1 : ((⟨#[c]⟩ : ByteArray).size : Int) = 1 := rfl
  have e1 : (⟨#[c]⟩ : ByteArray).toList = [c] := bl _
  unfold strings_CutPrefix.f stringslite_CutPrefix.f stringslite_HasPrefix.f
  rw [h1]
  cases hL : s.data.toList with
  | nil =>
    have hs : s.size = 0 := by rw [size_l, hL]; rfl
    rw [hs, if_neg (by decide)]
    simp only [Option.bind_some]
    rw [if_neg (by decide)]
    exact ⟨s, rfl, hL⟩
  | cons x r =>
    have hs : s.size = r.length + 1 := by rw [size_l, hL]; rfl
    rw [if_pos (by omega), if_pos (by omega), if_pos (by omega)]
    have e2 : (s.extract 0 (1 : Int).toNat).toList = [x] := by
      rw [bl, ext_l, hL]; rfl
    simp only [Option.bind_some, e1, e2]
    by_cases hx : x = c
    · subst hx
      rw [if_pos (by simp), if_pos (by omega), if_pos (by omega)]
      refine ⟨_, by rw [cutL_eq]; simp only [Option.bind_some]; rfl, ?_⟩
      rw [ext_l, hL, hs, cutL_eq]
      show List.drop 1 (List.take (r.length + 1) (x :: r)) = r
      simp
    · rw [if_neg (by simpa using hx)]
      refine ⟨s, by rw [cutL_ne hx]; simp only [Option.bind_some], ?_⟩
      rw [hL, cutL_ne hx]
theorem figs_loop (s : ByteArray) (hs : s.size ≤ 1000) : ∀ (m i k : Nat), m + i = s.size → m + 1 ≤ k →
    fixed_figures.l0 k s i = some (s.extract 0 (i + ((s.data.toList.drop i).takeWhile isD).length), s.extract (i + ((s.data.toList.drop i).takeWhile isD).length) s.size)
  | 0, i, k, h, hk => by
    obtain ⟨k, rfl⟩ : ∃ z, k = z + 1 := ⟨k - 1, by omega⟩
    have e : s.data.toList.drop i = [] := List.drop_eq_nil_of_le (by rw [← size_l]; omega)
    rw [fixed_figures.l0, if_neg (by omega), if_pos (by omega), if_pos (by omega), e]
    simp
  | m + 1, i, k, h, hk => by
    obtain ⟨k, rfl⟩ : ∃ z, k = z + 1 := ⟨k - 1, by omega⟩
    have hi : i < s.data.toList.length := by rw [← size_l]; omega
    have hd := bt_isD s i hi
    have e : s.data.toList.drop i = s.data.toList[i] :: s.data.toList.drop (i + 1) := List.drop_eq_getElem_cons hi
    rw [fixed_figures.l0, if_pos (by omega), if_pos (by omega), e]
    by_cases hx : isD s.data.toList[i] = true
    · obtain ⟨g1, g2⟩ := hd.1 hx
      rw [if_pos g1, if_pos g2, wrap64_id (by omega) (by omega)]
      have ih := figs_loop s hs m (i + 1) k (by omega) (by omega)
      rw [show ((i : Int) + 1) = ((i + 1 : Nat) : Int) by omega, ih, List.takeWhile_cons, if_pos hx, List.length_cons]
      rw [show i + 1 + (List.takeWhile isD (List.drop (i + 1) s.data.toList)).length = i + ((List.takeWhile isD (List.drop (i + 1) s.data.toList)).length + 1) by omega]
    · rw [List.takeWhile_cons, if_neg hx]
      have fin : (if (i : Int) ≤ (s.size : Int) then some (s.extract 0 (i : Int).toNat, s.extract (i : Int).toNat s.size) else none) = some (s.extract 0 (i + ([] : List UInt8).length), s.extract (i + ([] : List UInt8).length) s.size) := by
        rw [if_pos (by omega)]; simp
      by_cases g1 : bt s (i : Int) ≥ 48
      · rw [if_pos g1]
        by_cases g2 : bt s (i : Int) ≤ 57
        · exact absurd (hd.2 ⟨g1, g2⟩) hx
        · rw [if_neg g2]; exact fin
      · rw [if_neg g1]; exact fin
theorem tw_take (l : List UInt8) : l.take (l.takeWhile isD).length = l.takeWhile isD := by
  conv => lhs; arg 2; rw [← List.takeWhile_append_dropWhile (p := isD) (l := l)]
  exact List.take_left' rfl
theorem tw_drop (l : List UInt8) : l.drop (l.takeWhile isD).length = l.dropWhile isD := by
  conv => lhs; arg 2; rw [← List.takeWhile_append_dropWhile (p := isD) (l := l)]
  exact List.drop_left' rfl
theorem figs_f (s : ByteArray) (hs : s.size ≤ 1000) (k : Nat) (hk : 1001 ≤ k) : ∃ a b, fixed_figures.f k s = some (a, b) ∧ a.data.toList = s.data.toList.takeWhile isD ∧ b.data.toList = s.data.toList.dropWhile isD := by
  refine ⟨_, _, figs_loop s hs s.size 0 k (by omega) (by omega), ?_, ?_⟩
  · rw [ext_l, List.drop_zero, Nat.zero_add, List.drop_zero, tw_take]
  · rw [ext_l, size_l, List.take_length, List.drop_zero, Nat.zero_add, tw_drop]
theorem i64_or (a b : Nat) (ha : a < 2147483648) (hb : b < 4294967296) : Go.bits .or .i64 ((a * 4294967296 : Nat) : Int) (b : Int) = ((a * 4294967296 + b : Nat) : Int) := by
  have e1 : (BitVec.ofInt 64 ((a * 4294967296 : Nat) : Int)).toNat = 2 ^ 32 * a := by
    rw [BitVec.toNat_ofInt]; omega
  have e2 : (BitVec.ofInt 64 (b : Int)).toNat = b := by
    rw [BitVec.toNat_ofInt]; omega
  have key : (BitVec.ofInt 64 ((a * 4294967296 : Nat) : Int) ||| BitVec.ofInt 64 (b : Int)).toNat = a * 4294967296 + b := by
    rw [BitVec.toNat_or, e1, e2, ← Nat.two_pow_add_eq_or_of_lt (by omega) a]; omega
  show IntKind.i64.wrap ((BitVec.ofInt 64 ((a * 4294967296 : Nat) : Int) ||| BitVec.ofInt 64 (b : Int)).toNat : Nat) = _
  rw [key, IntKind.wrap_i64]
  omega
theorem text_f {v : Int} (f : Bool) (h : I64 v) : fixed_Text.f v f = some ⟨(textB v f).toArray⟩ := by
  unfold I64 at h
  unfold fixed_Text.f
  rw [if_pos h.1, if_pos h.2]
theorem parse_j2 (k : Nat) (hk : 1 ≤ k) (s rest : ByteArray) (neg : Bool) (V : Nat) (hV : V < 9223372036854775808) :
    fixed_Parse.j2 k s rest neg (V : Int) false = some (finP s.data.toList neg (V : Int) (!rest.data.toList.isEmpty)) := by
  obtain ⟨k, rfl⟩ : ∃ z, k = z + 1 := ⟨k - 1, by omega⟩
  have er : (rest.toList != ([] : List UInt8)) = (!rest.data.toList.isEmpty) := by rw [bl]; cases rest.data.toList <;> rfl
  rw [fixed_Parse.j2, er, bl s]
  unfold finP
  cases neg
  · rw [if_neg (show ¬ (false = true) by decide), if_neg (show ¬ (false = true) by decide), text_f _ (by unfold I64; omega), Option.bind_some, bl]
    by_cases h : textB (V : Int) (!rest.data.toList.isEmpty) = s.data.toList
    · rw [if_pos h, if_pos (by simpa using h)]
    · rw [if_neg h, if_neg (by simpa using h)]
  · rw [if_pos rfl, if_pos rfl, wrap64_id (by omega) (by omega), text_f _ (by unfold I64; omega), Option.bind_some, bl]
    by_cases h : textB (-(V : Int)) (!rest.data.toList.isEmpty) = s.data.toList
    · rw [if_pos h, if_pos (by simpa using h)]
    · rw [if_neg h, if_neg (by simpa using h)]
theorem all_tw (a : ByteArray) (h : ∀ c ∈ a.data.toList, isD c = true) : allDigits a = true := by
  unfold allDigits
  rw [List.all_eq_true]
  intro c hc
  exact h c hc
theorem bits_f (a : ByteArray) (hs : a.size ≤ 1000) (h : ∀ c ∈ a.data.toList, isD c = true) : fixed_bits32.f a = some ((frac 32 (a.data.toList.map dg) 0 : Nat) : Int) := by
  unfold fixed_bits32.f
  rw [if_pos hs, if_pos (all_tw a h)]
  rfl
theorem tw_le (l : List UInt8) : (l.takeWhile isD).length ≤ l.length := by
  have := congrArg List.length (List.takeWhile_append_dropWhile (p := isD) (l := l))
  rw [List.length_append] at this
  omega
theorem dw_le (l : List UInt8) : (l.dropWhile isD).length ≤ l.length := by
  have := congrArg List.length (List.takeWhile_append_dropWhile (p := isD) (l := l))
  rw [List.length_append] at this
  omega
theorem cut_le (c : UInt8) (l : List UInt8) : (cutL c l).1.length ≤ l.length := by
  cases l with
  | nil => exact Nat.le_refl _
  | cons x r =>
    by_cases h : x = c
    · subst h; rw [cutL_eq]; simp
    · rw [cutL_ne h]; exact Nat.le_refl _
theorem parse_tail (k : Nat) (hk : 1003 ≤ k) (s rest x6 : ByteArray) (neg : Bool) (n : Nat) (hn : n < 18446744073709551616) (hr : rest.size ≤ 1000) :
    fixed_Parse.l0 k s rest neg x6 (n : Int) (x6.size : Int) (x6.size : Int) = some (if n ≥ 2147483648 then (0, false, 4) else finP s.data.toList neg ((n * 4294967296 + (fracP rest.data.toList).1 : Nat) : Int) (!(fracP rest.data.toList).2.isEmpty)) := by
  obtain ⟨k, rfl⟩ : ∃ z, k = z + 1 := ⟨k - 1, by omega⟩
  rw [fixed_Parse.l0, if_neg (by omega)]
  by_cases h : n ≥ 2147483648
  · rw [if_pos (by omega), if_pos h]
  · rw [if_neg (by omega), if_neg h, u64_id (by omega) (by omega), wrap64_id (by omega) (by omega)]
    obtain ⟨r, e, er⟩ := cut_f rest 46
    have e2 : fracP rest.data.toList = if (cutL 46 rest.data.toList).2 = true then (frac 32 (((cutL 46 rest.data.toList).1.takeWhile isD).map dg) 0, (cutL 46 rest.data.toList).1.dropWhile isD) else (0, rest.data.toList) := rfl
    rw [e, Option.bind_some]
    dsimp only
    by_cases hc : (cutL 46 rest.data.toList).2 = true
    · rw [if_pos hc] at e2
      have hrs : r.size ≤ 1000 := by
        rw [size_l, er]
        have := cut_le 46 rest.data.toList
        rw [← size_l] at this
        omega
      obtain ⟨a, b, ef, ea, eb⟩ := figs_f r hrs k (by omega)
      have hdig : ∀ c ∈ a.data.toList, isD c = true := by rw [ea]; exact tw_isD _
      have hsz : a.size ≤ 1000 := by
        rw [size_l, ea]
        have := tw_le r.data.toList
        rw [← size_l] at this
        omega
      have hlt := frac32_lt _ (nine_dg hdig)
      rw [if_pos hc, ef, Option.bind_some]
      dsimp only
      rw [bits_f a hsz hdig, Option.bind_some, wrap64_id (by omega) (by omega)]
      rw [show ((n : Int) * 4294967296) = ((n * 4294967296 : Nat) : Int) by omega, i64_or n _ (by omega) hlt, parse_j2 k (by omega) s b neg _ (by omega), e2]
      dsimp only
      rw [ea, er, eb, er]
    · rw [if_neg hc] at e2
      rw [if_neg hc, show ((n : Int) * 4294967296) = ((n * 4294967296 : Nat) : Int) by omega, parse_j2 k (by omega) s rest neg _ (by omega), e2]
      dsimp only
      rw [Nat.add_zero]
theorem parse_loop (s rest x6 : ByteArray) (neg : Bool) (hr : rest.size ≤ 1000) (hx : x6.size ≤ 10) (hd : ∀ c ∈ x6.data.toList, isD c = true) : ∀ (m i k : Nat), m + i = x6.size → m + 1003 ≤ k →
    fixed_Parse.l0 k s rest neg x6 ((dval ((x6.data.toList.take i).map dg) : Nat) : Int) (x6.size : Int) (i : Int) =
      some (if dval (x6.data.toList.map dg) ≥ 2147483648 then (0, false, 4) else finP s.data.toList neg ((dval (x6.data.toList.map dg) * 4294967296 + (fracP rest.data.toList).1 : Nat) : Int) (!(fracP rest.data.toList).2.isEmpty))
  | 0, i, k, h, hk => by
    have hi : i = x6.size := by omega
    subst hi
    have e : x6.data.toList.take x6.size = x6.data.toList := by rw [size_l]; exact List.take_length
    have hlt : dval (x6.data.toList.map dg) < 10 ^ 10 := by
      have h1 := dval_lt _ (nine_dg hd)
      rw [List.length_map, ← size_l] at h1
      exact Nat.lt_of_lt_of_le h1 (Nat.pow_le_pow_right (by omega) hx)
    rw [e]
    exact parse_tail k (by omega) s rest x6 neg _ (by omega) hr
  | m + 1, i, k, h, hk => by
    obtain ⟨k, rfl⟩ : ∃ z, k = z + 1 := ⟨k - 1, by omega⟩
    have hi : i < x6.data.toList.length := by rw [← size_l]; omega
    have hD : isD x6.data.toList[i] = true := hd _ (List.getElem_mem hi)
    have hb := bt_l x6 i hi
    obtain ⟨g1, g2⟩ := (bt_isD x6 i hi).1 hD
    have hnine : ninth ((x6.data.toList.take i).map dg) := nine_dg (fun c hc => hd c (List.mem_of_mem_take hc))
    have hlt : dval ((x6.data.toList.take i).map dg) < 10 ^ 10 := by
      have h1 := dval_lt _ hnine
      rw [List.length_map, List.length_take] at h1
      exact Nat.lt_of_lt_of_le h1 (Nat.pow_le_pow_right (by omega) (by omega))
    have es : dval ((x6.data.toList.take (i + 1)).map dg) = 10 * dval ((x6.data.toList.take i).map dg) + dg x6.data.toList[i] := by
      rw [List.take_succ_eq_append_getElem hi, List.map_append]
      exact dval_snoc _ _
    have edg : ((dg x6.data.toList[i] : Nat) : Int) = (bt x6 (i : Int) - 48) % 256 := by
      rw [hb] at g1 g2 ⊢
      unfold dg; omega
    have ih := parse_loop s rest x6 neg hr hx hd m (i + 1) k (by omega) (by omega)
    rw [fixed_Parse.l0, if_pos (by omega), if_pos (by omega), if_pos (by rw [size_l]; omega), ← edg, wrap64_id (by omega) (by omega)]
    have hdg := isD_dg hD
    rw [u64_id (x := 10 * _) (by omega) (by omega), u64_id (by omega) (by omega), ← ih, es]
    congr 1
theorem parse_f (k : Nat) (hk : 1100 ≤ k) (s : ByteArray) (hs : s.size ≤ 1000) : fixed_Parse.f k s = some (parseF s.data.toList) := by
  unfold fixed_Parse.f
  obtain ⟨r, e, er⟩ := cut_f s 45
  have hr : r.size ≤ 1000 := by
    rw [size_l, er]
    have := cut_le 45 s.data.toList
    rw [← size_l] at this
    omega
  obtain ⟨a, b, ef, ea, eb⟩ := figs_f r hr k (by omega)
  rw [er] at ea eb
  have hd : ∀ c ∈ a.data.toList, isD c = true := by rw [ea]; exact tw_isD _
  have hb : b.size ≤ 1000 := by
    rw [size_l, eb]
    have h1 := dw_le (cutL 45 s.data.toList).1
    have h2 := cut_le 45 s.data.toList
    rw [← size_l s] at h2
    omega
  rw [e, Option.bind_some]
  dsimp only
  rw [ef, Option.bind_some]
  dsimp only
  obtain ⟨k, rfl⟩ : ∃ z, k = z + 1 := ⟨k - 1, by omega⟩
  have la : a.size = ((cutL 45 s.data.toList).1.takeWhile isD).length := by rw [size_l, ea]
  have ls := size_l s
  unfold parseF
  rw [← la, ← ls]
  by_cases h1 : (a.size : Int) < 1
  · rw [if_pos h1, if_pos (.inl (by omega)), fixed_Parse.j0, if_pos rfl]
  · rw [if_neg h1]
    by_cases h2 : (a.size : Int) > 10
    · rw [if_pos h2, if_pos (.inr (.inl (by omega))), fixed_Parse.j0, if_pos rfl]
    · rw [if_neg h2]
      by_cases h3 : (s.size : Int) > 50
      · rw [decide_eq_true h3, if_pos (.inr (.inr (by omega))), fixed_Parse.j0, if_pos rfl]
      · have ih := parse_loop s b a (cutL 45 s.data.toList).2 hb (by omega) hd a.size 0 k (by omega) (by omega)
        rw [ea, eb] at ih
        rw [decide_eq_false h3, if_neg (by omega), fixed_Parse.j0, if_neg (show ¬ (false = true) by decide)]
        refine Eq.trans ih ?_
        split <;> rfl
end Go.Proofs.Ytenpiaafkmfjfaa.B

end
section
namespace Go.Proofs.Ytenpiaafkmfjfaa.B
open Go.RowKit Go.Proofs.YtenpiaafkmfjfaaW.PrintWords Go.Proofs.YtenpiaafkmfjfaaW.PrintLast Go.Proofs.YtenpiaafkmfjfaaW.PrintMore
attribute [local go_sem] max2_int min2_int max_two min_two max_three min_three max_four min_four
set_option linter.unusedVariables false
set_option linter.unusedSimpArgs false
attribute [local go_sem high] eqA23
def bagatelleref01_digits.f : Nat → Int → Option (ByteArray)
  | 0, _ => none
  | k + 1, a0 => (some (([(IntKind.u64.wrap (48 + (Int.tmod a0 10))) % 256] : List Int) : List Int)).bind fun y743 => (if a0 ≥ 10 then ((bagatelleref01_digits.f k (IntKind.u64.wrap (Int.tdiv a0 10))).bind fun t746 => (if t746.size + (strOfNums y743).size ≤ 9223372036854775807 then (some (t746 ++ (strOfNums y743))) else (none))) else (some (strOfNums y743)))
set_option maxHeartbeats 8000000 in
set_option maxRecDepth 100000 in
theorem bagatelleref01_digits.calls (k : Nat) : ∀ (a0 : Int) (r : ByteArray) (w : World) (h : bagatelleref01_digits.f k a0 = some r),
    Calls Try.prog 106 #[.int .u64 a0] w fun e w' => e = .returned (.string r) ∧ Below w.heap.size w w' := by
  induction k using Nat.strongRecOn with
  | _ k ih =>
  intro a0 r w h
  cases k with
  | zero => exact absurd h (by simp [bagatelleref01_digits.f])
  | succ k =>
  simp only [bagatelleref01_digits.f] at h
  have HB := Aside0.mk (Below.refl w.heap.size w)
  have H : ((some (([(IntKind.u64.wrap (48 + (Int.tmod a0 10))) % 256] : List Int) : List Int)).bind fun y743 => (if a0 ≥ 10 then ((bagatelleref01_digits.f k (IntKind.u64.wrap (Int.tdiv a0 10))).bind fun t746 => (if t746.size + (strOfNums y743).size ≤ 9223372036854775807 then (some (t746 ++ (strOfNums y743))) else (none))) else (some (strOfNums y743)))) = some r := h
  clear h
  obtain ⟨y743, hy743⟩ : ∃ y_ : List Int, y_ = (([(IntKind.u64.wrap (48 + (Int.tmod a0 10))) % 256] : List Int)) := ⟨_, rfl⟩
  replace H : (if a0 ≥ 10 then ((bagatelleref01_digits.f k (IntKind.u64.wrap (Int.tdiv a0 10))).bind fun t746 => (if t746.size + (strOfNums y743).size ≤ 9223372036854775807 then (some (t746 ++ (strOfNums y743))) else (none))) else (some (strOfNums y743))) = some r := by first | (rw [hy743]; with_reducible exact H) | (have H2_ := (Option.bind_some _ _).symm.trans H; rw [hy743]; with_reducible exact H2_) | (have H2_ := (Option.bind_some _ _).symm.trans H; with_reducible exact H2_) | with_reducible exact H | (rw [hy743]; exact H) | exact H
  have Ny743 := Aside0.mk hy743
  clear hy743
  by_cases c2 : a0 ≥ 10
  · rw [if_pos c2] at H
    have c2b0 : decide (10 ≤ a0) = true := decide_eq_true c2
    clear c2
    replace H := Option.bind_eq_some_iff.mp H
    obtain ⟨t746, A30, H⟩ := H
    replace H : (if t746.size + (strOfNums y743).size ≤ 9223372036854775807 then (some (t746 ++ (strOfNums y743))) else (none)) = some r := H
    have A3 := Aside0.mk A30
    clear A30
    by_cases c4 : t746.size + (strOfNums y743).size ≤ 9223372036854775807
    · rw [if_pos c4] at H
      have c4b0 := eq_true c4
      have c4b1 : decide (t746.size + (strOfNums y743).size ≤ 9223372036854775807) = true := decide_eq_true c4
      try have c4b2 : (9223372036854775807 < t746.size + (strOfNums y743).size) = False := eq_false (Nat.not_lt.2 c4)
      obtain rfl := Option.some.inj H
      go_enter Try.func106, Try.ntmps106
      go_wp2_with (first | ((with_reducible refine gate_dst (N := 8) rfl ?_); refine Kd.R_lit (Kd.int .u8) _ 5 ?hg (N := 8) ?hd (xs := ([(IntKind.u64.wrap (48 + (Int.tmod a0 10))) % 256] : List Int)) (inner := [.int .u8 ((IntKind.u64.wrap (48 + (Int.tmod a0 10))) % 256)]) (ok := fun _ => True) (okp := fun _ => True) ?hr ?hp (fun _ hk => hk) trivial (Below.refl _ _) (Nat.le_refl _) (by simp) ?_; (case hd => rfl); (case hg => rfl); (case hr => first | (go_simp; done) | (go_simp; rfl)); (case hp => exact (Reps.one (show Kd.M (Kd.int .u8) _ _ _ ((IntKind.u64.wrap (48 + (Int.tmod a0 10))) % 256) [.int .u8 ((IntKind.u64.wrap (48 + (Int.tmod a0 10))) % 256)] from rfl) (Reps.none _ _))); intro v744 w5 ho6 hb hg_ hnew_; clear hg_ hnew_; (first | rw [← Ny743.out] at ho6 | (simp only [Int.reduceToNat] at ho6; rw [← Ny743.out] at ho6)); have n0_ := Aside0.mk (Kd.R_lower ho6 (below_size (by repeat (first | (with_reducible first | exact HB.out | apply below_alloc | apply pw_below_drewN | apply below_drew1) | exact HB.out)))); have n1_ := Aside0.mk (below_step (by repeat (first | (with_reducible first | exact HB.out | apply below_alloc | apply pw_below_drewN | apply below_drew1) | exact HB.out)) hb); clear HB; have HO745 := n0_; have HB := n1_; clear n0_ n1_; clear hb ho6; have hcv7 := own_string (P := Try.prog) Try.underlying94 Try.underlying5 Try.underlying9 (Kd.own_of_R HO745.out)) | ((with_reducible refine gate_callee (f := 106) rfl ?_); refine goesL_ (some 14) rfl rfl Try.func106 (by kernel_rfl) rfl #[.int .u64 (IntKind.u64.wrap (Int.tdiv a0 10))] rfl (by (try simp only [List.map_toArray, List.map_cons, List.map_nil]); first | done | rfl | (simp only [List.length_drop, List.length_take]; rfl)) ?_; (with_reducible refine (ih k (by omega) (IntKind.u64.wrap (Int.tdiv a0 10)) t746 _ A3.out).mono ?_); rintro e w8 ⟨rfl, hb⟩; refine ⟨_, rfl, ?_⟩; have n0_ := Aside0.mk (Kd.R_below (by (with_reducible repeat (first | apply Kd.R_alloc | apply Kd.R_drewN | apply Kd.R_drew)); exact HO745.out) hb); have n1_ := Aside0.mk (below_step (by repeat (first | (with_reducible first | exact HB.out | apply below_alloc | apply pw_below_drewN | apply below_drew1) | exact HB.out)) hb); clear HO745; clear HB; have HO745 := n0_; have HB := n1_; clear n0_ n1_; (try clear hb); (try clear hb2); (try clear hk); (try clear hi)))
      go_ret
      exact ⟨by first | rfl | (simp [errW_none, errW_some] <;> rfl) | (simp [*, errW_none, errW_some] <;> rfl), by repeat (first | (with_reducible first | exact HB.out | apply below_alloc | apply pw_below_drewN | apply below_drew1) | exact HB.out)⟩
    · rw [if_neg c4] at H
      exact absurd H (by simp)
  · rw [if_neg c2] at H
    have c2b0 : decide (10 ≤ a0) = false := decide_eq_false c2
    clear c2
    obtain rfl := Option.some.inj H
    go_enter Try.func106, Try.ntmps106
    go_wp2_with (first | ((with_reducible refine gate_dst (N := 8) rfl ?_); refine Kd.R_lit (Kd.int .u8) _ 5 ?hg (N := 8) ?hd (xs := ([(IntKind.u64.wrap (48 + (Int.tmod a0 10))) % 256] : List Int)) (inner := [.int .u8 ((IntKind.u64.wrap (48 + (Int.tmod a0 10))) % 256)]) (ok := fun _ => True) (okp := fun _ => True) ?hr ?hp (fun _ hk => hk) trivial (Below.refl _ _) (Nat.le_refl _) (by simp) ?_; (case hd => rfl); (case hg => rfl); (case hr => first | (go_simp; done) | (go_simp; rfl)); (case hp => exact (Reps.one (show Kd.M (Kd.int .u8) _ _ _ ((IntKind.u64.wrap (48 + (Int.tmod a0 10))) % 256) [.int .u8 ((IntKind.u64.wrap (48 + (Int.tmod a0 10))) % 256)] from rfl) (Reps.none _ _))); intro v744 w9 ho10 hb hg_ hnew_; clear hg_ hnew_; (first | rw [← Ny743.out] at ho10 | (simp only [Int.reduceToNat] at ho10; rw [← Ny743.out] at ho10)); have n0_ := Aside0.mk (Kd.R_lower ho10 (below_size (by repeat (first | (with_reducible first | exact HB.out | apply below_alloc | apply pw_below_drewN | apply below_drew1) | exact HB.out)))); have n1_ := Aside0.mk (below_step (by repeat (first | (with_reducible first | exact HB.out | apply below_alloc | apply pw_below_drewN | apply below_drew1) | exact HB.out)) hb); clear HB; have HO745 := n0_; have HB := n1_; clear n0_ n1_; clear hb ho10; have hcv11 := own_string (P := Try.prog) Try.underlying94 Try.underlying5 Try.underlying9 (Kd.own_of_R HO745.out)))
    go_ret
    exact ⟨by first | rfl | (simp [errW_none, errW_some] <;> rfl) | (simp [*, errW_none, errW_some] <;> rfl), by repeat (first | (with_reducible first | exact HB.out | apply below_alloc | apply pw_below_drewN | apply below_drew1) | exact HB.out)⟩
mutual
def bagatelleref01_Text.j0 : Nat → Bool → Int → ByteArray → Option (ByteArray)
  | 0, _, _, _ => none
  | k + 1, x4, x5, x6 => if (Go.bits .and .u64 x5 4294967295) = 0 then (bagatelleref01_Text.j1 k x4 x6 (Go.bits .and .u64 x5 4294967295)) else (if x6.size + 1 ≤ 9223372036854775807 then (bagatelleref01_Text.j1 k x4 (x6 ++ (⟨#[46]⟩ : ByteArray)) (Go.bits .and .u64 x5 4294967295)) else (none))
def bagatelleref01_Text.j1 : Nat → Bool → ByteArray → Int → Option (ByteArray)
  | 0, _, _, _ => none
  | k + 1, x4, x6, x7 => bagatelleref01_Text.l0 k x4 x6 x7
def bagatelleref01_Text.l0 : Nat → Bool → ByteArray → Int → Option (ByteArray)
  | 0, _, _, _ => none
  | k + 1, x4, x6, x7 => if x7 = 0 then (if x4 = true then (if x6.size + 1 ≤ 9223372036854775807 then (some (x6 ++ (⟨#[33]⟩ : ByteArray))) else (none)) else (some x6)) else ((some (([(IntKind.u64.wrap (48 + ((IntKind.u64.wrap (x7 * 10)) / 4294967296))) % 256] : List Int) : List Int)).bind fun y752 => (if x6.size + (strOfNums y752).size ≤ 9223372036854775807 then (bagatelleref01_Text.l0 k x4 (x6 ++ (strOfNums y752)) (Go.bits .and .u64 (IntKind.u64.wrap (x7 * 10)) 4294967295)) else (none)))
end
def bagatelleref01_Text.f (k : Nat) (a0_0 : Int) (a0_1 : Bool) : Option (ByteArray) := (bagatelleref01_whole.f a0_0 a0_1).bind fun bt748 => ((bagatelleref01_size.f bt748.1).bind fun t750 => ((bagatelleref01_digits.f k (t750 / 4294967296)).bind fun t751 => (if bt748.1 < 0 then (if 1 + t751.size ≤ 9223372036854775807 then (bagatelleref01_Text.j0 k bt748.2 t750 ((⟨#[45]⟩ : ByteArray) ++ t751)) else (none)) else (bagatelleref01_Text.j0 k bt748.2 t750 t751))))
set_option maxHeartbeats 8000000 in
set_option maxRecDepth 100000 in
theorem bagatelleref01_Text.calls (k : Nat) (a0_0 : Int) (a0_1 : Bool) (r : ByteArray) (w : World) (h : bagatelleref01_Text.f k a0_0 a0_1 = some r) :
    Calls Try.prog 68 #[.agg #[.int .i64 a0_0, .bool a0_1]] w fun e w' => e = .returned (.string r) ∧ Below w.heap.size w w' := by
  have hu23 := Try.underlying23
  have HB := Aside0.mk (Below.refl w.heap.size w)
  have H : ((bagatelleref01_whole.f a0_0 a0_1).bind fun bt748 => ((bagatelleref01_size.f bt748.1).bind fun t750 => ((bagatelleref01_digits.f k (t750 / 4294967296)).bind fun t751 => (if bt748.1 < 0 then (if 1 + t751.size ≤ 9223372036854775807 then (bagatelleref01_Text.j0 k bt748.2 t750 ((⟨#[45]⟩ : ByteArray) ++ t751)) else (none)) else (bagatelleref01_Text.j0 k bt748.2 t750 t751))))) = some r := h
  clear h
  replace H := Option.bind_eq_some_iff.mp H
  obtain ⟨⟨t748, t749⟩, A20, H⟩ := H
  replace H : ((bagatelleref01_size.f t748).bind fun t750 => ((bagatelleref01_digits.f k (t750 / 4294967296)).bind fun t751 => (if t748 < 0 then (if 1 + t751.size ≤ 9223372036854775807 then (bagatelleref01_Text.j0 k t749 t750 ((⟨#[45]⟩ : ByteArray) ++ t751)) else (none)) else (bagatelleref01_Text.j0 k t749 t750 t751)))) = some r := H
  have A2 := Aside0.mk A20
  clear A20
  replace H := Option.bind_eq_some_iff.mp H
  obtain ⟨t750, A30, H⟩ := H
  replace H : ((bagatelleref01_digits.f k (t750 / 4294967296)).bind fun t751 => (if t748 < 0 then (if 1 + t751.size ≤ 9223372036854775807 then (bagatelleref01_Text.j0 k t749 t750 ((⟨#[45]⟩ : ByteArray) ++ t751)) else (none)) else (bagatelleref01_Text.j0 k t749 t750 t751))) = some r := H
  have A3 := Aside0.mk A30
  clear A30
  replace H := Option.bind_eq_some_iff.mp H
  obtain ⟨t751, A40, H⟩ := H
  replace H : (if t748 < 0 then (if 1 + t751.size ≤ 9223372036854775807 then (bagatelleref01_Text.j0 k t749 t750 ((⟨#[45]⟩ : ByteArray) ++ t751)) else (none)) else (bagatelleref01_Text.j0 k t749 t750 t751)) = some r := H
  have A4 := Aside0.mk A40
  clear A40
  have HC5 := Aside0.mk H
  clear H
  go_enter Try.func68, Try.ntmps68
  go_upto_if 19 with (first | ((with_reducible refine gate_dst (N := 1) rfl ?_); refine box_event ?hg (N := 1) ?hd (cs := #[.int .i64 a0_0, .bool a0_1]) (t := 23) ?hr ?_; (case hd => rfl); (case hg => rfl); (case hr => first | (go_simp; done) | (go_simp; rfl)); intro gb747 hg w6 hbox hb; have n0_ := Aside0.mk (below_step (by repeat (first | (with_reducible first | exact HB.out | apply below_alloc | apply pw_below_drewN | apply below_drew1) | exact HB.out)) hb); have n1_ := Aside0.mk (hbox); have n2_ := Aside0.mk ((by rw [hg]; exact (below_size (by repeat (first | (with_reducible first | exact HB.out | apply below_alloc | apply pw_below_drewN | apply below_drew1) | exact HB.out))) : w.heap.size ≤ gb747)); have n3_ := Aside0.mk ((by rw [hg]; exact (below_size (by repeat (first | (with_reducible first | exact HB.out | apply below_alloc | apply pw_below_drewN | apply below_drew1) | exact HB.out))) : w.heap.size ≤ gb747)); clear HB; have HB := n0_; have BK747 := n1_; have GW747 := n2_; have GE747 := n3_; clear n0_ n1_ n2_ n3_; clear hb hbox hg; have hcz7_0 : w6.cell? ⟨gb747, 0, none⟩ = some (.int .i64 a0_0) := (blk_cell BK747.out 0).trans rfl; have hcz7_1 : w6.cell? ⟨gb747, 1, none⟩ = some (.bool a0_1) := (blk_cell BK747.out 1).trans rfl; have hfz7_0 := blk_frozen BK747.out 0; have hfz7_1 := blk_frozen BK747.out 1) | ((with_reducible refine gate_callee (f := 73) rfl ?_); refine goesL_ (some 10) rfl rfl Try.func73 (by kernel_rfl) rfl #[.agg #[.int .i64 a0_0, .bool a0_1]] rfl (by (try simp only [List.map_toArray, List.map_cons, List.map_nil]); first | done | rfl | (simp only [List.length_drop, List.length_take]; rfl)) ?_; (with_reducible refine (bagatelleref01_whole.calls a0_0 a0_1 t748 t749 _ A2.out).mono ?_); rintro e w8 ⟨rfl, hb⟩; refine ⟨_, rfl, ?_⟩; have n0_ := Aside0.mk (blk_below (g := gb747) (o := .cells #[.int .i64 a0_0, .bool a0_1] 23 (0, 0)) (by (with_reducible repeat (first | refine blk_drewN ?_ _ | refine blk_drew ?_ | refine blk_alloc ?_ _)); exact BK747.out) hb); have n1_ := Aside0.mk (below_step (by repeat (first | (with_reducible first | exact HB.out | apply below_alloc | apply pw_below_drewN | apply below_drew1 | refine below_set ?_ GE747.out) | exact HB.out)) hb); clear BK747; clear HB; have BK747 := n0_; have HB := n1_; clear n0_ n1_; (try clear hb); (try clear hb2); (try clear hk); (try clear hi)) | ((with_reducible refine gate_callee (f := 98) rfl ?_); refine goesL_ (some 14) rfl rfl Try.func98 (by kernel_rfl) rfl #[.int .i64 t748] rfl (by (try simp only [List.map_toArray, List.map_cons, List.map_nil]); first | done | rfl | (simp only [List.length_drop, List.length_take]; rfl)) ?_; (with_reducible refine (bagatelleref01_size.calls t748 t750 _ A3.out).mono ?_); rintro e w' ⟨rfl, ⟨nd, rfl⟩⟩; refine ⟨_, rfl, ?_⟩) | ((with_reducible refine gate_callee (f := 106) rfl ?_); refine goesL_ (some 17) rfl rfl Try.func106 (by kernel_rfl) rfl #[.int .u64 (t750 / 4294967296)] rfl (by (try simp only [List.map_toArray, List.map_cons, List.map_nil]); first | done | rfl | (simp only [List.length_drop, List.length_take]; rfl)) ?_; (with_reducible refine (bagatelleref01_digits.calls k (t750 / 4294967296) t751 _ A4.out).mono ?_); rintro e w9 ⟨rfl, hb⟩; refine ⟨_, rfl, ?_⟩; have n0_ := Aside0.mk (blk_below (g := gb747) (o := .cells #[.int .i64 a0_0, .bool a0_1] 23 (0, 0)) (by (with_reducible repeat (first | refine blk_drewN ?_ _ | refine blk_drew ?_ | refine blk_alloc ?_ _)); exact BK747.out) hb); have n1_ := Aside0.mk (below_step (by repeat (first | (with_reducible first | exact HB.out | apply below_alloc | apply pw_below_drewN | apply below_drew1 | refine below_set ?_ GE747.out) | exact HB.out)) hb); clear BK747; clear HB; have BK747 := n0_; have HB := n1_; clear n0_ n1_; (try clear hb); (try clear hb2); (try clear hk); (try clear hi)))
  (try simp only [Act.put, List.setIfInBounds_toArray, List.set_cons_zero, List.set_cons_succ])
  go_cut [6] (fun v6 wc => ∃ (kq : Nat) (x6_4 : ByteArray), v6 = .string x6_4 ∧ Aside0 (bagatelleref01_Text.j0 kq t749 t750 x6_4 = some r) ∧ Aside0 (kq ≤ k) ∧ Aside0 (wc.heap[gb747]? = some (.cells #[.int .i64 a0_0, .bool a0_1] 23 (0, 0))) ∧ Aside0 (Below w.heap.size w wc))
  case first =>
    have H := HC5.out
    clear HC5
    by_cases c10 : t748 < 0
    · rw [if_pos c10] at H
      have c10b0 : decide (t748 < 0) = true := decide_eq_true c10
      clear c10
      (first | rw [c10b0] | (simp only [i64_w, i32_w]; rw [c10b0]) | skip)
      by_cases c11 : 1 + t751.size ≤ 9223372036854775807
      · rw [if_pos c11] at H
        have c11b0 := eq_true c11
        have c11b1 : decide (1 + t751.size ≤ 9223372036854775807) = true := decide_eq_true c11
        try have c11b2 : (9223372036854775807 < 1 + t751.size) = False := eq_false (Nat.not_lt.2 c11)
        have H' := Aside0.mk H
        clear H
        go_wp2
        go_meet
        case rel => exact ⟨_, ((⟨#[45]⟩ : ByteArray) ++ t751), (by first | rfl | (simp; done) | (simp [*]; done)), H', ⟨by first | omega | exact Nat.le_refl _⟩, ⟨by (with_reducible repeat (first | refine blk_drewN ?_ _ | refine blk_drew ?_ | refine blk_alloc ?_ _)); exact BK747.out⟩, ⟨by repeat (first | (with_reducible first | exact HB.out | apply below_alloc | apply pw_below_drewN | apply below_drew1 | refine below_set ?_ GE747.out) | exact HB.out)⟩⟩
      · rw [if_neg c11] at H
        exact absurd H (by simp)
    · rw [if_neg c10] at H
      have c10b0 : decide (t748 < 0) = false := decide_eq_false c10
      clear c10
      (first | rw [c10b0] | (simp only [i64_w, i32_w]; rw [c10b0]) | skip)
      have H' := Aside0.mk H
      clear H
      go_wp2
      go_meet
      case rel => exact ⟨_, (t751), (by first | rfl | (simp; done) | (simp [*]; done)), H', ⟨by first | omega | exact Nat.le_refl _⟩, ⟨by (with_reducible repeat (first | refine blk_drewN ?_ _ | refine blk_drew ?_ | refine blk_alloc ?_ _)); exact BK747.out⟩, ⟨by repeat (first | (with_reducible first | exact HB.out | apply below_alloc | apply pw_below_drewN | apply below_drew1 | refine below_set ?_ GE747.out) | exact HB.out)⟩⟩
  case rest =>
    clear HC5
    try clear c1
    try clear p2
    try clear c6
    try clear c7
    try clear c9
    try clear c10
    try clear c10b0
    try clear c11
    try clear c11b0
    try clear c11b1
    try clear c11b2
    try clear hcz7_0
    try clear hcz7_1
    try clear hfz7_0
    try clear hfz7_1
    obtain ⟨kq, x6_4, rfl, HA, HJ4, BK747, HB⟩ := hcut
    cases kq with
    | zero => exact absurd HA.out (by simp [bagatelleref01_Text.j0])
    | succ kj4 =>
      have H := HA.out
      clear HA
      simp only [bagatelleref01_Text.j0] at H
      have HC12 := Aside0.mk H
      clear H
      go_upto_if 25 with (fail)
      go_cut [6] (fun v6 wc => ∃ (kq : Nat) (x6_11 : ByteArray), v6 = .string x6_11 ∧ Aside0 (bagatelleref01_Text.j1 kq t749 x6_11 (Go.bits .and .u64 t750 4294967295) = some r) ∧ Aside0 (kq ≤ kj4) ∧ Aside0 (wc.heap[gb747]? = some (.cells #[.int .i64 a0_0, .bool a0_1] 23 (0, 0))) ∧ Aside0 (Below w.heap.size w wc))
      case first =>
        have H := HC12.out
        clear HC12
        by_cases c13 : (Go.bits .and .u64 t750 4294967295) = 0
        · rw [if_pos c13] at H
          have c13b0 : ((Go.bits .and .u64 t750 4294967295) == 0) = true := beq_iff_eq.mpr c13
          have c13b1 : ((Go.bits .and .u64 t750 4294967295) != 0) = false := bne_eq_false_iff_eq.mpr c13
          clear c13
          (first | rw [c13b0] | (simp only [i64_w, i32_w]; rw [c13b0]) | skip)
          have H' := Aside0.mk H
          clear H
          go_wp2
          go_meet
          case rel => exact ⟨_, (x6_4), (by first | rfl | (simp; done) | (simp [*]; done)), H', ⟨by have := HJ4.out; first | omega | exact Nat.le_refl _⟩, ⟨by (with_reducible repeat (first | refine blk_drewN ?_ _ | refine blk_drew ?_ | refine blk_alloc ?_ _)); exact BK747.out⟩, ⟨by repeat (first | (with_reducible first | exact HB.out | apply below_alloc | apply pw_below_drewN | apply below_drew1 | refine below_set ?_ GE747.out) | exact HB.out)⟩⟩
        · rw [if_neg c13] at H
          have c13b0 : ((Go.bits .and .u64 t750 4294967295) == 0) = false := beq_eq_false_iff_ne.mpr c13
          have c13b1 : ((Go.bits .and .u64 t750 4294967295) != 0) = true := bne_iff_ne.mpr c13
          (first | rw [c13b0] | (simp only [i64_w, i32_w]; rw [c13b0]) | skip)
          by_cases c14 : x6_4.size + 1 ≤ 9223372036854775807
          · rw [if_pos c14] at H
            have c14b0 := eq_true c14
            have c14b1 : decide (x6_4.size + 1 ≤ 9223372036854775807) = true := decide_eq_true c14
            try have c14b2 : (9223372036854775807 < x6_4.size + 1) = False := eq_false (Nat.not_lt.2 c14)
            have H' := Aside0.mk H
            clear H
            go_wp2
            go_meet
            case rel => exact ⟨_, (x6_4 ++ (⟨#[46]⟩ : ByteArray)), (by first | rfl | (simp; done) | (simp [*]; done)), H', ⟨by have := HJ4.out; first | omega | exact Nat.le_refl _⟩, ⟨by (with_reducible repeat (first | refine blk_drewN ?_ _ | refine blk_drew ?_ | refine blk_alloc ?_ _)); exact BK747.out⟩, ⟨by repeat (first | (with_reducible first | exact HB.out | apply below_alloc | apply pw_below_drewN | apply below_drew1 | refine below_set ?_ GE747.out) | exact HB.out)⟩⟩
          · rw [if_neg c14] at H
            exact absurd H (by simp)
      case rest =>
        clear HC12
        try clear c1
        try clear p2
        try clear c6
        try clear c7
        try clear c9
        try clear c10
        try clear c10b0
        try clear c11
        try clear c11b0
        try clear c11b1
        try clear c11b2
        try clear c13
        try clear c13b0
        try clear c13b1
        try clear c14
        try clear c14b0
        try clear c14b1
        try clear c14b2
        try clear hcz7_0
        try clear hcz7_1
        try clear hfz7_0
        try clear hfz7_1
        try clear p2
        obtain ⟨kq, x6_11, rfl, HA, HJ11, BK747, HB⟩ := hcut
        cases kq with
        | zero => exact absurd HA.out (by simp [bagatelleref01_Text.j1])
        | succ kj11 =>
          have H := HA.out
          clear HA
          simp only [bagatelleref01_Text.j1] at H
          have H' := Aside0.mk H
          clear H
          go_wp2
          go_loopg [6, 7] kj11 (fun kq v6 v7 w' => ∃ (x6_3 : ByteArray) (x7_3 : Int), v6 = .string x6_3 ∧ v7 = .int .u64 x7_3 ∧ Aside0 (bagatelleref01_Text.l0 kq t749 x6_3 x7_3 = some r) ∧ Aside0 (kq ≤ kj11) ∧ Aside0 (w'.heap[gb747]? = some (.cells #[.int .i64 a0_0, .bool a0_1] 23 (0, 0))) ∧ Aside0 (Below w.heap.size w w'))
          case atStart => exact ⟨(x6_11), ((Go.bits .and .u64 t750 4294967295)), (by first | rfl | (simp; done) | (simp [*]; done)), (by first | rfl | (simp; done) | (simp [*]; done)), H', ⟨Nat.le_refl _⟩, ⟨by (with_reducible repeat (first | refine blk_drewN ?_ _ | refine blk_drew ?_ | refine blk_alloc ?_ _)); exact BK747.out⟩, ⟨by repeat (first | (with_reducible first | exact HB.out | apply below_alloc | apply pw_below_drewN | apply below_drew1 | refine below_set ?_ GE747.out) | exact HB.out)⟩⟩
          case round =>
            clear H'
            try clear c1
            try clear p2
            try clear c6
            try clear c7
            try clear c9
            try clear c10
            try clear c10b0
            try clear c11
            try clear c11b0
            try clear c11b1
            try clear c11b2
            try clear c13
            try clear c13b0
            try clear c13b1
            try clear c14
            try clear c14b0
            try clear c14b1
            try clear c14b2
            try clear hcz7_0
            try clear hcz7_1
            try clear hfz7_0
            try clear hfz7_1
            try clear p2
            obtain ⟨x6_3, x7_3, rfl, rfl, HA, HK3, BK747, HB⟩ := hrel
            cases gk with
            | zero => exact absurd HA.out (by simp [bagatelleref01_Text.l0])
            | succ k3 =>
              have H := HA.out
              clear HA
              simp only [bagatelleref01_Text.l0] at H
              by_cases c15 : x7_3 = 0
              · rw [if_pos c15] at H
                have c15b0 : (x7_3 == 0) = true := beq_iff_eq.mpr c15
                have c15b1 : (x7_3 != 0) = false := bne_eq_false_iff_eq.mpr c15
                clear c15
                by_cases c16 : t749 = true
                · subst c16
                  have H1 : (if x6_3.size + 1 ≤ 9223372036854775807 then (some (x6_3 ++ (⟨#[33]⟩ : ByteArray))) else (none)) = some r := by rw [if_pos rfl] at H; exact H
                  clear H
                  have H := H1
                  clear H1
                  by_cases c17 : x6_3.size + 1 ≤ 9223372036854775807
                  · rw [if_pos c17] at H
                    have c17b0 := eq_true c17
                    have c17b1 : decide (x6_3.size + 1 ≤ 9223372036854775807) = true := decide_eq_true c17
                    try have c17b2 : (9223372036854775807 < x6_3.size + 1) = False := eq_false (Nat.not_lt.2 c17)
                    obtain rfl := Option.some.inj H
                    go_wp2
                    go_ret
                    exact ⟨by first | rfl | (simp [errW_none, errW_some] <;> rfl) | (simp [*, errW_none, errW_some] <;> rfl), by repeat (first | (with_reducible first | exact HB.out | apply below_alloc | apply pw_below_drewN | apply below_drew1 | refine below_set ?_ GE747.out) | exact HB.out)⟩
                  · rw [if_neg c17] at H
                    exact absurd H (by simp)
                · replace c16 := Bool.eq_false_iff.mpr c16
                  subst c16
                  have H1 : (some x6_3) = some r := by rw [if_neg (show ¬ (false = true) by decide)] at H; exact H
                  clear H
                  have H := H1
                  clear H1
                  obtain rfl := Option.some.inj H
                  go_wp2
                  go_ret
                  exact ⟨by first | rfl | (simp [errW_none, errW_some] <;> rfl) | (simp [*, errW_none, errW_some] <;> rfl), by repeat (first | (with_reducible first | exact HB.out | apply below_alloc | apply pw_below_drewN | apply below_drew1 | refine below_set ?_ GE747.out) | exact HB.out)⟩
              · rw [if_neg c15] at H
                have c15b0 : (x7_3 == 0) = false := beq_eq_false_iff_ne.mpr c15
                have c15b1 : (x7_3 != 0) = true := bne_iff_ne.mpr c15
                obtain ⟨y752, hy752⟩ : ∃ y_ : List Int, y_ = (([(IntKind.u64.wrap (48 + ((IntKind.u64.wrap (x7_3 * 10)) / 4294967296))) % 256] : List Int)) := ⟨_, rfl⟩
                replace H : (if x6_3.size + (strOfNums y752).size ≤ 9223372036854775807 then (bagatelleref01_Text.l0 k3 t749 (x6_3 ++ (strOfNums y752)) (Go.bits .and .u64 (IntKind.u64.wrap (x7_3 * 10)) 4294967295)) else (none)) = some r := by first | (rw [hy752]; with_reducible exact H) | (have H2_ := (Option.bind_some _ _).symm.trans H; rw [hy752]; with_reducible exact H2_) | (have H2_ := (Option.bind_some _ _).symm.trans H; with_reducible exact H2_) | with_reducible exact H | (rw [hy752]; exact H) | exact H
                have Ny752 := Aside0.mk hy752
                clear hy752
                by_cases c18 : x6_3.size + (strOfNums y752).size ≤ 9223372036854775807
                · rw [if_pos c18] at H
                  have c18b0 := eq_true c18
                  have c18b1 : decide (x6_3.size + (strOfNums y752).size ≤ 9223372036854775807) = true := decide_eq_true c18
                  try have c18b2 : (9223372036854775807 < x6_3.size + (strOfNums y752).size) = False := eq_false (Nat.not_lt.2 c18)
                  have H' := Aside0.mk H
                  clear H
                  go_wp2_with (first | ((with_reducible refine gate_dst (N := 37) rfl ?_); refine Kd.R_lit (Kd.int .u8) _ 5 ?hg (N := 37) ?hd (xs := ([(IntKind.u64.wrap (48 + ((IntKind.u64.wrap (x7_3 * 10)) / 4294967296))) % 256] : List Int)) (inner := [.int .u8 ((IntKind.u64.wrap (48 + ((IntKind.u64.wrap (x7_3 * 10)) / 4294967296))) % 256)]) (ok := fun _ => True) (okp := fun _ => True) ?hr ?hp (fun _ hk => hk) trivial (Below.refl _ _) (Nat.le_refl _) (by simp) ?_; (case hd => rfl); (case hg => rfl); (case hr => first | (go_simp; done) | (go_simp; rfl)); (case hp => exact (Reps.one (show Kd.M (Kd.int .u8) _ _ _ ((IntKind.u64.wrap (48 + ((IntKind.u64.wrap (x7_3 * 10)) / 4294967296))) % 256) [.int .u8 ((IntKind.u64.wrap (48 + ((IntKind.u64.wrap (x7_3 * 10)) / 4294967296))) % 256)] from rfl) (Reps.none _ _))); intro v753 w19 ho20 hb hg_ hnew_; clear hg_ hnew_; (first | rw [← Ny752.out] at ho20 | (simp only [Int.reduceToNat] at ho20; rw [← Ny752.out] at ho20)); have n0_ := Aside0.mk (Kd.R_lower ho20 (below_size (by repeat (first | (with_reducible first | exact HB.out | apply below_alloc | apply pw_below_drewN | apply below_drew1 | refine below_set ?_ GE747.out) | exact HB.out)))); have n1_ := Aside0.mk (blk_below (g := gb747) (o := .cells #[.int .i64 a0_0, .bool a0_1] 23 (0, 0)) (by (with_reducible repeat (first | refine blk_drewN ?_ _ | refine blk_drew ?_ | refine blk_alloc ?_ _)); exact BK747.out) hb); have n2_ := Aside0.mk (below_step (by repeat (first | (with_reducible first | exact HB.out | apply below_alloc | apply pw_below_drewN | apply below_drew1 | refine below_set ?_ GE747.out) | exact HB.out)) hb); clear BK747; clear HB; have HO754 := n0_; have BK747 := n1_; have HB := n2_; clear n0_ n1_ n2_; clear hb ho20; have hcv21 := own_string (P := Try.prog) Try.underlying94 Try.underlying5 Try.underlying9 (Kd.own_of_R HO754.out)))
                  go_roundg k3
                  case measure => have := HJ4.out; have := HJ11.out; have := HK3.out; omega
                  case rel => exact ⟨(x6_3 ++ (strOfNums y752)), (Go.bits .and .u64 (IntKind.u64.wrap (x7_3 * 10)) 4294967295), (by first | rfl | (simp; done) | (simp [*]; done)), (by first | rfl | (simp; done) | (simp [*]; done)), H', ⟨by have := HJ4.out; have := HJ11.out; have := HK3.out; omega⟩, ⟨by (with_reducible repeat (first | refine blk_drewN ?_ _ | refine blk_drew ?_ | refine blk_alloc ?_ _)); exact BK747.out⟩, ⟨by repeat (first | (with_reducible first | exact HB.out | apply below_alloc | apply pw_below_drewN | apply below_drew1 | refine below_set ?_ GE747.out) | exact HB.out)⟩⟩
                · rw [if_neg c18] at H
                  exact absurd H (by simp)
end Go.Proofs.Ytenpiaafkmfjfaa.B

end
section
namespace Go.Proofs.Ytenpiaafkmfjfaa.B
open Go.RowKit Go.Proofs.YtenpiaafkmfjfaaW.PrintWords Go.Proofs.YtenpiaafkmfjfaaW.PrintLast Go.Proofs.YtenpiaafkmfjfaaW.PrintMore
def tens (l : List Int) : Bool := l.all fun d => decide (0 ≤ d) && decide (d ≤ 9)
def nats (l : List Int) : List Nat := l.map Int.toNat
def bagatelleref01_fraction.f (l0 : List Int) : Option Int := if l0.length ≤ 1000 then (if tens l0 = true then some ((frac 32 (nats l0) 0 : Nat) : Int) else none) else none
theorem vint' {k : IntKind} {a b : Int} (h : a = b) : Value.int k a = Value.int k b := by rw [h]
theorem retI' {k : IntKind} {a b : Int} (h : a = b) : Ending.returned (Value.int k a) = .returned (Value.int k b) := by rw [h]
def RowI (w : World) (g : Nat) (l : List Nat) : Prop :=
  ∃ (cs : Array Value), w.heap[g]? = some (.cells cs 3 (0, 0)) ∧ l.length ≤ cs.size ∧ ∀ (j d : Nat), l[j]? = some d → cs[j]? = some (Value.int .i64 (d : Nat))
theorem RowI.cell {w : World} {g : Nat} {l : List Nat} (h : RowI w g l) (j : Nat) (d : Nat) (hj : l[j]? = some d) : w.cell? ⟨g, j, none⟩ = some (.int .i64 (d : Nat)) := by
  obtain ⟨cs, hb, _, hc⟩ := h
  rw [blk_cell hb]
  exact hc j d hj
theorem RowI.free {w : World} {g : Nat} {l : List Nat} (h : RowI w g l) (j : Nat) : w.frozen? ⟨g, j, none⟩ = false := by
  obtain ⟨cs, hb, _, _⟩ := h
  exact blk_frozen hb j
theorem RowI.set {w : World} {g : Nat} {l : List Nat} (h : RowI w g l) (j : Nat) (hj : j < l.length) (d : Nat) : RowI (w.setCell ⟨g, j, none⟩ (.int .i64 (d : Nat))) g (l.set j d) := by
  obtain ⟨cs, hb, hm, hc⟩ := h
  refine ⟨cs.setIfInBounds j (.int .i64 (d : Nat)), blk_set hb j _, by simpa using hm, fun i e hi => ?_⟩
  by_cases hij : j = i
  · subst hij
    rw [List.getElem?_set_self hj] at hi
    obtain rfl := Option.some.inj hi
    rw [Array.getElem?_setIfInBounds_self_of_lt (by omega)]
  · rw [List.getElem?_set_ne hij] at hi
    rw [Array.getElem?_setIfInBounds_ne hij]
    exact hc i e hi
theorem tens_nine (l : List Int) (h : tens l = true) : ninth (nats l) := by
  intro d hd
  obtain ⟨b, hb, rfl⟩ := List.mem_map.1 hd
  have ha := List.all_eq_true.1 h b hb
  simp only [Bool.and_eq_true, decide_eq_true_eq] at ha
  omega
theorem nats_back (l : List Int) (h : tens l = true) (j d : Nat) (hj : (nats l)[j]? = some d) : l[j]? = some (d : Int) := by
  unfold nats at hj
  rw [List.getElem?_map] at hj
  obtain ⟨b, hb, rfl⟩ := Option.map_eq_some_iff.1 hj
  have ha := List.all_eq_true.1 h b (List.mem_of_getElem? hb)
  simp only [Bool.and_eq_true, decide_eq_true_eq] at ha
  rw [hb, Int.toNat_of_nonneg ha.1]
theorem rowI_new (w : World) (l : List Int) (Z : Array Value) (h : tens l = true) : RowI (w.alloc (.cells ((l.map (Value.int .i64)).toArray ++ Z) 3)) w.heap.size (nats l) := by
  refine ⟨_, heap_alloc_new w _, ?_, fun j d hj => ?_⟩
  · simp [nats]
  · have := nats_back l h j d hj
    have hlt := (List.getElem?_eq_some_iff.1 this).1
    rw [Array.getElem?_append_left (by simpa using hlt)]
    simp [this]
theorem wpList_append_run {P : Program} (w : World) {ops : Array Oper} {rest : List Oper} {o : Oper} {a : Act} {Q : Exit → Act → World → Prop} (hgd : o.guard = none) (s x : Operand) (t : TypeId)
    (ho : o.op = .call { callee := .builtin .append, args := #[s, x], argTypes := #[t, t] }) (v1 v2 v' : Value) (w' : World) (hs : a.eval s = v1) (hx : a.eval x = v2)
    (hrun : (Builtin.append_ #[t, t] o.type #[v1, v2]).run P w = .ok v' w') (h : wpList P ops Q rest (a.put o.dst v') w') : wpList P ops Q (o :: rest) a w :=
  wpList_plain hgd fun _ hK => by
    unfold Oper.wp execOp
    simp only [ho, resolve, invoke, builtin, Sem.run_bind, Sem.run_pure, Result.andThen_ok, List.map_toArray, List.map_cons, List.map_nil, hs, hx, hrun]
    exact hK _ _ h
set_option maxHeartbeats 2000000 in
set_option maxRecDepth 100000 in
theorem fraction_nil (A0 : Option Addr) (c0 : Nat) (w : World) :
    Calls Try.prog 101 #[.slice A0 0 c0] w fun e w' => e = .returned (.int .u64 0) ∧ Below w.heap.size w w' := by
  have happ : ∀ w, (Builtin.append_ #[91, 91] 91 #[.slice none 0 0, .slice A0 0 c0]).run Try.prog w = .ok (.slice none 0 0) w := by
    intro w
    obtain ⟨i, hi, hz0, hz1, hz2⟩ := info_parts info3
    cases A0 with
    | none => simp [Builtin.append_, run_underlying Try.underlying91, sizeOf, typeInfo, hi, Builtin.lenOf, Builtin.firstCells]
    | some a => simp [Builtin.append_, run_underlying Try.underlying91, sizeOf, typeInfo, hi, Builtin.lenOf, Builtin.firstCells, loadCells, loadCellsFrom]
  go_enter Try.func101, Try.ntmps101
  have HA : Hid (∀ w, (Builtin.append_ #[91, 91] 91 #[.slice none 0 0, .slice A0 0 c0]).run Try.prog w = .ok (.slice none 0 0) w) := happ
  clear happ
  go_wp2_with (at_builtin; refine wpList_append_run _ rfl _ _ 91 rfl _ _ _ _ rfl rfl (HA.out _) ?_)
  go_loopw [3, 4] (fun o i wr => ∃ (n : Nat), n ≤ 32 ∧ i = .int .i64 n ∧ o = .int .u64 0 ∧ Hid (Below w.heap.size w wr)) (fun _ i _ => 32 - (intOf i).toNat)
  case atStart => exact ⟨0, by omega, rfl, rfl, Below.refl _ _⟩
  case round =>
    obtain ⟨n, hn32, rfl, rfl, hB⟩ := hrel
    by_cases hlt : n < 32
    · have hltB : decide ((n : Int) < 32) = true := by simp; omega
      go_wp2_with fail
      clear hltB
      go_loopw [5, 6] (fun c i wr => i = .int .i64 (-1) ∧ c = .int .i64 0 ∧ Hid (Below w.heap.size w wr)) (fun _ i _ => 0)
      case atStart => exact ⟨rfl, rfl, hB⟩
      case round =>
        clear hB
        obtain ⟨rfl, rfl, hB⟩ := hrel
        go_wp2
        go_roundw
        case rel => exact ⟨n + 1, by omega, by go_num, by rfl, hB⟩
        case measure => first | (simp [intOf]; done) | (simp [intOf]; omega)
    · obtain rfl : n = 32 := by omega
      have hlt2 : decide ((32 : Int) < 32) = false := by decide
      go_wp2
      go_ret
      exact ⟨rfl, hB.out⟩
set_option maxHeartbeats 2000000 in
set_option maxRecDepth 100000 in
theorem fraction_some (ad : Addr) (c0 : Nat) (l0 : List Int) (w : World) (hpos : 0 < l0.length) (hn : l0.length ≤ 1000) (hd : tens l0 = true)
    (hcells : ∀ j u, (l0.map (Value.int .i64))[j]? = some u → w.cell? (ad.add j) = some u) :
    Calls Try.prog 101 #[.slice (some ad) l0.length c0] w fun e w' => e = .returned (.int .u64 (frac 32 (nats l0) 0 : Nat)) ∧ Below w.heap.size w w' := by
  obtain ⟨i, hi, hz0, hz1, hz2⟩ := info_parts info3
  have HA : Hid ((Builtin.append_ #[91, 91] 91 #[.slice none 0 0, .slice (some ad) l0.length c0]).run Try.prog w = _) := run_append_nil (P := Try.prog) w 91 91 3 i (.int .i64 0) Try.underlying91 hi hz0 ad l0.length c0 (l0.map (Value.int .i64)) (by simp [hz1]) hcells hpos (by omega) (by rw [hz2]; omega)
  clear hi hz0 hz1 hz2 hcells
  have H9 : Hid (ninth (nats l0)) := tens_nine l0 hd
  have HL : Hid ((nats l0).length = l0.length) := by simp [nats, Hid]
  have HDG : Hid (tens l0 = true) := hd
  clear hd
  generalize hR0 : frac 32 (nats l0) 0 = R0
  have HR0 : Hid (frac 32 (nats l0) 0 = R0) := hR0
  clear hR0
  go_enter Try.func101, Try.ntmps101
  go_wp2_with (at_builtin; refine wpList_append_run _ rfl _ _ 91 rfl _ _ _ _ rfl rfl HA.out ?_)
  clear HA
  generalize hZ : Builtin.zeroCells _ _ = Z
  clear hZ
  have hR : Hid (RowI _ w.heap.size (nats l0)) := rowI_new w.drew l0 Z HDG.out
  have hB : Hid (Below w.heap.size w (w.drew.alloc (.cells ((l0.map (Value.int .i64)).toArray ++ Z) 3))) := below_alloc (below_drew1 (Below.refl _ _)) _
  go_loopw [3, 4] (fun o i wr => ∃ (n : Nat) (l : List Nat) (out : Nat), n ≤ 32 ∧ i = .int .i64 n ∧ o = .int .u64 out ∧ Hid (l.length = l0.length) ∧ Hid (ninth l) ∧ Hid (out < 2 ^ n) ∧ Hid (frac (32 - n) l out = R0) ∧ Hid (RowI wr w.heap.size l) ∧ Hid (Below w.heap.size w wr)) (fun _ i _ => 32 - (intOf i).toNat)
  case atStart => exact ⟨0, nats l0, 0, by omega, rfl, rfl, HL, H9, (show 0 < 2 ^ 0 by decide), HR0, hR, hB⟩
  case round =>
    clear hR hB HL H9
    obtain ⟨n, l, out, hn32, rfl, rfl, HL, H9, HO, HF, hR, hB⟩ := hrel
    obtain ⟨wo, rfl⟩ : ∃ wo : World, wo = wr := ⟨_, rfl⟩
    by_cases hlt : n < 32
    · have hltB : decide ((n : Int) < 32) = true := by simp; omega
      have hOb : Hid (out < 4294967296) := Nat.lt_of_lt_of_le HO.out (by have := Nat.pow_le_pow_right (n := 2) (by decide) (show n ≤ 32 by omega); simpa using this)
      go_wp2_with fail
      clear hltB
      go_loopw [5, 6] (fun c i wr => ∃ (p : Nat) (z : Int), p ≤ l.length ∧ i = .int .i64 z ∧ Hid (z = (p : Int) - 1) ∧ c = .int .i64 (midC l p) ∧ Hid (RowI wr w.heap.size (mid l p)) ∧ Hid (Below w.heap.size w wr)) (fun _ i _ => (intOf i + 1).toNat)
      case atStart => exact ⟨l.length, _, by omega, rfl, (by rw [HL.out] : (l0.length : Int) - 1 = (l.length : Int) - 1), by rw [(mid_all l).2]; rfl, (by rw [(mid_all l).1]; exact hR.out), hB.out⟩
      case round =>
        clear hR hB
        obtain ⟨p, z, hp, rfl, hz, rfl, hR, hB⟩ := hrel
        have hzz := hz.out
        clear hz
        cases p with
        | zero =>
          obtain rfl : z = -1 := by omega
          clear hzz
          have hcz : midC l 0 ≤ 1 := midC_le l 0 H9.out
          have e0 : Hid (midC l 0 = (dblR l).2) := (mid_zero l).2
          have e1 : Hid (RowI wr w.heap.size (dblR l).1) := by have := hR.out; rw [(mid_zero l).1] at this; exact this
          clear hR
          generalize midC l 0 = c at hcz e0
          have hob := hOb.out
          have e2 : Hid (IntKind.u64.wrap ((out : Int) * 2) = ((2 * out : Nat) : Int)) := by show _ = _; rw [IntKind.wrap_u64]; omega
          have e3 : Hid (bits .or .u64 ((2 * out : Nat) : Int) (c : Int) = ((2 * out + c : Nat) : Int)) := or_bit out c hcz (by omega)
          have e4 : Hid (2 * out + c < 2 ^ (n + 1)) := by have := HO.out; show _ < _; rw [Nat.pow_succ]; omega
          have e5 : Hid (frac (32 - (n + 1)) (dblR l).1 (2 * out + c) = R0) := by
            have := HF.out
            rw [show 32 - n = (32 - (n + 1)) + 1 by omega, frac_step, ← e0.out] at this
            exact this
          have e7 : Hid (IntKind.u64.wrap (c : Int) = (c : Int)) := by show _ = _; rw [IntKind.wrap_u64]; omega
          clear hob
          go_wp2
          go_roundw
          case rel => exact ⟨n + 1, (dblR l).1, 2 * out + c, by omega, by go_num, by first | rw [e2.out, e3.out] | rw [e7.out, e2.out, e3.out], (by show _ = _; rw [dblR_len]; exact HL.out), dblR_nine l, e4, e5, e1, hB⟩
          case measure => first | (simp [intOf]; done) | (simp [intOf]; omega)
        | succ q =>
          obtain rfl : z = (q : Int) := by omega
          clear hzz
          have hq : q < l.length := by omega
          have hqa : q < l0.length := by have := HL.out; omega
          have hcz : midC l (q + 1) ≤ 1 := midC_le l (q + 1) H9.out
          have hst := mid_step l q hq
          have hd9 : l[q] ≤ 9 := H9.out _ (List.getElem_mem hq)
          have q0 := hR.out.cell q _ (mid_at l q hq)
          have z0 := hR.out.free q
          have hset := hR.out.set q (by rw [mid_len]; omega) ((2 * l[q] + midC l (q + 1)) % 10)
          rw [← hst.1] at hset
          have hst2 := hst.2
          clear hst
          generalize l[q] = d at *
          generalize midC l (q + 1) = c at *
          have HS2 : Hid (midC l q = (2 * d + c) / 10) := hst2
          have HSET : Hid (RowI (wr.setCell ⟨w.heap.size, q, none⟩ (.int .i64 ((2 * d + c) % 10 : Nat))) w.heap.size (mid l q)) := hset
          clear hst2 hset
          go_wp2
          go_roundw
          case rel =>
            refine ⟨q, _, by omega, rfl, rfl, ?_, ?_, ?_⟩
            · exact vint' (by rw [HS2.out]; omega)
            · have := HSET.out
              rw [show (((2 * d + c) % 10 : Nat) : Int) = (2 * (d : Int) + (c : Int)) % 10 by omega] at this
              exact this
            · exact below_set hB.out (Nat.le_refl _)
          case measure => first | (simp [intOf]; done) | (simp [intOf]; omega)
    · obtain rfl : n = 32 := by omega
      have e6 : Hid (out = R0) := by have := HF.out; simp only [Nat.sub_self, frac] at this; exact this
      clear HF HO
      have hlt2 : decide ((32 : Int) < 32) = false := by decide
      go_wp2
      go_ret
      exact ⟨retI' (by rw [e6.out]), hB.out⟩
theorem frac_empty : ∀ (r : Nat), frac r [] 0 = 0
  | 0 => rfl
  | r + 1 => by rw [frac_step]; exact frac_empty r
theorem bagatelleref01_fraction.calls (A0 : Option Addr) (c0 : Nat) (l0 : List Int) (r : Int) (w : World) (hr0 : Kd.C (Kd.int .i64) w A0 l0.length l0) (_hc0 : l0.length ≤ c0) (h : bagatelleref01_fraction.f l0 = some r) :
    Calls Try.prog 101 #[.slice A0 l0.length c0] w fun e w' => e = .returned (.int .u64 r) ∧ Below w.heap.size w w' := by
  unfold bagatelleref01_fraction.f at h
  by_cases hn : l0.length ≤ 1000
  · rw [if_pos hn] at h
    by_cases hd : tens l0 = true
    · rw [if_pos hd] at h
      obtain rfl := Option.some.inj h
      rcases Nat.eq_zero_or_pos l0.length with h0 | h0
      · obtain rfl := List.eq_nil_of_length_eq_zero h0
        have := fraction_nil A0 c0 w
        rw [show frac 32 (nats []) 0 = 0 from frac_empty 32]
        exact this
      · obtain ⟨ad, rfl, hc⟩ := hr0.2.2 h0
        refine fraction_some ad c0 l0 w h0 hn hd fun j u hu => ?_
        rw [List.getElem?_map] at hu
        obtain ⟨p, hp, rfl⟩ := Option.map_eq_some_iff.1 hu
        obtain ⟨c, _, rfl, hcc⟩ := hc j p hp
        have := hcc 0 _ rfl
        simpa [Kd.int, Kd.scalar] using this
    · rw [if_neg hd] at h
      cases h
  · rw [if_neg hn] at h
    cases h
end Go.Proofs.Ytenpiaafkmfjfaa.B

end
section
namespace Go.Proofs.Ytenpiaafkmfjfaa.B
open Go.RowKit Go.Proofs.YtenpiaafkmfjfaaW.PrintWords Go.Proofs.YtenpiaafkmfjfaaW.PrintLast Go.Proofs.YtenpiaafkmfjfaaW.PrintMore
attribute [local go_sem] max2_int min2_int max_two min_two max_three min_three max_four min_four
set_option linter.unusedVariables false
set_option linter.unusedSimpArgs false
mutual
def bagatelleref01_Parse.j0 : Nat → ByteArray → Int → Bool → Option (Int × Bool × Int)
  | 0, _, _, _ => none
  | k + 1, x0, x5, x6 => if x6 = true then (bagatelleref01_Parse.j1 k x0 1 x6) else (bagatelleref01_Parse.j1 k x0 x5 x6)
def bagatelleref01_Parse.j1 : Nat → ByteArray → Int → Bool → Option (Int × Bool × Int)
  | 0, _, _, _ => none
  | k + 1, x0, x5, x6 => bagatelleref01_Parse.l0 k x0 x5 x6 0
def bagatelleref01_Parse.j3 : Nat → ByteArray → Int → Bool → Int → Option (Int × Bool × Int)
  | 0, _, _, _, _ => none
  | k + 1, x0, x5, x6, x7 => if x7 ≥ 2147483648 then (some (0, false, 4)) else (if x5 < (x0.size : Int) then (if 0 ≤ x5 then (bagatelleref01_Parse.j4 k x0 x5 x6 x7 ([] : List Int) ((bt x0 x5) == 46)) else (none)) else (bagatelleref01_Parse.j4 k x0 x5 x6 x7 ([] : List Int) false))
def bagatelleref01_Parse.j4 : Nat → ByteArray → Int → Bool → Int → List Int → Bool → Option (Int × Bool × Int)
  | 0, _, _, _, _, _, _ => none
  | k + 1, x0, x5, x6, x7, x8, x65 => if x65 = true then (bagatelleref01_Parse.l1 k x0 (wrap64 (x5 + 1)) x6 x7 x8) else (bagatelleref01_Parse.j6 k x0 x5 x6 x7 x8)
def bagatelleref01_Parse.j6 : Nat → ByteArray → Int → Bool → Int → List Int → Option (Int × Bool × Int)
  | 0, _, _, _, _, _ => none
  | k + 1, x0, x5, x6, x7, x8 => (bagatelleref01_fraction.f x8).bind fun t760 => (if x6 = true then ((bagatelleref01_Text.f k (wrap64 (-(wrap64 (Go.bits .or .u64 (IntKind.u64.wrap (x7 * 4294967296)) t760)))) (decide (x5 < (x0.size : Int)))).bind fun t761 => (if t761.toList = x0.toList then (some (wrap64 (-(wrap64 (Go.bits .or .u64 (IntKind.u64.wrap (x7 * 4294967296)) t760))), decide (x5 < (x0.size : Int)), 0)) else (some (0, false, 4)))) else ((bagatelleref01_Text.f k (wrap64 (Go.bits .or .u64 (IntKind.u64.wrap (x7 * 4294967296)) t760)) (decide (x5 < (x0.size : Int)))).bind fun t762 => (if t762.toList = x0.toList then (some (wrap64 (Go.bits .or .u64 (IntKind.u64.wrap (x7 * 4294967296)) t760), decide (x5 < (x0.size : Int)), 0)) else (some (0, false, 4)))))
def bagatelleref01_Parse.l1 : Nat → ByteArray → Int → Bool → Int → List Int → Option (Int × Bool × Int)
  | 0, _, _, _, _, _ => none
  | k + 1, x0, x5, x6, x7, x8 => if x5 < (x0.size : Int) then (if 0 ≤ x5 then (if (bt x0 x5) ≥ 48 then (if (bt x0 x5) ≤ 57 then (if x8.length < 17592186044416 then (bagatelleref01_Parse.l1 k x0 (wrap64 (x5 + 1)) x6 x7 (x8 ++ [((bt x0 x5) - 48) % 256])) else (none)) else (bagatelleref01_Parse.j6 k x0 x5 x6 x7 x8)) else (bagatelleref01_Parse.j6 k x0 x5 x6 x7 x8)) else (none)) else (bagatelleref01_Parse.j6 k x0 x5 x6 x7 x8)
def bagatelleref01_Parse.l0 : Nat → ByteArray → Int → Bool → Int → Option (Int × Bool × Int)
  | 0, _, _, _, _ => none
  | k + 1, x0, x5, x6, x7 => if x5 < (x0.size : Int) then (if 0 ≤ x5 then (if (bt x0 x5) ≥ 48 then (if (bt x0 x5) ≤ 57 then (if x7 < 4294967296 then (bagatelleref01_Parse.l0 k x0 (wrap64 (x5 + 1)) x6 (IntKind.u64.wrap ((IntKind.u64.wrap (10 * x7)) + (((bt x0 x5) - 48) % 256)))) else (bagatelleref01_Parse.j3 k x0 x5 x6 x7)) else (bagatelleref01_Parse.j3 k x0 x5 x6 x7)) else (bagatelleref01_Parse.j3 k x0 x5 x6 x7)) else (none)) else (bagatelleref01_Parse.j3 k x0 x5 x6 x7)
end
def bagatelleref01_Parse.f (k : Nat) (a0 : ByteArray) : Option (Int × Bool × Int) := if (a0.size : Int) > 50 then (some (0, false, 4)) else (if (a0.size : Int) > 0 then (if 0 < (a0.size : Int) then (bagatelleref01_Parse.j0 k a0 0 ((bt a0 0) == 45)) else (none)) else (bagatelleref01_Parse.j0 k a0 0 false))
set_option maxHeartbeats 8000000 in
set_option maxRecDepth 100000 in
theorem bagatelleref01_Parse.calls (k : Nat) (a0 : ByteArray) (r1 : Int) (r2 : Bool) (r3 : Int) (w : World) (h : bagatelleref01_Parse.f k a0 = some (r1, r2, r3)) :
    Calls Try.prog 66 #[.string a0] w fun e w' => e = .returned (.tuple #[.agg #[.int .i64 r1, .bool r2], .int .i64 r3]) ∧ Below w.heap.size w w' := by
  have hu23 := Try.underlying23
  have HB := Aside0.mk (Below.refl w.heap.size w)
  have H : (if (a0.size : Int) > 50 then (some (0, false, 4)) else (if (a0.size : Int) > 0 then (if 0 < (a0.size : Int) then (bagatelleref01_Parse.j0 k a0 0 ((bt a0 0) == 45)) else (none)) else (bagatelleref01_Parse.j0 k a0 0 false))) = some (r1, r2, r3) := h
  clear h
  by_cases c2 : (a0.size : Int) > 50
  · rw [if_pos c2] at H
    have c2b0 : decide (50 < (a0.size : Int)) = true := decide_eq_true c2
    have c2b1 : decide (50 < a0.size) = true := decide_eq_true (by omega)
    clear c2
    simp only [Option.some.injEq, Prod.mk.injEq] at H
    obtain ⟨rfl, rfl, rfl⟩ := H
    go_enter Try.func66, Try.ntmps66
    go_wp2_with (first | ((with_reducible refine gate_dst (N := 2) rfl ?_); refine box_event ?hg (N := 2) ?hd (cs := #[.int .i64 0, .bool false]) (t := 23) ?hr ?_; (case hd => rfl); (case hg => rfl); (case hr => first | (go_simp; done) | (go_simp; rfl)); intro gb755 hg w3 hbox hb; have n0_ := Aside0.mk (below_step (by repeat (first | (with_reducible first | exact HB.out | apply below_alloc | apply pw_below_drewN | apply below_drew1) | exact HB.out)) hb); have n1_ := Aside0.mk (hbox); have n2_ := Aside0.mk ((by rw [hg]; exact (below_size (by repeat (first | (with_reducible first | exact HB.out | apply below_alloc | apply pw_below_drewN | apply below_drew1) | exact HB.out))) : w.heap.size ≤ gb755)); have n3_ := Aside0.mk ((by rw [hg]; exact (below_size (by repeat (first | (with_reducible first | exact HB.out | apply below_alloc | apply pw_below_drewN | apply below_drew1) | exact HB.out))) : w.heap.size ≤ gb755)); clear HB; have HB := n0_; have BK755 := n1_; have GW755 := n2_; have GE755 := n3_; clear n0_ n1_ n2_ n3_; clear hb hbox hg; have hcz4_0 : w3.cell? ⟨gb755, 0, none⟩ = some (.int .i64 0) := (blk_cell BK755.out 0).trans rfl; have hcz4_1 : w3.cell? ⟨gb755, 1, none⟩ = some (.bool false) := (blk_cell BK755.out 1).trans rfl; have hfz4_0 := blk_frozen BK755.out 0; have hfz4_1 := blk_frozen BK755.out 1))
    refine bodyPost_ret (results_ct rfl _ _ gb755 23 #[.int .i64 0, .bool false] (0, 0) _ rfl (by (with_reducible repeat (first | refine blk_drewN ?_ _ | refine blk_drew ?_ | refine blk_alloc ?_ _)); refine blk_put (cs := #[.int .i64 0, .bool false]) ?_ 1 _ rfl; (with_reducible repeat (first | refine blk_drewN ?_ _ | refine blk_drew ?_ | refine blk_alloc ?_ _)); refine blk_put (cs := #[.int .i64 0, .bool false]) ?_ 0 _ rfl; (with_reducible repeat (first | refine blk_drewN ?_ _ | refine blk_drew ?_ | refine blk_alloc ?_ _)); exact BK755.out) Try.underlying23 rfl (by kernel_rfl)) rfl ?_
    exact ⟨by first | rfl | (simp [errW_none, errW_some] <;> rfl) | (simp [*, errW_none, errW_some] <;> rfl), by repeat (first | (with_reducible first | exact HB.out | apply below_alloc | apply pw_below_drewN | apply below_drew1 | refine below_set ?_ GE755.out) | exact HB.out)⟩
  · rw [if_neg c2] at H
    have c2b0 : decide (50 < (a0.size : Int)) = false := decide_eq_false c2
    have c2b1 : decide (50 < a0.size) = false := decide_eq_false (by omega)
    clear c2
    have HC5 := Aside0.mk H
    clear H
    go_enter Try.func66, Try.ntmps66
    go_upto_region 4 with (first | ((with_reducible refine gate_dst (N := 2) rfl ?_); refine box_event ?hg (N := 2) ?hd (cs := #[.int .i64 0, .bool false]) (t := 23) ?hr ?_; (case hd => rfl); (case hg => rfl); (case hr => first | (go_simp; done) | (go_simp; rfl)); intro gb755 hg w6 hbox hb; have n0_ := Aside0.mk (below_step (by repeat (first | (with_reducible first | exact HB.out | apply below_alloc | apply pw_below_drewN | apply below_drew1) | exact HB.out)) hb); have n1_ := Aside0.mk (hbox); have n2_ := Aside0.mk ((by rw [hg]; exact (below_size (by repeat (first | (with_reducible first | exact HB.out | apply below_alloc | apply pw_below_drewN | apply below_drew1) | exact HB.out))) : w.heap.size ≤ gb755)); have n3_ := Aside0.mk ((by rw [hg]; exact (below_size (by repeat (first | (with_reducible first | exact HB.out | apply below_alloc | apply pw_below_drewN | apply below_drew1) | exact HB.out))) : w.heap.size ≤ gb755)); clear HB; have HB := n0_; have BK755 := n1_; have GW755 := n2_; have GE755 := n3_; clear n0_ n1_ n2_ n3_; clear hb hbox hg) | ((with_reducible refine gate_dst (N := 4) rfl ?_); refine box_event ?hg (N := 4) ?hd (cs := #[.int .i64 0, .bool false]) (t := 23) ?hr ?_; (case hd => rfl); (case hg => rfl); (case hr => first | (go_simp; done) | (go_simp; rfl)); intro gb756 hg w7 hbox hb; have n0_ := Aside0.mk (blk_below (g := gb755) (o := .cells #[.int .i64 0, .bool false] 23 (0, 0)) (by (with_reducible repeat (first | refine blk_drewN ?_ _ | refine blk_drew ?_ | refine blk_alloc ?_ _)); exact BK755.out) hb); have n1_ := Aside0.mk (below_step (by repeat (first | (with_reducible first | exact HB.out | apply below_alloc | apply pw_below_drewN | apply below_drew1 | refine below_set ?_ GE755.out) | exact HB.out)) hb); have n2_ := Aside0.mk (hbox); have n3_ := Aside0.mk ((by rw [hg]; exact (below_size (by repeat (first | (with_reducible first | exact HB.out | apply below_alloc | apply pw_below_drewN | apply below_drew1 | refine below_set ?_ GE755.out) | exact HB.out))) : w.heap.size ≤ gb756)); have n4_ := Aside0.mk ((by rw [hg]; exact (below_size (by repeat (first | (with_reducible first | exact HB.out | apply below_alloc | apply pw_below_drewN | apply below_drew1 | refine below_set ?_ GE755.out) | exact HB.out))) : w.heap.size ≤ gb756)); have n5_ := Aside0.mk ((by rw [hg]; exact Nat.ne_of_lt (blk_lt (g := gb755) (o := .cells #[.int .i64 0, .bool false] 23 (0, 0)) (by (with_reducible repeat (first | refine blk_drewN ?_ _ | refine blk_drew ?_ | refine blk_alloc ?_ _)); exact BK755.out)) : gb755 ≠ gb756)); have n6_ := Aside0.mk ((by rw [hg]; exact Nat.ne_of_gt (blk_lt (g := gb755) (o := .cells #[.int .i64 0, .bool false] 23 (0, 0)) (by (with_reducible repeat (first | refine blk_drewN ?_ _ | refine blk_drew ?_ | refine blk_alloc ?_ _)); exact BK755.out)) : gb756 ≠ gb755)); clear BK755; clear HB; have BK755 := n0_; have HB := n1_; have BK756 := n2_; have GW756 := n3_; have GE756 := n4_; have NB755_756 := n5_; have NB756_755 := n6_; clear n0_ n1_ n2_ n3_ n4_ n5_ n6_; clear hb hbox hg; have hnb8 := NB756_755.out; have hnc8 := NB755_756.out; have hcz9_0 : w7.cell? ⟨gb756, 0, none⟩ = some (.int .i64 0) := (blk_cell BK756.out 0).trans rfl; have hcz9_1 : w7.cell? ⟨gb756, 1, none⟩ = some (.bool false) := (blk_cell BK756.out 1).trans rfl; have hfz9_0 := blk_frozen BK756.out 0; have hfz9_1 := blk_frozen BK756.out 1))
    (try simp only [Act.put, List.setIfInBounds_toArray, List.set_cons_zero, List.set_cons_succ])
    go_cut [6] (fun v6 wc => ∃ (kq : Nat) (x6_4 : Bool), v6 = .bool x6_4 ∧ Aside0 (bagatelleref01_Parse.j0 kq a0 0 x6_4 = some (r1, r2, r3)) ∧ Aside0 (kq ≤ k) ∧ Aside0 (wc.heap[gb755]? = some (.cells #[.int .i64 0, .bool false] 23 (0, 0))) ∧ Aside0 (wc.heap[gb756]? = some (.cells #[.int .i64 0, .bool false] 23 (0, 0))) ∧ Aside0 (Below w.heap.size w wc))
    case first =>
      have H := HC5.out
      clear HC5
      by_cases c10 : (a0.size : Int) > 0
      · rw [if_pos c10] at H
        have c10b0 : decide (0 < (a0.size : Int)) = true := decide_eq_true c10
        have c10b1 : decide (0 < a0.size) = true := decide_eq_true (by omega)
        clear c10
        (first | rw [c10b0] | (simp only [i64_w, i32_w]; rw [c10b0]) | skip)
        by_cases c11 : 0 < (a0.size : Int)
        · rw [if_pos c11] at H
          have c11b0 : decide (0 < (a0.size : Int)) = true := decide_eq_true c11
          have c11b1 : decide (0 < a0.size) = true := decide_eq_true (by omega)
          clear c11
          have H' := Aside0.mk H
          clear H
          have p12 : 0 ≤ (0 : Int) := (by omega)
          have q12 : 0 < a0.size := (by have : (0 : Int) < (a0.size : Int) := of_decide_eq_true (by first | (with_reducible assumption) | assumption); omega)
          have hx12 : ∀ h : 0 < a0.size, ((a0[0]'h).toNat : Int) = bt a0 0 := bt_at a0 0
          clear p12
          have qi12 : (0 < (a0.size : Int)) = True := eq_true (of_decide_eq_true (by first | (with_reducible assumption) | assumption))
          replace q12 := eq_true q12
          go_wp2
          go_meet
          case rel => exact ⟨_, (((bt a0 0) == 45)), (by first | rfl | (simp; done) | (simp [*]; done)), H', ⟨by first | omega | exact Nat.le_refl _⟩, ⟨by (with_reducible repeat (first | refine blk_drewN ?_ _ | refine blk_drew ?_ | refine blk_alloc ?_ _)); refine blk_far ?_ NB755_756.out _; (with_reducible repeat (first | refine blk_drewN ?_ _ | refine blk_drew ?_ | refine blk_alloc ?_ _)); refine blk_far ?_ NB755_756.out _; (with_reducible repeat (first | refine blk_drewN ?_ _ | refine blk_drew ?_ | refine blk_alloc ?_ _)); exact BK755.out⟩, ⟨by (with_reducible repeat (first | refine blk_drewN ?_ _ | refine blk_drew ?_ | refine blk_alloc ?_ _)); refine blk_put (cs := #[.int .i64 0, .bool false]) ?_ 1 _ rfl; (with_reducible repeat (first | refine blk_drewN ?_ _ | refine blk_drew ?_ | refine blk_alloc ?_ _)); refine blk_put (cs := #[.int .i64 0, .bool false]) ?_ 0 _ rfl; (with_reducible repeat (first | refine blk_drewN ?_ _ | refine blk_drew ?_ | refine blk_alloc ?_ _)); exact BK756.out⟩, ⟨by repeat (first | (with_reducible first | exact HB.out | apply below_alloc | apply pw_below_drewN | apply below_drew1 | refine below_set ?_ GE755.out | refine below_set ?_ GE756.out) | exact HB.out)⟩⟩
        · rw [if_neg c11] at H
          exact absurd H (by simp)
      · rw [if_neg c10] at H
        have c10b0 : decide (0 < (a0.size : Int)) = false := decide_eq_false c10
        have c10b1 : decide (0 < a0.size) = false := decide_eq_false (by omega)
        clear c10
        (first | rw [c10b0] | (simp only [i64_w, i32_w]; rw [c10b0]) | skip)
        have H' := Aside0.mk H
        clear H
        go_wp2
        go_meet
        case rel => exact ⟨_, (false), (by first | rfl | (simp; done) | (simp [*]; done)), H', ⟨by first | omega | exact Nat.le_refl _⟩, ⟨by (with_reducible repeat (first | refine blk_drewN ?_ _ | refine blk_drew ?_ | refine blk_alloc ?_ _)); refine blk_far ?_ NB755_756.out _; (with_reducible repeat (first | refine blk_drewN ?_ _ | refine blk_drew ?_ | refine blk_alloc ?_ _)); refine blk_far ?_ NB755_756.out _; (with_reducible repeat (first | refine blk_drewN ?_ _ | refine blk_drew ?_ | refine blk_alloc ?_ _)); exact BK755.out⟩, ⟨by (with_reducible repeat (first | refine blk_drewN ?_ _ | refine blk_drew ?_ | refine blk_alloc ?_ _)); refine blk_put (cs := #[.int .i64 0, .bool false]) ?_ 1 _ rfl; (with_reducible repeat (first | refine blk_drewN ?_ _ | refine blk_drew ?_ | refine blk_alloc ?_ _)); refine blk_put (cs := #[.int .i64 0, .bool false]) ?_ 0 _ rfl; (with_reducible repeat (first | refine blk_drewN ?_ _ | refine blk_drew ?_ | refine blk_alloc ?_ _)); exact BK756.out⟩, ⟨by repeat (first | (with_reducible first | exact HB.out | apply below_alloc | apply pw_below_drewN | apply below_drew1 | refine below_set ?_ GE755.out | refine below_set ?_ GE756.out) | exact HB.out)⟩⟩
    case rest =>
      clear HC5
      try clear c1
      try clear p1
      try clear q1
      try clear hx1
      try clear qi1
      try clear c2
      try clear c2b0
      try clear c2b1
      try clear p2
      try clear c6
      try clear c8
      try clear c10
      try clear c10b0
      try clear c10b1
      try clear c11
      try clear c11b0
      try clear c11b1
      try clear p12
      try clear q12
      try clear hx12
      try clear qi12
      try clear hcz4_0
      try clear hcz4_1
      try clear hcz9_0
      try clear hcz9_1
      try clear hfz4_0
      try clear hfz4_1
      try clear hfz9_0
      try clear hfz9_1
      try clear p12
      try clear q12
      obtain ⟨kq, x6_4, rfl, HA, HJ4, BK755, BK756, HB⟩ := hcut
      cases kq with
      | zero => exact absurd HA.out (by simp [bagatelleref01_Parse.j0])
      | succ kj4 =>
        have H := HA.out
        clear HA
        simp only [bagatelleref01_Parse.j0] at H
        have HC13 := Aside0.mk H
        clear H
        go_upto_if 22 with (fail)
        go_cut [5] (fun v5 wc => ∃ (kq : Nat) (x5_12 : Int), v5 = .int .i64 x5_12 ∧ Aside0 (bagatelleref01_Parse.j1 kq a0 x5_12 x6_4 = some (r1, r2, r3)) ∧ Aside0 (kq ≤ kj4) ∧ Aside0 (wc.heap[gb755]? = some (.cells #[.int .i64 0, .bool false] 23 (0, 0))) ∧ Aside0 (wc.heap[gb756]? = some (.cells #[.int .i64 0, .bool false] 23 (0, 0))) ∧ Aside0 (Below w.heap.size w wc))
        case first =>
          have H := HC13.out
          clear HC13
          by_cases c14 : x6_4 = true
          · subst c14
            have H1 : (bagatelleref01_Parse.j1 kj4 a0 1 true) = some (r1, r2, r3) := by rw [if_pos rfl] at H; exact H
            clear H
            have H := H1
            clear H1
            have H' := Aside0.mk H
            clear H
            go_wp2
            go_meet
            case rel => exact ⟨_, (1), (by first | rfl | (simp; done) | (simp [*]; done)), H', ⟨by have := HJ4.out; first | omega | exact Nat.le_refl _⟩, ⟨by (with_reducible repeat (first | refine blk_drewN ?_ _ | refine blk_drew ?_ | refine blk_alloc ?_ _)); exact BK755.out⟩, ⟨by (with_reducible repeat (first | refine blk_drewN ?_ _ | refine blk_drew ?_ | refine blk_alloc ?_ _)); exact BK756.out⟩, ⟨by repeat (first | (with_reducible first | exact HB.out | apply below_alloc | apply pw_below_drewN | apply below_drew1 | refine below_set ?_ GE755.out | refine below_set ?_ GE756.out) | exact HB.out)⟩⟩
          · replace c14 := Bool.eq_false_iff.mpr c14
            subst c14
            have H1 : (bagatelleref01_Parse.j1 kj4 a0 0 false) = some (r1, r2, r3) := by rw [if_neg (show ¬ (false = true) by decide)] at H; exact H
            clear H
            have H := H1
            clear H1
            have H' := Aside0.mk H
            clear H
            go_wp2
            go_meet
            case rel => exact ⟨_, (0), (by first | rfl | (simp; done) | (simp [*]; done)), H', ⟨by have := HJ4.out; first | omega | exact Nat.le_refl _⟩, ⟨by (with_reducible repeat (first | refine blk_drewN ?_ _ | refine blk_drew ?_ | refine blk_alloc ?_ _)); exact BK755.out⟩, ⟨by (with_reducible repeat (first | refine blk_drewN ?_ _ | refine blk_drew ?_ | refine blk_alloc ?_ _)); exact BK756.out⟩, ⟨by repeat (first | (with_reducible first | exact HB.out | apply below_alloc | apply pw_below_drewN | apply below_drew1 | refine below_set ?_ GE755.out | refine below_set ?_ GE756.out) | exact HB.out)⟩⟩
        case rest =>
          clear HC13
          try clear c1
          try clear p1
          try clear q1
          try clear hx1
          try clear qi1
          try clear c2
          try clear c2b0
          try clear c2b1
          try clear p2
          try clear c6
          try clear c8
          try clear c10
          try clear c10b0
          try clear c10b1
          try clear c11
          try clear c11b0
          try clear c11b1
          try clear p12
          try clear q12
          try clear hx12
          try clear qi12
          try clear c14
          try clear hcz4_0
          try clear hcz4_1
          try clear hcz9_0
          try clear hcz9_1
          try clear hfz4_0
          try clear hfz4_1
          try clear hfz9_0
          try clear hfz9_1
          try clear p1
          try clear p12
          try clear p2
          try clear q1
          try clear q12
          obtain ⟨kq, x5_12, rfl, HA, HJ12, BK755, BK756, HB⟩ := hcut
          cases kq with
          | zero => exact absurd HA.out (by simp [bagatelleref01_Parse.j1])
          | succ kj12 =>
            have H := HA.out
            clear HA
            simp only [bagatelleref01_Parse.j1] at H
            have HC15 := Aside0.mk H
            clear H
            go_upto_block 0 with (fail)
            go_cut [5, 7] (fun v5 v7 wc => ∃ (kq : Nat) (x5_14 : Int) (x7_14 : Int), v5 = .int .i64 x5_14 ∧ v7 = .int .u64 x7_14 ∧ Aside0 (bagatelleref01_Parse.j3 kq a0 x5_14 x6_4 x7_14 = some (r1, r2, r3)) ∧ Aside0 (kq ≤ kj12) ∧ Aside0 (wc.heap[gb755]? = some (.cells #[.int .i64 0, .bool false] 23 (0, 0))) ∧ Aside0 (wc.heap[gb756]? = some (.cells #[.int .i64 0, .bool false] 23 (0, 0))) ∧ Aside0 (Below w.heap.size w wc))
            case first =>
              have H := HC15.out
              clear HC15
              have H' := Aside0.mk H
              clear H
              go_wp2
              go_loopg [5, 7] kj12 (fun kq v5 v7 w' => ∃ (x5_3 : Int) (x7_3 : Int), v5 = .int .i64 x5_3 ∧ v7 = .int .u64 x7_3 ∧ Aside0 (bagatelleref01_Parse.l0 kq a0 x5_3 x6_4 x7_3 = some (r1, r2, r3)) ∧ Aside0 (kq ≤ kj12) ∧ Aside0 (w'.heap[gb755]? = some (.cells #[.int .i64 0, .bool false] 23 (0, 0))) ∧ Aside0 (w'.heap[gb756]? = some (.cells #[.int .i64 0, .bool false] 23 (0, 0))) ∧ Aside0 (Below w.heap.size w w'))
              case atStart => exact ⟨(x5_12), (0), (by first | rfl | (simp; done) | (simp [*]; done)), (by first | rfl | (simp; done) | (simp [*]; done)), H', ⟨Nat.le_refl _⟩, ⟨by (with_reducible repeat (first | refine blk_drewN ?_ _ | refine blk_drew ?_ | refine blk_alloc ?_ _)); exact BK755.out⟩, ⟨by (with_reducible repeat (first | refine blk_drewN ?_ _ | refine blk_drew ?_ | refine blk_alloc ?_ _)); exact BK756.out⟩, ⟨by repeat (first | (with_reducible first | exact HB.out | apply below_alloc | apply pw_below_drewN | apply below_drew1 | refine below_set ?_ GE755.out | refine below_set ?_ GE756.out) | exact HB.out)⟩⟩
              case round =>
                clear H'
                try clear c1
                try clear p1
                try clear q1
                try clear hx1
                try clear qi1
                try clear c2
                try clear c2b0
                try clear c2b1
                try clear p2
                try clear c6
                try clear c8
                try clear c10
                try clear c10b0
                try clear c10b1
                try clear c11
                try clear c11b0
                try clear c11b1
                try clear p12
                try clear q12
                try clear hx12
                try clear qi12
                try clear c14
                try clear hcz4_0
                try clear hcz4_1
                try clear hcz9_0
                try clear hcz9_1
                try clear hfz4_0
                try clear hfz4_1
                try clear hfz9_0
                try clear hfz9_1
                try clear p1
                try clear p12
                try clear p2
                try clear q1
                try clear q12
                obtain ⟨x5_3, x7_3, rfl, rfl, HA, HK3, BK755, BK756, HB⟩ := hrel
                cases gk with
                | zero => exact absurd HA.out (by simp [bagatelleref01_Parse.l0])
                | succ k3 =>
                  have H := HA.out
                  clear HA
                  simp only [bagatelleref01_Parse.l0] at H
                  by_cases c16 : x5_3 < (a0.size : Int)
                  · rw [if_pos c16] at H
                    have c16b0 : decide (x5_3 < (a0.size : Int)) = true := decide_eq_true c16
                    clear c16
                    (first | rw [c16b0] | (simp only [i64_w, i32_w]; rw [c16b0]) | skip)
                    by_cases c17 : 0 ≤ x5_3
                    · rw [if_pos c17] at H
                      have c17b0 : decide (0 ≤ x5_3) = true := decide_eq_true c17
                      clear c17
                      by_cases c19 : (bt a0 x5_3) ≥ 48
                      · rw [if_pos c19] at H
                        have c19b0 : decide (48 ≤ (bt a0 x5_3)) = true := decide_eq_true c19
                        clear c19
                        by_cases c21 : (bt a0 x5_3) ≤ 57
                        · rw [if_pos c21] at H
                          have c21b0 : decide ((bt a0 x5_3) ≤ 57) = true := decide_eq_true c21
                          clear c21
                          by_cases c22 : x7_3 < 4294967296
                          · rw [if_pos c22] at H
                            have c22b0 : decide (x7_3 < 4294967296) = true := decide_eq_true c22
                            clear c22
                            have H' := Aside0.mk H
                            clear H
                            have p18 : 0 ≤ (x5_3 : Int) := of_decide_eq_true (by first | (with_reducible assumption) | assumption)
                            have q18 : x5_3 < (a0.size : Int) := of_decide_eq_true (by first | (with_reducible assumption) | assumption)
                            have hx18 := bt_at a0 x5_3
                            replace p18 := eq_true p18
                            replace q18 := eq_true q18
                            have p20 : 0 ≤ (x5_3 : Int) := of_decide_eq_true (by first | (with_reducible assumption) | assumption)
                            have q20 : x5_3 < (a0.size : Int) := of_decide_eq_true (by first | (with_reducible assumption) | assumption)
                            have hx20 := bt_at a0 x5_3
                            replace p20 := eq_true p20
                            replace q20 := eq_true q20
                            have p23 : 0 ≤ (x5_3 : Int) := of_decide_eq_true (by first | (with_reducible assumption) | assumption)
                            have q23 : x5_3 < (a0.size : Int) := of_decide_eq_true (by first | (with_reducible assumption) | assumption)
                            have hx23 := bt_at a0 x5_3
                            replace p23 := eq_true p23
                            replace q23 := eq_true q23
                            go_wp2
                            go_roundg k3
                            case measure => have := HJ4.out; have := HJ12.out; have := HK3.out; omega
                            case rel => exact ⟨(wrap64 (x5_3 + 1)), (IntKind.u64.wrap ((IntKind.u64.wrap (10 * x7_3)) + (((bt a0 x5_3) - 48) % 256))), (by first | rfl | (simp; done) | (simp [*]; done)), (by first | rfl | (simp; done) | (simp [*]; done)), H', ⟨by have := HJ4.out; have := HJ12.out; have := HK3.out; omega⟩, ⟨by (with_reducible repeat (first | refine blk_drewN ?_ _ | refine blk_drew ?_ | refine blk_alloc ?_ _)); exact BK755.out⟩, ⟨by (with_reducible repeat (first | refine blk_drewN ?_ _ | refine blk_drew ?_ | refine blk_alloc ?_ _)); exact BK756.out⟩, ⟨by repeat (first | (with_reducible first | exact HB.out | apply below_alloc | apply pw_below_drewN | apply below_drew1 | refine below_set ?_ GE755.out | refine below_set ?_ GE756.out) | exact HB.out)⟩⟩
                          · rw [if_neg c22] at H
                            have c22b0 : decide (x7_3 < 4294967296) = false := decide_eq_false c22
                            clear c22
                            have H' := Aside0.mk H
                            clear H
                            have p18 : 0 ≤ (x5_3 : Int) := of_decide_eq_true (by first | (with_reducible assumption) | assumption)
                            have q18 : x5_3 < (a0.size : Int) := of_decide_eq_true (by first | (with_reducible assumption) | assumption)
                            have hx18 := bt_at a0 x5_3
                            replace p18 := eq_true p18
                            replace q18 := eq_true q18
                            have p20 : 0 ≤ (x5_3 : Int) := of_decide_eq_true (by first | (with_reducible assumption) | assumption)
                            have q20 : x5_3 < (a0.size : Int) := of_decide_eq_true (by first | (with_reducible assumption) | assumption)
                            have hx20 := bt_at a0 x5_3
                            replace p20 := eq_true p20
                            replace q20 := eq_true q20
                            go_wp2
                            go_meet
                            case rel => exact ⟨_, (x5_3), (x7_3), (by first | rfl | (simp; done) | (simp [*]; done)), (by first | rfl | (simp; done) | (simp [*]; done)), H', ⟨by have := HJ4.out; have := HJ12.out; have := HK3.out; first | omega | exact Nat.le_refl _⟩, ⟨by (with_reducible repeat (first | refine blk_drewN ?_ _ | refine blk_drew ?_ | refine blk_alloc ?_ _)); exact BK755.out⟩, ⟨by (with_reducible repeat (first | refine blk_drewN ?_ _ | refine blk_drew ?_ | refine blk_alloc ?_ _)); exact BK756.out⟩, ⟨by repeat (first | (with_reducible first | exact HB.out | apply below_alloc | apply pw_below_drewN | apply below_drew1 | refine below_set ?_ GE755.out | refine below_set ?_ GE756.out) | exact HB.out)⟩⟩
                        · rw [if_neg c21] at H
                          have c21b0 : decide ((bt a0 x5_3) ≤ 57) = false := decide_eq_false c21
                          clear c21
                          have H' := Aside0.mk H
                          clear H
                          have p18 : 0 ≤ (x5_3 : Int) := of_decide_eq_true (by first | (with_reducible assumption) | assumption)
                          have q18 : x5_3 < (a0.size : Int) := of_decide_eq_true (by first | (with_reducible assumption) | assumption)
                          have hx18 := bt_at a0 x5_3
                          replace p18 := eq_true p18
                          replace q18 := eq_true q18
                          have p20 : 0 ≤ (x5_3 : Int) := of_decide_eq_true (by first | (with_reducible assumption) | assumption)
                          have q20 : x5_3 < (a0.size : Int) := of_decide_eq_true (by first | (with_reducible assumption) | assumption)
                          have hx20 := bt_at a0 x5_3
                          replace p20 := eq_true p20
                          replace q20 := eq_true q20
                          go_wp2
                          go_meet
                          case rel => exact ⟨_, (x5_3), (x7_3), (by first | rfl | (simp; done) | (simp [*]; done)), (by first | rfl | (simp; done) | (simp [*]; done)), H', ⟨by have := HJ4.out; have := HJ12.out; have := HK3.out; first | omega | exact Nat.le_refl _⟩, ⟨by (with_reducible repeat (first | refine blk_drewN ?_ _ | refine blk_drew ?_ | refine blk_alloc ?_ _)); exact BK755.out⟩, ⟨by (with_reducible repeat (first | refine blk_drewN ?_ _ | refine blk_drew ?_ | refine blk_alloc ?_ _)); exact BK756.out⟩, ⟨by repeat (first | (with_reducible first | exact HB.out | apply below_alloc | apply pw_below_drewN | apply below_drew1 | refine below_set ?_ GE755.out | refine below_set ?_ GE756.out) | exact HB.out)⟩⟩
                      · rw [if_neg c19] at H
                        have c19b0 : decide (48 ≤ (bt a0 x5_3)) = false := decide_eq_false c19
                        clear c19
                        have H' := Aside0.mk H
                        clear H
                        have p18 : 0 ≤ (x5_3 : Int) := of_decide_eq_true (by first | (with_reducible assumption) | assumption)
                        have q18 : x5_3 < (a0.size : Int) := of_decide_eq_true (by first | (with_reducible assumption) | assumption)
                        have hx18 := bt_at a0 x5_3
                        replace p18 := eq_true p18
                        replace q18 := eq_true q18
                        go_wp2
                        go_meet
                        case rel => exact ⟨_, (x5_3), (x7_3), (by first | rfl | (simp; done) | (simp [*]; done)), (by first | rfl | (simp; done) | (simp [*]; done)), H', ⟨by have := HJ4.out; have := HJ12.out; have := HK3.out; first | omega | exact Nat.le_refl _⟩, ⟨by (with_reducible repeat (first | refine blk_drewN ?_ _ | refine blk_drew ?_ | refine blk_alloc ?_ _)); exact BK755.out⟩, ⟨by (with_reducible repeat (first | refine blk_drewN ?_ _ | refine blk_drew ?_ | refine blk_alloc ?_ _)); exact BK756.out⟩, ⟨by repeat (first | (with_reducible first | exact HB.out | apply below_alloc | apply pw_below_drewN | apply below_drew1 | refine below_set ?_ GE755.out | refine below_set ?_ GE756.out) | exact HB.out)⟩⟩
                    · rw [if_neg c17] at H
                      exact absurd H (by simp)
                  · rw [if_neg c16] at H
                    have c16b0 : decide (x5_3 < (a0.size : Int)) = false := decide_eq_false c16
                    clear c16
                    (first | rw [c16b0] | (simp only [i64_w, i32_w]; rw [c16b0]) | skip)
                    have H' := Aside0.mk H
                    clear H
                    go_wp2
                    go_meet
                    case rel => exact ⟨_, (x5_3), (x7_3), (by first | rfl | (simp; done) | (simp [*]; done)), (by first | rfl | (simp; done) | (simp [*]; done)), H', ⟨by have := HJ4.out; have := HJ12.out; have := HK3.out; first | omega | exact Nat.le_refl _⟩, ⟨by (with_reducible repeat (first | refine blk_drewN ?_ _ | refine blk_drew ?_ | refine blk_alloc ?_ _)); exact BK755.out⟩, ⟨by (with_reducible repeat (first | refine blk_drewN ?_ _ | refine blk_drew ?_ | refine blk_alloc ?_ _)); exact BK756.out⟩, ⟨by repeat (first | (with_reducible first | exact HB.out | apply below_alloc | apply pw_below_drewN | apply below_drew1 | refine below_set ?_ GE755.out | refine below_set ?_ GE756.out) | exact HB.out)⟩⟩
            case rest =>
              clear HC15
              try clear c1
              try clear p1
              try clear q1
              try clear hx1
              try clear qi1
              try clear c2
              try clear c2b0
              try clear c2b1
              try clear p2
              try clear q2
              try clear hx2
              try clear c6
              try clear p6
              try clear c8
              try clear c10
              try clear c10b0
              try clear c10b1
              try clear c11
              try clear c11b0
              try clear c11b1
              try clear p12
              try clear q12
              try clear hx12
              try clear qi12
              try clear c14
              try clear c16
              try clear c16b0
              try clear c17
              try clear c17b0
              try clear p18
              try clear q18
              try clear hx18
              try clear c19
              try clear c19b0
              try clear p20
              try clear q20
              try clear hx20
              try clear c21
              try clear c21b0
              try clear c22
              try clear c22b0
              try clear p23
              try clear q23
              try clear hx23
              try clear hcz4_0
              try clear hcz4_1
              try clear hcz9_0
              try clear hcz9_1
              try clear hfz4_0
              try clear hfz4_1
              try clear hfz9_0
              try clear hfz9_1
              try clear p1
              try clear p12
              try clear p18
              try clear p2
              try clear p20
              try clear p23
              try clear q1
              try clear q12
              try clear q18
              try clear q20
              try clear q23
              obtain ⟨kq, x5_14, x7_14, rfl, rfl, HA, HJ14, BK755, BK756, HB⟩ := hcut
              cases kq with
              | zero => exact absurd HA.out (by simp [bagatelleref01_Parse.j3])
              | succ kj14 =>
                have H := HA.out
                clear HA
                simp only [bagatelleref01_Parse.j3] at H
                by_cases c24 : x7_14 ≥ 2147483648
                · rw [if_pos c24] at H
                  have c24b0 : decide (2147483648 ≤ x7_14) = true := decide_eq_true c24
                  clear c24
                  simp only [Option.some.injEq, Prod.mk.injEq] at H
                  obtain ⟨rfl, rfl, rfl⟩ := H
                  have hnb25 := NB755_756.out
                  have hnc25 := NB756_755.out
                  have hcz26_0 : wc.cell? ⟨gb755, 0, none⟩ = some (.int .i64 0) := (blk_cell BK755.out 0).trans rfl
                  have hcz26_1 : wc.cell? ⟨gb755, 1, none⟩ = some (.bool false) := (blk_cell BK755.out 1).trans rfl
                  have hfz26_0 := blk_frozen BK755.out 0
                  have hfz26_1 := blk_frozen BK755.out 1
                  go_wp2
                  refine bodyPost_ret (results_ct rfl _ _ gb755 23 #[.int .i64 0, .bool false] (0, 0) _ rfl (by (with_reducible repeat (first | refine blk_drewN ?_ _ | refine blk_drew ?_ | refine blk_alloc ?_ _)); refine blk_put (cs := #[.int .i64 0, .bool false]) ?_ 1 _ rfl; (with_reducible repeat (first | refine blk_drewN ?_ _ | refine blk_drew ?_ | refine blk_alloc ?_ _)); refine blk_put (cs := #[.int .i64 0, .bool false]) ?_ 0 _ rfl; (with_reducible repeat (first | refine blk_drewN ?_ _ | refine blk_drew ?_ | refine blk_alloc ?_ _)); exact BK755.out) Try.underlying23 rfl (by kernel_rfl)) rfl ?_
                  exact ⟨by first | rfl | (simp [errW_none, errW_some] <;> rfl) | (simp [*, errW_none, errW_some] <;> rfl), by repeat (first | (with_reducible first | exact HB.out | apply below_alloc | apply pw_below_drewN | apply below_drew1 | refine below_set ?_ GE755.out | refine below_set ?_ GE756.out) | exact HB.out)⟩
                · rw [if_neg c24] at H
                  have c24b0 : decide (2147483648 ≤ x7_14) = false := decide_eq_false c24
                  clear c24
                  have HC27 := Aside0.mk H
                  clear H
                  go_upto_region 14 with (fail)
                  go_cut [65] (fun v65 wc => ∃ (kq : Nat) (x65_26 : Bool), v65 = .bool x65_26 ∧ Aside0 (bagatelleref01_Parse.j4 kq a0 x5_14 x6_4 x7_14 ([] : List Int) x65_26 = some (r1, r2, r3)) ∧ Aside0 (kq ≤ kj14) ∧ Aside0 (Kd.R (Kd.int .i64) 3 wc w.heap.size (fun _ => True) (.slice none 0 0) ([] : List Int)) ∧ Aside0 (wc.heap[gb755]? = some (.cells #[.int .i64 0, .bool false] 23 (0, 0))) ∧ Aside0 (wc.heap[gb756]? = some (.cells #[.int .i64 0, .bool false] 23 (0, 0))) ∧ Aside0 (Below w.heap.size w wc))
                  case first =>
                    have H := HC27.out
                    clear HC27
                    by_cases c28 : x5_14 < (a0.size : Int)
                    · rw [if_pos c28] at H
                      have c28b0 : decide (x5_14 < (a0.size : Int)) = true := decide_eq_true c28
                      clear c28
                      (first | rw [c28b0] | (simp only [i64_w, i32_w]; rw [c28b0]) | skip)
                      by_cases c29 : 0 ≤ x5_14
                      · rw [if_pos c29] at H
                        have c29b0 : decide (0 ≤ x5_14) = true := decide_eq_true c29
                        clear c29
                        have H' := Aside0.mk H
                        clear H
                        have p30 : 0 ≤ (x5_14 : Int) := of_decide_eq_true (by first | (with_reducible assumption) | assumption)
                        have q30 : x5_14 < (a0.size : Int) := of_decide_eq_true (by first | (with_reducible assumption) | assumption)
                        have hx30 := bt_at a0 x5_14
                        replace p30 := eq_true p30
                        replace q30 := eq_true q30
                        go_wp2
                        go_meet
                        case rel => exact ⟨_, (((bt a0 x5_14) == 46)), (by first | rfl | (simp; done) | (simp [*]; done)), H', ⟨by have := HJ4.out; have := HJ12.out; have := HJ14.out; first | omega | exact Nat.le_refl _⟩, ⟨by first | exact Kd.R_nil _ _ _ _ _ | exact Kd.N_nil _ _ _ _ _ | exact Kd.V_nil _ _ _ _ _ | exact Kd.Q_nil _ _ _ _ _ | exact Kd.S_nil _ _ _ _ _⟩, ⟨by (with_reducible repeat (first | refine blk_drewN ?_ _ | refine blk_drew ?_ | refine blk_alloc ?_ _)); exact BK755.out⟩, ⟨by (with_reducible repeat (first | refine blk_drewN ?_ _ | refine blk_drew ?_ | refine blk_alloc ?_ _)); exact BK756.out⟩, ⟨by repeat (first | (with_reducible first | exact HB.out | apply below_alloc | apply pw_below_drewN | apply below_drew1 | refine below_set ?_ GE755.out | refine below_set ?_ GE756.out) | exact HB.out)⟩⟩
                      · rw [if_neg c29] at H
                        exact absurd H (by simp)
                    · rw [if_neg c28] at H
                      have c28b0 : decide (x5_14 < (a0.size : Int)) = false := decide_eq_false c28
                      clear c28
                      (first | rw [c28b0] | (simp only [i64_w, i32_w]; rw [c28b0]) | skip)
                      have H' := Aside0.mk H
                      clear H
                      go_wp2
                      go_meet
                      case rel => exact ⟨_, (false), (by first | rfl | (simp; done) | (simp [*]; done)), H', ⟨by have := HJ4.out; have := HJ12.out; have := HJ14.out; first | omega | exact Nat.le_refl _⟩, ⟨by first | exact Kd.R_nil _ _ _ _ _ | exact Kd.N_nil _ _ _ _ _ | exact Kd.V_nil _ _ _ _ _ | exact Kd.Q_nil _ _ _ _ _ | exact Kd.S_nil _ _ _ _ _⟩, ⟨by (with_reducible repeat (first | refine blk_drewN ?_ _ | refine blk_drew ?_ | refine blk_alloc ?_ _)); exact BK755.out⟩, ⟨by (with_reducible repeat (first | refine blk_drewN ?_ _ | refine blk_drew ?_ | refine blk_alloc ?_ _)); exact BK756.out⟩, ⟨by repeat (first | (with_reducible first | exact HB.out | apply below_alloc | apply pw_below_drewN | apply below_drew1 | refine below_set ?_ GE755.out | refine below_set ?_ GE756.out) | exact HB.out)⟩⟩
                  case rest =>
                    clear HC27
                    try clear c1
                    try clear p1
                    try clear q1
                    try clear hx1
                    try clear qi1
                    try clear c2
                    try clear c2b0
                    try clear c2b1
                    try clear p2
                    try clear q2
                    try clear hx2
                    try clear p3
                    try clear q3
                    try clear hx3
                    try clear c6
                    try clear p6
                    try clear c8
                    try clear c10
                    try clear c10b0
                    try clear c10b1
                    try clear c11
                    try clear c11b0
                    try clear c11b1
                    try clear p12
                    try clear q12
                    try clear hx12
                    try clear qi12
                    try clear c14
                    try clear c16
                    try clear c16b0
                    try clear c17
                    try clear c17b0
                    try clear p18
                    try clear q18
                    try clear hx18
                    try clear c19
                    try clear c19b0
                    try clear p20
                    try clear q20
                    try clear hx20
                    try clear c21
                    try clear c21b0
                    try clear c22
                    try clear c22b0
                    try clear p23
                    try clear q23
                    try clear hx23
                    try clear c24
                    try clear c24b0
                    try clear c25
                    try clear c28
                    try clear c28b0
                    try clear c29
                    try clear c29b0
                    try clear p30
                    try clear q30
                    try clear hx30
                    try clear hcz26_0
                    try clear hcz26_1
                    try clear hcz4_0
                    try clear hcz4_1
                    try clear hcz9_0
                    try clear hcz9_1
                    try clear hfz26_0
                    try clear hfz26_1
                    try clear hfz4_0
                    try clear hfz4_1
                    try clear hfz9_0
                    try clear hfz9_1
                    try clear p1
                    try clear p12
                    try clear p18
                    try clear p2
                    try clear p20
                    try clear p23
                    try clear p30
                    try clear p6
                    try clear q1
                    try clear q12
                    try clear q18
                    try clear q2
                    try clear q20
                    try clear q23
                    try clear q30
                    obtain ⟨kq, x65_26, rfl, HA, HJ26, HO_8, BK755, BK756, HB⟩ := hcut
                    cases kq with
                    | zero => exact absurd HA.out (by simp [bagatelleref01_Parse.j4])
                    | succ kj26 =>
                      have H := HA.out
                      clear HA
                      simp only [bagatelleref01_Parse.j4] at H
                      have HC31 := Aside0.mk H
                      clear H
                      go_upto_if 65 with (fail)
                      go_cut [5, 8] (fun v5 v8 wc => ∃ (kq : Nat) (x5_30 : Int) (x8_30 : List Int), v5 = .int .i64 x5_30 ∧ Aside0 (bagatelleref01_Parse.j6 kq a0 x5_30 x6_4 x7_14 x8_30 = some (r1, r2, r3)) ∧ Aside0 (kq ≤ kj26) ∧ Aside0 (Kd.R (Kd.int .i64) 3 wc w.heap.size (fun _ => True) v8 x8_30) ∧ Aside0 (wc.heap[gb755]? = some (.cells #[.int .i64 0, .bool false] 23 (0, 0))) ∧ Aside0 (wc.heap[gb756]? = some (.cells #[.int .i64 0, .bool false] 23 (0, 0))) ∧ Aside0 (Below w.heap.size w wc))
                      case first =>
                        have H := HC31.out
                        clear HC31
                        by_cases c32 : x65_26 = true
                        · subst c32
                          have H1 : (bagatelleref01_Parse.l1 kj26 a0 (wrap64 (x5_14 + 1)) x6_4 x7_14 ([] : List Int)) = some (r1, r2, r3) := by rw [if_pos rfl] at H; exact H
                          clear H
                          have H := H1
                          clear H1
                          have H' := Aside0.mk H
                          clear H
                          go_wp2
                          go_loopg [5, 8] kj26 (fun kq v5 v8 w' => ∃ (x5_5 : Int) (x8_5 : List Int), v5 = .int .i64 x5_5 ∧ Aside0 (bagatelleref01_Parse.l1 kq a0 x5_5 x6_4 x7_14 x8_5 = some (r1, r2, r3)) ∧ Aside0 (kq ≤ kj26) ∧ Aside0 (Kd.R (Kd.int .i64) 3 w' w.heap.size (fun _ => True) v8 x8_5) ∧ Aside0 (w'.heap[gb755]? = some (.cells #[.int .i64 0, .bool false] 23 (0, 0))) ∧ Aside0 (w'.heap[gb756]? = some (.cells #[.int .i64 0, .bool false] 23 (0, 0))) ∧ Aside0 (Below w.heap.size w w'))
                          case atStart => exact ⟨(wrap64 (x5_14 + 1)), (([] : List Int)), (by first | rfl | (simp; done) | (simp [*]; done)), H', ⟨Nat.le_refl _⟩, ⟨by (with_reducible repeat (first | apply Kd.R_alloc | apply Kd.R_drewN | apply Kd.R_drew)); exact HO_8.out⟩, ⟨by (with_reducible repeat (first | refine blk_drewN ?_ _ | refine blk_drew ?_ | refine blk_alloc ?_ _)); exact BK755.out⟩, ⟨by (with_reducible repeat (first | refine blk_drewN ?_ _ | refine blk_drew ?_ | refine blk_alloc ?_ _)); exact BK756.out⟩, ⟨by repeat (first | (with_reducible first | exact HB.out | apply below_alloc | apply pw_below_drewN | apply below_drew1 | refine below_set ?_ GE755.out | refine below_set ?_ GE756.out) | exact HB.out)⟩⟩
                          case round =>
                            clear H'
                            try clear c1
                            try clear p1
                            try clear q1
                            try clear hx1
                            try clear qi1
                            try clear c2
                            try clear c2b0
                            try clear c2b1
                            try clear p2
                            try clear q2
                            try clear hx2
                            try clear c3
                            try clear p3
                            try clear q3
                            try clear hx3
                            try clear c6
                            try clear p6
                            try clear c8
                            try clear c10
                            try clear c10b0
                            try clear c10b1
                            try clear c11
                            try clear c11b0
                            try clear c11b1
                            try clear p12
                            try clear q12
                            try clear hx12
                            try clear qi12
                            try clear c14
                            try clear c16
                            try clear c16b0
                            try clear c17
                            try clear c17b0
                            try clear p18
                            try clear q18
                            try clear hx18
                            try clear c19
                            try clear c19b0
                            try clear p20
                            try clear q20
                            try clear hx20
                            try clear c21
                            try clear c21b0
                            try clear c22
                            try clear c22b0
                            try clear p23
                            try clear q23
                            try clear hx23
                            try clear c24
                            try clear c24b0
                            try clear c25
                            try clear c28
                            try clear c28b0
                            try clear c29
                            try clear c29b0
                            try clear p30
                            try clear q30
                            try clear hx30
                            try clear c32
                            try clear hcz26_0
                            try clear hcz26_1
                            try clear hcz4_0
                            try clear hcz4_1
                            try clear hcz9_0
                            try clear hcz9_1
                            try clear hfz26_0
                            try clear hfz26_1
                            try clear hfz4_0
                            try clear hfz4_1
                            try clear hfz9_0
                            try clear hfz9_1
                            try clear p1
                            try clear p12
                            try clear p18
                            try clear p2
                            try clear p20
                            try clear p23
                            try clear p3
                            try clear p30
                            try clear p6
                            try clear q1
                            try clear q12
                            try clear q18
                            try clear q2
                            try clear q20
                            try clear q23
                            try clear q3
                            try clear q30
                            obtain ⟨x5_5, x8_5, rfl, HA, HK5, HO_8, BK755, BK756, HB⟩ := hrel
                            cases gk with
                            | zero => exact absurd HA.out (by simp [bagatelleref01_Parse.l1])
                            | succ k5 =>
                              have H := HA.out
                              clear HA
                              simp only [bagatelleref01_Parse.l1] at H
                              by_cases c33 : x5_5 < (a0.size : Int)
                              · rw [if_pos c33] at H
                                have c33b0 : decide (x5_5 < (a0.size : Int)) = true := decide_eq_true c33
                                clear c33
                                (first | rw [c33b0] | (simp only [i64_w, i32_w]; rw [c33b0]) | skip)
                                by_cases c34 : 0 ≤ x5_5
                                · rw [if_pos c34] at H
                                  have c34b0 : decide (0 ≤ x5_5) = true := decide_eq_true c34
                                  clear c34
                                  by_cases c36 : (bt a0 x5_5) ≥ 48
                                  · rw [if_pos c36] at H
                                    have c36b0 : decide (48 ≤ (bt a0 x5_5)) = true := decide_eq_true c36
                                    clear c36
                                    by_cases c38 : (bt a0 x5_5) ≤ 57
                                    · rw [if_pos c38] at H
                                      have c38b0 : decide ((bt a0 x5_5) ≤ 57) = true := decide_eq_true c38
                                      clear c38
                                      by_cases c40 : x8_5.length < 17592186044416
                                      · rw [if_pos c40] at H
                                        have LMc40 := Aside0.mk c40
                                        clear c40
                                        obtain ⟨y757, hy757⟩ : ∃ y_ : List Int, y_ = (x8_5 ++ [((bt a0 x5_5) - 48) % 256]) := ⟨_, rfl⟩
                                        replace H : (bagatelleref01_Parse.l1 k5 a0 (wrap64 (x5_5 + 1)) x6_4 x7_14 y757) = some (r1, r2, r3) := by first | (rw [hy757]; with_reducible exact H) | (have H2_ := (Option.bind_some _ _).symm.trans H; rw [hy757]; with_reducible exact H2_) | (have H2_ := (Option.bind_some _ _).symm.trans H; with_reducible exact H2_) | with_reducible exact H | (rw [hy757]; exact H) | exact H
                                        have Ny757 := Aside0.mk hy757
                                        clear hy757
                                        have H' := Aside0.mk H
                                        clear H
                                        have p35 : 0 ≤ (x5_5 : Int) := of_decide_eq_true (by first | (with_reducible assumption) | assumption)
                                        have q35 : x5_5 < (a0.size : Int) := of_decide_eq_true (by first | (with_reducible assumption) | assumption)
                                        have hx35 := bt_at a0 x5_5
                                        replace p35 := eq_true p35
                                        replace q35 := eq_true q35
                                        have p37 : 0 ≤ (x5_5 : Int) := of_decide_eq_true (by first | (with_reducible assumption) | assumption)
                                        have q37 : x5_5 < (a0.size : Int) := of_decide_eq_true (by first | (with_reducible assumption) | assumption)
                                        have hx37 := bt_at a0 x5_5
                                        replace p37 := eq_true p37
                                        replace q37 := eq_true q37
                                        have p39 : 0 ≤ (x5_5 : Int) := of_decide_eq_true (by first | (with_reducible assumption) | assumption)
                                        have q39 : x5_5 < (a0.size : Int) := of_decide_eq_true (by first | (with_reducible assumption) | assumption)
                                        have hx39 := bt_at a0 x5_5
                                        replace p39 := eq_true p39
                                        replace q39 := eq_true q39
                                        go_wp2_with (first | ((with_reducible refine gate_builtin (b := .append) (xs := #[.tmp 84, .tmp 90]) rfl ?_); at_builtin; refine Kd.R_append (Kd.int .i64) (w0 := w) w.heap.size rfl (.tmp 84) (.tmp 90) 91 3 (.int .i64 0) 8 rfl Try.underlying91 info3 rfl (by decide) (by omega) u8 x8_5 (((bt a0 x5_5) - 48) % 256) [.int .i64 (((bt a0 x5_5) - 48) % 256)] (fun _ => True) (fun _ => False) rfl rfl ?aP (fun _ hk => hk.elim) ?aF ?aO ?aB ?aS ?aL ?_; (case aP => exact rfl); (case aB => exact (by repeat (first | (with_reducible first | exact HB.out | apply below_alloc | apply pw_below_drewN | apply below_drew1 | refine below_set ?_ GE755.out | refine below_set ?_ GE756.out) | exact HB.out))); (case aF => exact (fun _ _ => trivial)); (case aO => exact (by (with_reducible repeat (first | apply Kd.R_alloc | apply Kd.R_drewN | apply Kd.R_drew)); exact HO_8.out)); (case aS => exact (below_size (by repeat (first | (with_reducible first | exact HB.out | apply below_alloc | apply pw_below_drewN | apply below_drew1 | refine below_set ?_ GE755.out | refine below_set ?_ GE756.out) | exact HB.out)))); (case aL => have := LMc40.out; omega); intro v758 w41 ho hb hg hat; rw [← Ny757.out] at ho; have n0_ := Aside0.mk (blk_grown (g := gb755) (o := .cells #[.int .i64 0, .bool false] 23 (0, 0)) (by (with_reducible repeat (first | refine blk_drewN ?_ _ | refine blk_drew ?_ | refine blk_alloc ?_ _)); exact BK755.out) hg (Kd.R_ne HO_8.out BK755.out (by decide))); have n1_ := Aside0.mk (blk_grown (g := gb756) (o := .cells #[.int .i64 0, .bool false] 23 (0, 0)) (by (with_reducible repeat (first | refine blk_drewN ?_ _ | refine blk_drew ?_ | refine blk_alloc ?_ _)); exact BK756.out) hg (Kd.R_ne HO_8.out BK756.out (by decide))); have n2_ := Aside0.mk (hb); have n3_ := Aside0.mk (ho); clear BK755; clear BK756; clear HB; clear HO_8; have BK755 := n0_; have BK756 := n1_; have HB := n2_; have HO759 := n3_; clear n0_ n1_ n2_ n3_; clear ho hb hg hat))
                                        go_roundg k5
                                        case measure => have := HJ4.out; have := HJ12.out; have := HJ14.out; have := HJ26.out; have := HK5.out; omega
                                        case rel => exact ⟨(wrap64 (x5_5 + 1)), (y757), (by first | rfl | (simp; done) | (simp [*]; done)), H', ⟨by have := HJ4.out; have := HJ12.out; have := HJ14.out; have := HJ26.out; have := HK5.out; omega⟩, ⟨by (with_reducible repeat (first | apply Kd.R_alloc | apply Kd.R_drewN | apply Kd.R_drew)); exact HO759.out⟩, ⟨by (with_reducible repeat (first | refine blk_drewN ?_ _ | refine blk_drew ?_ | refine blk_alloc ?_ _)); exact BK755.out⟩, ⟨by (with_reducible repeat (first | refine blk_drewN ?_ _ | refine blk_drew ?_ | refine blk_alloc ?_ _)); exact BK756.out⟩, ⟨by repeat (first | (with_reducible first | exact HB.out | apply below_alloc | apply pw_below_drewN | apply below_drew1 | refine below_set ?_ GE755.out | refine below_set ?_ GE756.out) | exact HB.out)⟩⟩
                                      · rw [if_neg c40] at H
                                        exact absurd H (by simp)
                                    · rw [if_neg c38] at H
                                      have c38b0 : decide ((bt a0 x5_5) ≤ 57) = false := decide_eq_false c38
                                      clear c38
                                      have H' := Aside0.mk H
                                      clear H
                                      have p35 : 0 ≤ (x5_5 : Int) := of_decide_eq_true (by first | (with_reducible assumption) | assumption)
                                      have q35 : x5_5 < (a0.size : Int) := of_decide_eq_true (by first | (with_reducible assumption) | assumption)
                                      have hx35 := bt_at a0 x5_5
                                      replace p35 := eq_true p35
                                      replace q35 := eq_true q35
                                      have p37 : 0 ≤ (x5_5 : Int) := of_decide_eq_true (by first | (with_reducible assumption) | assumption)
                                      have q37 : x5_5 < (a0.size : Int) := of_decide_eq_true (by first | (with_reducible assumption) | assumption)
                                      have hx37 := bt_at a0 x5_5
                                      replace p37 := eq_true p37
                                      replace q37 := eq_true q37
                                      go_wp2
                                      go_meet
                                      case rel => exact ⟨_, (x5_5), (x8_5), (by first | rfl | (simp; done) | (simp [*]; done)), H', ⟨by have := HJ4.out; have := HJ12.out; have := HJ14.out; have := HJ26.out; have := HK5.out; first | omega | exact Nat.le_refl _⟩, ⟨by (with_reducible repeat (first | apply Kd.R_alloc | apply Kd.R_drewN | apply Kd.R_drew)); exact HO_8.out⟩, ⟨by (with_reducible repeat (first | refine blk_drewN ?_ _ | refine blk_drew ?_ | refine blk_alloc ?_ _)); exact BK755.out⟩, ⟨by (with_reducible repeat (first | refine blk_drewN ?_ _ | refine blk_drew ?_ | refine blk_alloc ?_ _)); exact BK756.out⟩, ⟨by repeat (first | (with_reducible first | exact HB.out | apply below_alloc | apply pw_below_drewN | apply below_drew1 | refine below_set ?_ GE755.out | refine below_set ?_ GE756.out) | exact HB.out)⟩⟩
                                  · rw [if_neg c36] at H
                                    have c36b0 : decide (48 ≤ (bt a0 x5_5)) = false := decide_eq_false c36
                                    clear c36
                                    have H' := Aside0.mk H
                                    clear H
                                    have p35 : 0 ≤ (x5_5 : Int) := of_decide_eq_true (by first | (with_reducible assumption) | assumption)
                                    have q35 : x5_5 < (a0.size : Int) := of_decide_eq_true (by first | (with_reducible assumption) | assumption)
                                    have hx35 := bt_at a0 x5_5
                                    replace p35 := eq_true p35
                                    replace q35 := eq_true q35
                                    go_wp2
                                    go_meet
                                    case rel => exact ⟨_, (x5_5), (x8_5), (by first | rfl | (simp; done) | (simp [*]; done)), H', ⟨by have := HJ4.out; have := HJ12.out; have := HJ14.out; have := HJ26.out; have := HK5.out; first | omega | exact Nat.le_refl _⟩, ⟨by (with_reducible repeat (first | apply Kd.R_alloc | apply Kd.R_drewN | apply Kd.R_drew)); exact HO_8.out⟩, ⟨by (with_reducible repeat (first | refine blk_drewN ?_ _ | refine blk_drew ?_ | refine blk_alloc ?_ _)); exact BK755.out⟩, ⟨by (with_reducible repeat (first | refine blk_drewN ?_ _ | refine blk_drew ?_ | refine blk_alloc ?_ _)); exact BK756.out⟩, ⟨by repeat (first | (with_reducible first | exact HB.out | apply below_alloc | apply pw_below_drewN | apply below_drew1 | refine below_set ?_ GE755.out | refine below_set ?_ GE756.out) | exact HB.out)⟩⟩
                                · rw [if_neg c34] at H
                                  exact absurd H (by simp)
                              · rw [if_neg c33] at H
                                have c33b0 : decide (x5_5 < (a0.size : Int)) = false := decide_eq_false c33
                                clear c33
                                (first | rw [c33b0] | (simp only [i64_w, i32_w]; rw [c33b0]) | skip)
                                have H' := Aside0.mk H
                                clear H
                                go_wp2
                                go_meet
                                case rel => exact ⟨_, (x5_5), (x8_5), (by first | rfl | (simp; done) | (simp [*]; done)), H', ⟨by have := HJ4.out; have := HJ12.out; have := HJ14.out; have := HJ26.out; have := HK5.out; first | omega | exact Nat.le_refl _⟩, ⟨by (with_reducible repeat (first | apply Kd.R_alloc | apply Kd.R_drewN | apply Kd.R_drew)); exact HO_8.out⟩, ⟨by (with_reducible repeat (first | refine blk_drewN ?_ _ | refine blk_drew ?_ | refine blk_alloc ?_ _)); exact BK755.out⟩, ⟨by (with_reducible repeat (first | refine blk_drewN ?_ _ | refine blk_drew ?_ | refine blk_alloc ?_ _)); exact BK756.out⟩, ⟨by repeat (first | (with_reducible first | exact HB.out | apply below_alloc | apply pw_below_drewN | apply below_drew1 | refine below_set ?_ GE755.out | refine below_set ?_ GE756.out) | exact HB.out)⟩⟩
                        · replace c32 := Bool.eq_false_iff.mpr c32
                          subst c32
                          have H1 : (bagatelleref01_Parse.j6 kj26 a0 x5_14 x6_4 x7_14 ([] : List Int)) = some (r1, r2, r3) := by rw [if_neg (show ¬ (false = true) by decide)] at H; exact H
                          clear H
                          have H := H1
                          clear H1
                          have H' := Aside0.mk H
                          clear H
                          go_wp2
                          go_meet
                          case rel => exact ⟨_, (x5_14), (([] : List Int)), (by first | rfl | (simp; done) | (simp [*]; done)), H', ⟨by have := HJ4.out; have := HJ12.out; have := HJ14.out; have := HJ26.out; first | omega | exact Nat.le_refl _⟩, ⟨by (with_reducible repeat (first | apply Kd.R_alloc | apply Kd.R_drewN | apply Kd.R_drew)); exact HO_8.out⟩, ⟨by (with_reducible repeat (first | refine blk_drewN ?_ _ | refine blk_drew ?_ | refine blk_alloc ?_ _)); exact BK755.out⟩, ⟨by (with_reducible repeat (first | refine blk_drewN ?_ _ | refine blk_drew ?_ | refine blk_alloc ?_ _)); exact BK756.out⟩, ⟨by repeat (first | (with_reducible first | exact HB.out | apply below_alloc | apply pw_below_drewN | apply below_drew1 | refine below_set ?_ GE755.out | refine below_set ?_ GE756.out) | exact HB.out)⟩⟩
                      case rest =>
                        clear HC31
                        try clear c1
                        try clear p1
                        try clear q1
                        try clear hx1
                        try clear qi1
                        try clear c2
                        try clear c2b0
                        try clear c2b1
                        try clear p2
                        try clear q2
                        try clear hx2
                        try clear c3
                        try clear p3
                        try clear q3
                        try clear hx3
                        try clear c4
                        try clear c6
                        try clear p6
                        try clear c8
                        try clear c10
                        try clear c10b0
                        try clear c10b1
                        try clear c11
                        try clear c11b0
                        try clear c11b1
                        try clear p12
                        try clear q12
                        try clear hx12
                        try clear qi12
                        try clear c14
                        try clear c16
                        try clear c16b0
                        try clear c17
                        try clear c17b0
                        try clear p18
                        try clear q18
                        try clear hx18
                        try clear c19
                        try clear c19b0
                        try clear p20
                        try clear q20
                        try clear hx20
                        try clear c21
                        try clear c21b0
                        try clear c22
                        try clear c22b0
                        try clear p23
                        try clear q23
                        try clear hx23
                        try clear c24
                        try clear c24b0
                        try clear c25
                        try clear c28
                        try clear c28b0
                        try clear c29
                        try clear c29b0
                        try clear p30
                        try clear q30
                        try clear hx30
                        try clear c32
                        try clear c33
                        try clear c33b0
                        try clear c34
                        try clear c34b0
                        try clear p35
                        try clear q35
                        try clear hx35
                        try clear c36
                        try clear c36b0
                        try clear p37
                        try clear q37
                        try clear hx37
                        try clear c38
                        try clear c38b0
                        try clear p39
                        try clear q39
                        try clear hx39
                        try clear c40
                        try clear hcz26_0
                        try clear hcz26_1
                        try clear hcz4_0
                        try clear hcz4_1
                        try clear hcz9_0
                        try clear hcz9_1
                        try clear hfz26_0
                        try clear hfz26_1
                        try clear hfz4_0
                        try clear hfz4_1
                        try clear hfz9_0
                        try clear hfz9_1
                        try clear p1
                        try clear p12
                        try clear p18
                        try clear p2
                        try clear p20
                        try clear p23
                        try clear p3
                        try clear p30
                        try clear p35
                        try clear p37
                        try clear p39
                        try clear p6
                        try clear q1
                        try clear q12
                        try clear q18
                        try clear q2
                        try clear q20
                        try clear q23
                        try clear q3
                        try clear q30
                        try clear q35
                        try clear q37
                        try clear q39
                        obtain ⟨kq, x5_30, x8_30, rfl, HA, HJ30, HO_8, BK755, BK756, HB⟩ := hcut
                        cases kq with
                        | zero => exact absurd HA.out (by simp [bagatelleref01_Parse.j6])
                        | succ kj30 =>
                          have H := HA.out
                          clear HA
                          simp only [bagatelleref01_Parse.j6] at H
                          replace H := Option.bind_eq_some_iff.mp H
                          obtain ⟨t760, A420, H⟩ := H
                          replace H : (if x6_4 = true then ((bagatelleref01_Text.f kj30 (wrap64 (-(wrap64 (Go.bits .or .u64 (IntKind.u64.wrap (x7_14 * 4294967296)) t760)))) (decide (x5_30 < (a0.size : Int)))).bind fun t761 => (if t761.toList = a0.toList then (some (wrap64 (-(wrap64 (Go.bits .or .u64 (IntKind.u64.wrap (x7_14 * 4294967296)) t760))), decide (x5_30 < (a0.size : Int)), 0)) else (some (0, false, 4)))) else ((bagatelleref01_Text.f kj30 (wrap64 (Go.bits .or .u64 (IntKind.u64.wrap (x7_14 * 4294967296)) t760)) (decide (x5_30 < (a0.size : Int)))).bind fun t762 => (if t762.toList = a0.toList then (some (wrap64 (Go.bits .or .u64 (IntKind.u64.wrap (x7_14 * 4294967296)) t760), decide (x5_30 < (a0.size : Int)), 0)) else (some (0, false, 4))))) = some (r1, r2, r3) := H
                          have A42 := Aside0.mk A420
                          clear A420
                          by_cases c43 : x6_4 = true
                          · subst c43
                            have H1 : ((bagatelleref01_Text.f kj30 (wrap64 (-(wrap64 (Go.bits .or .u64 (IntKind.u64.wrap (x7_14 * 4294967296)) t760)))) (decide (x5_30 < (a0.size : Int)))).bind fun t761 => (if t761.toList = a0.toList then (some (wrap64 (-(wrap64 (Go.bits .or .u64 (IntKind.u64.wrap (x7_14 * 4294967296)) t760))), decide (x5_30 < (a0.size : Int)), 0)) else (some (0, false, 4)))) = some (r1, r2, r3) := by rw [if_pos rfl] at H; exact H
                            clear H
                            have H := H1
                            clear H1
                            replace H := Option.bind_eq_some_iff.mp H
                            obtain ⟨t761, A440, H⟩ := H
                            replace H : (if t761.toList = a0.toList then (some (wrap64 (-(wrap64 (Go.bits .or .u64 (IntKind.u64.wrap (x7_14 * 4294967296)) t760))), decide (x5_30 < (a0.size : Int)), 0)) else (some (0, false, 4))) = some (r1, r2, r3) := H
                            have A44 := Aside0.mk A440
                            clear A440
                            by_cases c45 : t761.toList = a0.toList
                            · rw [if_pos c45] at H
                              have c45b0 : (t761.toList == a0.toList) = true := beq_iff_eq.mpr c45
                              have c45b1 : (t761.toList != a0.toList) = false := bne_eq_false_iff_eq.mpr c45
                              clear c45
                              simp only [Option.some.injEq, Prod.mk.injEq] at H
                              obtain ⟨rfl, rfl, rfl⟩ := H
                              obtain ⟨Ao46, co46, eo46⟩ := Kd.R_slice HO_8.out
                              subst eo46
                              go_wp2_with (first | ((with_reducible refine gate_callee (f := 101) rfl ?_); refine goesL_ (some 97) rfl rfl Try.func101 (by kernel_rfl) rfl #[.slice Ao46 x8_30.length co46] rfl (by (try simp only [List.map_toArray, List.map_cons, List.map_nil]); first | done | rfl | (simp only [List.length_drop, List.length_take]; rfl)) ?_; (with_reducible refine (bagatelleref01_fraction.calls _ _ x8_30 t760 _ ?side1 ?side2 A42.out).mono ?_); (case side1 => repeat (first | exact (Kd.R_reads' HO_8.out).2.2 | (with_reducible refine Kd.C_alloc ?_ _) | (with_reducible refine Kd.C_drewN ?_ _) | (with_reducible refine Kd.C_drew ?_))); (case side2 => exact (Kd.R_reads' HO_8.out).2.1); rintro e w47 ⟨rfl, hb⟩; refine ⟨_, rfl, ?_⟩; have n0_ := Aside0.mk (Kd.R_below (by (with_reducible repeat (first | apply Kd.R_alloc | apply Kd.R_drewN | apply Kd.R_drew)); exact HO_8.out) hb); have n1_ := Aside0.mk (blk_below (g := gb755) (o := .cells #[.int .i64 0, .bool false] 23 (0, 0)) (by (with_reducible repeat (first | refine blk_drewN ?_ _ | refine blk_drew ?_ | refine blk_alloc ?_ _)); exact BK755.out) hb); have n2_ := Aside0.mk (blk_below (g := gb756) (o := .cells #[.int .i64 0, .bool false] 23 (0, 0)) (by (with_reducible repeat (first | refine blk_drewN ?_ _ | refine blk_drew ?_ | refine blk_alloc ?_ _)); exact BK756.out) hb); have n3_ := Aside0.mk (below_step (by repeat (first | (with_reducible first | exact HB.out | apply below_alloc | apply pw_below_drewN | apply below_drew1 | refine below_set ?_ GE755.out | refine below_set ?_ GE756.out) | exact HB.out)) hb); clear HO_8; clear BK755; clear BK756; clear HB; have HO_8 := n0_; have BK755 := n1_; have BK756 := n2_; have HB := n3_; clear n0_ n1_ n2_ n3_; (try clear hb); (try clear hb2); (try clear hk); (try clear hi); have hnb48 := NB756_755.out; have hnc48 := NB755_756.out; have hcz49_0 : w47.cell? ⟨gb756, 0, none⟩ = some (.int .i64 0) := (blk_cell BK756.out 0).trans rfl; have hcz49_1 : w47.cell? ⟨gb756, 1, none⟩ = some (.bool false) := (blk_cell BK756.out 1).trans rfl; have hfz49_0 := blk_frozen BK756.out 0; have hfz49_1 := blk_frozen BK756.out 1) | ((with_reducible refine gate_callee (f := 68) rfl ?_); refine goesL_ (some 112) rfl rfl Try.func68 (by kernel_rfl) rfl #[.agg #[.int .i64 (wrap64 (-(wrap64 (Go.bits .or .u64 (IntKind.u64.wrap (x7_14 * 4294967296)) t760)))), .bool (decide (x5_30 < (a0.size : Int)))]] rfl (by (try simp only [List.map_toArray, List.map_cons, List.map_nil]); first | done | rfl | (simp only [List.length_drop, List.length_take]; rfl)) ?_; (with_reducible refine (bagatelleref01_Text.calls kj30 (wrap64 (-(wrap64 (Go.bits .or .u64 (IntKind.u64.wrap (x7_14 * 4294967296)) t760)))) (decide (x5_30 < (a0.size : Int))) t761 _ A44.out).mono ?_); rintro e w50 ⟨rfl, hb⟩; refine ⟨_, rfl, ?_⟩; have n0_ := Aside0.mk (Kd.R_below (by (with_reducible repeat (first | apply Kd.R_alloc | apply Kd.R_drewN | apply Kd.R_drew)); exact (Kd.R_mono (Kd.R_far (p := ⟨gb756, 1, none⟩) (Kd.R_far (p := ⟨gb756, 0, none⟩) (Kd.R_far (p := ⟨gb756, 0, none⟩) (Kd.R_types HO_8.out BK756.out (by decide)) (fun _ hk => hk.2) (.int .i64 (wrap64 (Go.bits .or .u64 (IntKind.u64.wrap (x7_14 * 4294967296)) t760)))) (fun _ hk => hk.2) (.int .i64 (wrap64 (-(wrap64 (Go.bits .or .u64 (IntKind.u64.wrap (x7_14 * 4294967296)) t760)))))) (fun _ hk => hk.2) (.bool (decide (x5_30 < (a0.size : Int))))) (fun _ h_ => h_.1))) hb); have n1_ := Aside0.mk (blk_below (g := gb755) (o := .cells #[.int .i64 0, .bool false] 23 (0, 0)) (by (with_reducible repeat (first | refine blk_drewN ?_ _ | refine blk_drew ?_ | refine blk_alloc ?_ _)); refine blk_far ?_ NB755_756.out _; (with_reducible repeat (first | refine blk_drewN ?_ _ | refine blk_drew ?_ | refine blk_alloc ?_ _)); refine blk_far ?_ NB755_756.out _; (with_reducible repeat (first | refine blk_drewN ?_ _ | refine blk_drew ?_ | refine blk_alloc ?_ _)); refine blk_far ?_ NB755_756.out _; (with_reducible repeat (first | refine blk_drewN ?_ _ | refine blk_drew ?_ | refine blk_alloc ?_ _)); exact BK755.out) hb); have n2_ := Aside0.mk (blk_below (g := gb756) (o := .cells #[.int .i64 (wrap64 (-(wrap64 (Go.bits .or .u64 (IntKind.u64.wrap (x7_14 * 4294967296)) t760)))), .bool (decide (x5_30 < (a0.size : Int)))] 23 (0, 0)) (by (with_reducible repeat (first | refine blk_drewN ?_ _ | refine blk_drew ?_ | refine blk_alloc ?_ _)); refine blk_put (cs := #[.int .i64 (wrap64 (-(wrap64 (Go.bits .or .u64 (IntKind.u64.wrap (x7_14 * 4294967296)) t760)))), .bool false]) ?_ 1 _ rfl; (with_reducible repeat (first | refine blk_drewN ?_ _ | refine blk_drew ?_ | refine blk_alloc ?_ _)); refine blk_put (cs := #[.int .i64 (wrap64 (Go.bits .or .u64 (IntKind.u64.wrap (x7_14 * 4294967296)) t760)), .bool false]) ?_ 0 _ rfl; (with_reducible repeat (first | refine blk_drewN ?_ _ | refine blk_drew ?_ | refine blk_alloc ?_ _)); refine blk_put (cs := #[.int .i64 0, .bool false]) ?_ 0 _ rfl; (with_reducible repeat (first | refine blk_drewN ?_ _ | refine blk_drew ?_ | refine blk_alloc ?_ _)); exact BK756.out) hb); have n3_ := Aside0.mk (below_step (by repeat (first | (with_reducible first | exact HB.out | apply below_alloc | apply pw_below_drewN | apply below_drew1 | refine below_set ?_ GE755.out | refine below_set ?_ GE756.out) | exact HB.out)) hb); clear HO_8; clear BK755; clear BK756; clear HB; have HO_8 := n0_; have BK755 := n1_; have BK756 := n2_; have HB := n3_; clear n0_ n1_ n2_ n3_; (try clear hb); (try clear hb2); (try clear hk); (try clear hi); have hcz51_0 : w50.cell? ⟨gb756, 0, none⟩ = some (.int .i64 (wrap64 (-(wrap64 (Go.bits .or .u64 (IntKind.u64.wrap (x7_14 * 4294967296)) t760))))) := (blk_cell BK756.out 0).trans rfl; have hcz51_1 : w50.cell? ⟨gb756, 1, none⟩ = some (.bool (decide (x5_30 < (a0.size : Int)))) := (blk_cell BK756.out 1).trans rfl; have hfz51_0 := blk_frozen BK756.out 0; have hfz51_1 := blk_frozen BK756.out 1; have hcz52_0 : w50.cell? ⟨gb755, 0, none⟩ = some (.int .i64 0) := (blk_cell BK755.out 0).trans rfl; have hcz52_1 : w50.cell? ⟨gb755, 1, none⟩ = some (.bool false) := (blk_cell BK755.out 1).trans rfl; have hfz52_0 := blk_frozen BK755.out 0; have hfz52_1 := blk_frozen BK755.out 1))
                              refine bodyPost_ret (results_ct rfl _ _ gb755 23 #[.int .i64 (wrap64 (-(wrap64 (Go.bits .or .u64 (IntKind.u64.wrap (x7_14 * 4294967296)) t760)))), .bool (decide (x5_30 < (a0.size : Int)))] (0, 0) _ rfl (by (with_reducible repeat (first | refine blk_drewN ?_ _ | refine blk_drew ?_ | refine blk_alloc ?_ _)); refine blk_put (cs := #[.int .i64 (wrap64 (-(wrap64 (Go.bits .or .u64 (IntKind.u64.wrap (x7_14 * 4294967296)) t760)))), .bool false]) ?_ 1 _ rfl; (with_reducible repeat (first | refine blk_drewN ?_ _ | refine blk_drew ?_ | refine blk_alloc ?_ _)); refine blk_put (cs := #[.int .i64 0, .bool false]) ?_ 0 _ rfl; (with_reducible repeat (first | refine blk_drewN ?_ _ | refine blk_drew ?_ | refine blk_alloc ?_ _)); exact BK755.out) Try.underlying23 rfl (by kernel_rfl)) rfl ?_
                              exact ⟨by first | rfl | (simp [errW_none, errW_some] <;> rfl) | (simp [*, errW_none, errW_some] <;> rfl), by repeat (first | (with_reducible first | exact HB.out | apply below_alloc | apply pw_below_drewN | apply below_drew1 | refine below_set ?_ GE755.out | refine below_set ?_ GE756.out) | exact HB.out)⟩
                            · rw [if_neg c45] at H
                              have c45b0 : (t761.toList == a0.toList) = false := beq_eq_false_iff_ne.mpr c45
                              have c45b1 : (t761.toList != a0.toList) = true := bne_iff_ne.mpr c45
                              simp only [Option.some.injEq, Prod.mk.injEq] at H
                              obtain ⟨rfl, rfl, rfl⟩ := H
                              obtain ⟨Ao53, co53, eo53⟩ := Kd.R_slice HO_8.out
                              subst eo53
                              go_wp2_with (first | ((with_reducible refine gate_callee (f := 101) rfl ?_); refine goesL_ (some 97) rfl rfl Try.func101 (by kernel_rfl) rfl #[.slice Ao53 x8_30.length co53] rfl (by (try simp only [List.map_toArray, List.map_cons, List.map_nil]); first | done | rfl | (simp only [List.length_drop, List.length_take]; rfl)) ?_; (with_reducible refine (bagatelleref01_fraction.calls _ _ x8_30 t760 _ ?side1 ?side2 A42.out).mono ?_); (case side1 => repeat (first | exact (Kd.R_reads' HO_8.out).2.2 | (with_reducible refine Kd.C_alloc ?_ _) | (with_reducible refine Kd.C_drewN ?_ _) | (with_reducible refine Kd.C_drew ?_))); (case side2 => exact (Kd.R_reads' HO_8.out).2.1); rintro e w54 ⟨rfl, hb⟩; refine ⟨_, rfl, ?_⟩; have n0_ := Aside0.mk (Kd.R_below (by (with_reducible repeat (first | apply Kd.R_alloc | apply Kd.R_drewN | apply Kd.R_drew)); exact HO_8.out) hb); have n1_ := Aside0.mk (blk_below (g := gb755) (o := .cells #[.int .i64 0, .bool false] 23 (0, 0)) (by (with_reducible repeat (first | refine blk_drewN ?_ _ | refine blk_drew ?_ | refine blk_alloc ?_ _)); exact BK755.out) hb); have n2_ := Aside0.mk (blk_below (g := gb756) (o := .cells #[.int .i64 0, .bool false] 23 (0, 0)) (by (with_reducible repeat (first | refine blk_drewN ?_ _ | refine blk_drew ?_ | refine blk_alloc ?_ _)); exact BK756.out) hb); have n3_ := Aside0.mk (below_step (by repeat (first | (with_reducible first | exact HB.out | apply below_alloc | apply pw_below_drewN | apply below_drew1 | refine below_set ?_ GE755.out | refine below_set ?_ GE756.out) | exact HB.out)) hb); clear HO_8; clear BK755; clear BK756; clear HB; have HO_8 := n0_; have BK755 := n1_; have BK756 := n2_; have HB := n3_; clear n0_ n1_ n2_ n3_; (try clear hb); (try clear hb2); (try clear hk); (try clear hi); have hnb55 := NB756_755.out; have hnc55 := NB755_756.out; have hcz56_0 : w54.cell? ⟨gb756, 0, none⟩ = some (.int .i64 0) := (blk_cell BK756.out 0).trans rfl; have hcz56_1 : w54.cell? ⟨gb756, 1, none⟩ = some (.bool false) := (blk_cell BK756.out 1).trans rfl; have hfz56_0 := blk_frozen BK756.out 0; have hfz56_1 := blk_frozen BK756.out 1) | ((with_reducible refine gate_callee (f := 68) rfl ?_); refine goesL_ (some 112) rfl rfl Try.func68 (by kernel_rfl) rfl #[.agg #[.int .i64 (wrap64 (-(wrap64 (Go.bits .or .u64 (IntKind.u64.wrap (x7_14 * 4294967296)) t760)))), .bool (decide (x5_30 < (a0.size : Int)))]] rfl (by (try simp only [List.map_toArray, List.map_cons, List.map_nil]); first | done | rfl | (simp only [List.length_drop, List.length_take]; rfl)) ?_; (with_reducible refine (bagatelleref01_Text.calls kj30 (wrap64 (-(wrap64 (Go.bits .or .u64 (IntKind.u64.wrap (x7_14 * 4294967296)) t760)))) (decide (x5_30 < (a0.size : Int))) t761 _ A44.out).mono ?_); rintro e w57 ⟨rfl, hb⟩; refine ⟨_, rfl, ?_⟩; have n0_ := Aside0.mk (Kd.R_below (by (with_reducible repeat (first | apply Kd.R_alloc | apply Kd.R_drewN | apply Kd.R_drew)); exact (Kd.R_mono (Kd.R_far (p := ⟨gb756, 1, none⟩) (Kd.R_far (p := ⟨gb756, 0, none⟩) (Kd.R_far (p := ⟨gb756, 0, none⟩) (Kd.R_types HO_8.out BK756.out (by decide)) (fun _ hk => hk.2) (.int .i64 (wrap64 (Go.bits .or .u64 (IntKind.u64.wrap (x7_14 * 4294967296)) t760)))) (fun _ hk => hk.2) (.int .i64 (wrap64 (-(wrap64 (Go.bits .or .u64 (IntKind.u64.wrap (x7_14 * 4294967296)) t760)))))) (fun _ hk => hk.2) (.bool (decide (x5_30 < (a0.size : Int))))) (fun _ h_ => h_.1))) hb); have n1_ := Aside0.mk (blk_below (g := gb755) (o := .cells #[.int .i64 0, .bool false] 23 (0, 0)) (by (with_reducible repeat (first | refine blk_drewN ?_ _ | refine blk_drew ?_ | refine blk_alloc ?_ _)); refine blk_far ?_ NB755_756.out _; (with_reducible repeat (first | refine blk_drewN ?_ _ | refine blk_drew ?_ | refine blk_alloc ?_ _)); refine blk_far ?_ NB755_756.out _; (with_reducible repeat (first | refine blk_drewN ?_ _ | refine blk_drew ?_ | refine blk_alloc ?_ _)); refine blk_far ?_ NB755_756.out _; (with_reducible repeat (first | refine blk_drewN ?_ _ | refine blk_drew ?_ | refine blk_alloc ?_ _)); exact BK755.out) hb); have n2_ := Aside0.mk (blk_below (g := gb756) (o := .cells #[.int .i64 (wrap64 (-(wrap64 (Go.bits .or .u64 (IntKind.u64.wrap (x7_14 * 4294967296)) t760)))), .bool (decide (x5_30 < (a0.size : Int)))] 23 (0, 0)) (by (with_reducible repeat (first | refine blk_drewN ?_ _ | refine blk_drew ?_ | refine blk_alloc ?_ _)); refine blk_put (cs := #[.int .i64 (wrap64 (-(wrap64 (Go.bits .or .u64 (IntKind.u64.wrap (x7_14 * 4294967296)) t760)))), .bool false]) ?_ 1 _ rfl; (with_reducible repeat (first | refine blk_drewN ?_ _ | refine blk_drew ?_ | refine blk_alloc ?_ _)); refine blk_put (cs := #[.int .i64 (wrap64 (Go.bits .or .u64 (IntKind.u64.wrap (x7_14 * 4294967296)) t760)), .bool false]) ?_ 0 _ rfl; (with_reducible repeat (first | refine blk_drewN ?_ _ | refine blk_drew ?_ | refine blk_alloc ?_ _)); refine blk_put (cs := #[.int .i64 0, .bool false]) ?_ 0 _ rfl; (with_reducible repeat (first | refine blk_drewN ?_ _ | refine blk_drew ?_ | refine blk_alloc ?_ _)); exact BK756.out) hb); have n3_ := Aside0.mk (below_step (by repeat (first | (with_reducible first | exact HB.out | apply below_alloc | apply pw_below_drewN | apply below_drew1 | refine below_set ?_ GE755.out | refine below_set ?_ GE756.out) | exact HB.out)) hb); clear HO_8; clear BK755; clear BK756; clear HB; have HO_8 := n0_; have BK755 := n1_; have BK756 := n2_; have HB := n3_; clear n0_ n1_ n2_ n3_; (try clear hb); (try clear hb2); (try clear hk); (try clear hi); have hcz58_0 : w57.cell? ⟨gb755, 0, none⟩ = some (.int .i64 0) := (blk_cell BK755.out 0).trans rfl; have hcz58_1 : w57.cell? ⟨gb755, 1, none⟩ = some (.bool false) := (blk_cell BK755.out 1).trans rfl; have hfz58_0 := blk_frozen BK755.out 0; have hfz58_1 := blk_frozen BK755.out 1))
                              refine bodyPost_ret (results_ct rfl _ _ gb755 23 #[.int .i64 0, .bool false] (0, 0) _ rfl (by (with_reducible repeat (first | refine blk_drewN ?_ _ | refine blk_drew ?_ | refine blk_alloc ?_ _)); refine blk_put (cs := #[.int .i64 0, .bool false]) ?_ 1 _ rfl; (with_reducible repeat (first | refine blk_drewN ?_ _ | refine blk_drew ?_ | refine blk_alloc ?_ _)); refine blk_put (cs := #[.int .i64 0, .bool false]) ?_ 0 _ rfl; (with_reducible repeat (first | refine blk_drewN ?_ _ | refine blk_drew ?_ | refine blk_alloc ?_ _)); exact BK755.out) Try.underlying23 rfl (by kernel_rfl)) rfl ?_
                              exact ⟨by first | rfl | (simp [errW_none, errW_some] <;> rfl) | (simp [*, errW_none, errW_some] <;> rfl), by repeat (first | (with_reducible first | exact HB.out | apply below_alloc | apply pw_below_drewN | apply below_drew1 | refine below_set ?_ GE755.out | refine below_set ?_ GE756.out) | exact HB.out)⟩
                          · replace c43 := Bool.eq_false_iff.mpr c43
                            subst c43
                            have H1 : ((bagatelleref01_Text.f kj30 (wrap64 (Go.bits .or .u64 (IntKind.u64.wrap (x7_14 * 4294967296)) t760)) (decide (x5_30 < (a0.size : Int)))).bind fun t762 => (if t762.toList = a0.toList then (some (wrap64 (Go.bits .or .u64 (IntKind.u64.wrap (x7_14 * 4294967296)) t760), decide (x5_30 < (a0.size : Int)), 0)) else (some (0, false, 4)))) = some (r1, r2, r3) := by rw [if_neg (show ¬ (false = true) by decide)] at H; exact H
                            clear H
                            have H := H1
                            clear H1
                            replace H := Option.bind_eq_some_iff.mp H
                            obtain ⟨t762, A590, H⟩ := H
                            replace H : (if t762.toList = a0.toList then (some (wrap64 (Go.bits .or .u64 (IntKind.u64.wrap (x7_14 * 4294967296)) t760), decide (x5_30 < (a0.size : Int)), 0)) else (some (0, false, 4))) = some (r1, r2, r3) := H
                            have A59 := Aside0.mk A590
                            clear A590
                            by_cases c60 : t762.toList = a0.toList
                            · rw [if_pos c60] at H
                              have c60b0 : (t762.toList == a0.toList) = true := beq_iff_eq.mpr c60
                              have c60b1 : (t762.toList != a0.toList) = false := bne_eq_false_iff_eq.mpr c60
                              clear c60
                              simp only [Option.some.injEq, Prod.mk.injEq] at H
                              obtain ⟨rfl, rfl, rfl⟩ := H
                              obtain ⟨Ao61, co61, eo61⟩ := Kd.R_slice HO_8.out
                              subst eo61
                              go_wp2_with (first | ((with_reducible refine gate_callee (f := 101) rfl ?_); refine goesL_ (some 97) rfl rfl Try.func101 (by kernel_rfl) rfl #[.slice Ao61 x8_30.length co61] rfl (by (try simp only [List.map_toArray, List.map_cons, List.map_nil]); first | done | rfl | (simp only [List.length_drop, List.length_take]; rfl)) ?_; (with_reducible refine (bagatelleref01_fraction.calls _ _ x8_30 t760 _ ?side1 ?side2 A42.out).mono ?_); (case side1 => repeat (first | exact (Kd.R_reads' HO_8.out).2.2 | (with_reducible refine Kd.C_alloc ?_ _) | (with_reducible refine Kd.C_drewN ?_ _) | (with_reducible refine Kd.C_drew ?_))); (case side2 => exact (Kd.R_reads' HO_8.out).2.1); rintro e w62 ⟨rfl, hb⟩; refine ⟨_, rfl, ?_⟩; have n0_ := Aside0.mk (Kd.R_below (by (with_reducible repeat (first | apply Kd.R_alloc | apply Kd.R_drewN | apply Kd.R_drew)); exact HO_8.out) hb); have n1_ := Aside0.mk (blk_below (g := gb755) (o := .cells #[.int .i64 0, .bool false] 23 (0, 0)) (by (with_reducible repeat (first | refine blk_drewN ?_ _ | refine blk_drew ?_ | refine blk_alloc ?_ _)); exact BK755.out) hb); have n2_ := Aside0.mk (blk_below (g := gb756) (o := .cells #[.int .i64 0, .bool false] 23 (0, 0)) (by (with_reducible repeat (first | refine blk_drewN ?_ _ | refine blk_drew ?_ | refine blk_alloc ?_ _)); exact BK756.out) hb); have n3_ := Aside0.mk (below_step (by repeat (first | (with_reducible first | exact HB.out | apply below_alloc | apply pw_below_drewN | apply below_drew1 | refine below_set ?_ GE755.out | refine below_set ?_ GE756.out) | exact HB.out)) hb); clear HO_8; clear BK755; clear BK756; clear HB; have HO_8 := n0_; have BK755 := n1_; have BK756 := n2_; have HB := n3_; clear n0_ n1_ n2_ n3_; (try clear hb); (try clear hb2); (try clear hk); (try clear hi); have hnb63 := NB756_755.out; have hnc63 := NB755_756.out; have hcz64_0 : w62.cell? ⟨gb756, 0, none⟩ = some (.int .i64 0) := (blk_cell BK756.out 0).trans rfl; have hcz64_1 : w62.cell? ⟨gb756, 1, none⟩ = some (.bool false) := (blk_cell BK756.out 1).trans rfl; have hfz64_0 := blk_frozen BK756.out 0; have hfz64_1 := blk_frozen BK756.out 1) | ((with_reducible refine gate_callee (f := 68) rfl ?_); refine goesL_ (some 112) rfl rfl Try.func68 (by kernel_rfl) rfl #[.agg #[.int .i64 (wrap64 (Go.bits .or .u64 (IntKind.u64.wrap (x7_14 * 4294967296)) t760)), .bool (decide (x5_30 < (a0.size : Int)))]] rfl (by (try simp only [List.map_toArray, List.map_cons, List.map_nil]); first | done | rfl | (simp only [List.length_drop, List.length_take]; rfl)) ?_; (with_reducible refine (bagatelleref01_Text.calls kj30 (wrap64 (Go.bits .or .u64 (IntKind.u64.wrap (x7_14 * 4294967296)) t760)) (decide (x5_30 < (a0.size : Int))) t762 _ A59.out).mono ?_); rintro e w65 ⟨rfl, hb⟩; refine ⟨_, rfl, ?_⟩; have n0_ := Aside0.mk (Kd.R_below (by (with_reducible repeat (first | apply Kd.R_alloc | apply Kd.R_drewN | apply Kd.R_drew)); exact (Kd.R_mono (Kd.R_far (p := ⟨gb756, 1, none⟩) (Kd.R_far (p := ⟨gb756, 0, none⟩) (Kd.R_types HO_8.out BK756.out (by decide)) (fun _ hk => hk.2) (.int .i64 (wrap64 (Go.bits .or .u64 (IntKind.u64.wrap (x7_14 * 4294967296)) t760)))) (fun _ hk => hk.2) (.bool (decide (x5_30 < (a0.size : Int))))) (fun _ h_ => h_.1))) hb); have n1_ := Aside0.mk (blk_below (g := gb755) (o := .cells #[.int .i64 0, .bool false] 23 (0, 0)) (by (with_reducible repeat (first | refine blk_drewN ?_ _ | refine blk_drew ?_ | refine blk_alloc ?_ _)); refine blk_far ?_ NB755_756.out _; (with_reducible repeat (first | refine blk_drewN ?_ _ | refine blk_drew ?_ | refine blk_alloc ?_ _)); refine blk_far ?_ NB755_756.out _; (with_reducible repeat (first | refine blk_drewN ?_ _ | refine blk_drew ?_ | refine blk_alloc ?_ _)); exact BK755.out) hb); have n2_ := Aside0.mk (blk_below (g := gb756) (o := .cells #[.int .i64 (wrap64 (Go.bits .or .u64 (IntKind.u64.wrap (x7_14 * 4294967296)) t760)), .bool (decide (x5_30 < (a0.size : Int)))] 23 (0, 0)) (by (with_reducible repeat (first | refine blk_drewN ?_ _ | refine blk_drew ?_ | refine blk_alloc ?_ _)); refine blk_put (cs := #[.int .i64 (wrap64 (Go.bits .or .u64 (IntKind.u64.wrap (x7_14 * 4294967296)) t760)), .bool false]) ?_ 1 _ rfl; (with_reducible repeat (first | refine blk_drewN ?_ _ | refine blk_drew ?_ | refine blk_alloc ?_ _)); refine blk_put (cs := #[.int .i64 0, .bool false]) ?_ 0 _ rfl; (with_reducible repeat (first | refine blk_drewN ?_ _ | refine blk_drew ?_ | refine blk_alloc ?_ _)); exact BK756.out) hb); have n3_ := Aside0.mk (below_step (by repeat (first | (with_reducible first | exact HB.out | apply below_alloc | apply pw_below_drewN | apply below_drew1 | refine below_set ?_ GE755.out | refine below_set ?_ GE756.out) | exact HB.out)) hb); clear HO_8; clear BK755; clear BK756; clear HB; have HO_8 := n0_; have BK755 := n1_; have BK756 := n2_; have HB := n3_; clear n0_ n1_ n2_ n3_; (try clear hb); (try clear hb2); (try clear hk); (try clear hi); have hcz66_0 : w65.cell? ⟨gb756, 0, none⟩ = some (.int .i64 (wrap64 (Go.bits .or .u64 (IntKind.u64.wrap (x7_14 * 4294967296)) t760))) := (blk_cell BK756.out 0).trans rfl; have hcz66_1 : w65.cell? ⟨gb756, 1, none⟩ = some (.bool (decide (x5_30 < (a0.size : Int)))) := (blk_cell BK756.out 1).trans rfl; have hfz66_0 := blk_frozen BK756.out 0; have hfz66_1 := blk_frozen BK756.out 1; have hcz67_0 : w65.cell? ⟨gb755, 0, none⟩ = some (.int .i64 0) := (blk_cell BK755.out 0).trans rfl; have hcz67_1 : w65.cell? ⟨gb755, 1, none⟩ = some (.bool false) := (blk_cell BK755.out 1).trans rfl; have hfz67_0 := blk_frozen BK755.out 0; have hfz67_1 := blk_frozen BK755.out 1))
                              refine bodyPost_ret (results_ct rfl _ _ gb755 23 #[.int .i64 (wrap64 (Go.bits .or .u64 (IntKind.u64.wrap (x7_14 * 4294967296)) t760)), .bool (decide (x5_30 < (a0.size : Int)))] (0, 0) _ rfl (by (with_reducible repeat (first | refine blk_drewN ?_ _ | refine blk_drew ?_ | refine blk_alloc ?_ _)); refine blk_put (cs := #[.int .i64 (wrap64 (Go.bits .or .u64 (IntKind.u64.wrap (x7_14 * 4294967296)) t760)), .bool false]) ?_ 1 _ rfl; (with_reducible repeat (first | refine blk_drewN ?_ _ | refine blk_drew ?_ | refine blk_alloc ?_ _)); refine blk_put (cs := #[.int .i64 0, .bool false]) ?_ 0 _ rfl; (with_reducible repeat (first | refine blk_drewN ?_ _ | refine blk_drew ?_ | refine blk_alloc ?_ _)); exact BK755.out) Try.underlying23 rfl (by kernel_rfl)) rfl ?_
                              exact ⟨by first | rfl | (simp [errW_none, errW_some] <;> rfl) | (simp [*, errW_none, errW_some] <;> rfl), by repeat (first | (with_reducible first | exact HB.out | apply below_alloc | apply pw_below_drewN | apply below_drew1 | refine below_set ?_ GE755.out | refine below_set ?_ GE756.out) | exact HB.out)⟩
                            · rw [if_neg c60] at H
                              have c60b0 : (t762.toList == a0.toList) = false := beq_eq_false_iff_ne.mpr c60
                              have c60b1 : (t762.toList != a0.toList) = true := bne_iff_ne.mpr c60
                              simp only [Option.some.injEq, Prod.mk.injEq] at H
                              obtain ⟨rfl, rfl, rfl⟩ := H
                              obtain ⟨Ao68, co68, eo68⟩ := Kd.R_slice HO_8.out
                              subst eo68
                              go_wp2_with (first | ((with_reducible refine gate_callee (f := 101) rfl ?_); refine goesL_ (some 97) rfl rfl Try.func101 (by kernel_rfl) rfl #[.slice Ao68 x8_30.length co68] rfl (by (try simp only [List.map_toArray, List.map_cons, List.map_nil]); first | done | rfl | (simp only [List.length_drop, List.length_take]; rfl)) ?_; (with_reducible refine (bagatelleref01_fraction.calls _ _ x8_30 t760 _ ?side1 ?side2 A42.out).mono ?_); (case side1 => repeat (first | exact (Kd.R_reads' HO_8.out).2.2 | (with_reducible refine Kd.C_alloc ?_ _) | (with_reducible refine Kd.C_drewN ?_ _) | (with_reducible refine Kd.C_drew ?_))); (case side2 => exact (Kd.R_reads' HO_8.out).2.1); rintro e w69 ⟨rfl, hb⟩; refine ⟨_, rfl, ?_⟩; have n0_ := Aside0.mk (Kd.R_below (by (with_reducible repeat (first | apply Kd.R_alloc | apply Kd.R_drewN | apply Kd.R_drew)); exact HO_8.out) hb); have n1_ := Aside0.mk (blk_below (g := gb755) (o := .cells #[.int .i64 0, .bool false] 23 (0, 0)) (by (with_reducible repeat (first | refine blk_drewN ?_ _ | refine blk_drew ?_ | refine blk_alloc ?_ _)); exact BK755.out) hb); have n2_ := Aside0.mk (blk_below (g := gb756) (o := .cells #[.int .i64 0, .bool false] 23 (0, 0)) (by (with_reducible repeat (first | refine blk_drewN ?_ _ | refine blk_drew ?_ | refine blk_alloc ?_ _)); exact BK756.out) hb); have n3_ := Aside0.mk (below_step (by repeat (first | (with_reducible first | exact HB.out | apply below_alloc | apply pw_below_drewN | apply below_drew1 | refine below_set ?_ GE755.out | refine below_set ?_ GE756.out) | exact HB.out)) hb); clear HO_8; clear BK755; clear BK756; clear HB; have HO_8 := n0_; have BK755 := n1_; have BK756 := n2_; have HB := n3_; clear n0_ n1_ n2_ n3_; (try clear hb); (try clear hb2); (try clear hk); (try clear hi); have hnb70 := NB756_755.out; have hnc70 := NB755_756.out; have hcz71_0 : w69.cell? ⟨gb756, 0, none⟩ = some (.int .i64 0) := (blk_cell BK756.out 0).trans rfl; have hcz71_1 : w69.cell? ⟨gb756, 1, none⟩ = some (.bool false) := (blk_cell BK756.out 1).trans rfl; have hfz71_0 := blk_frozen BK756.out 0; have hfz71_1 := blk_frozen BK756.out 1) | ((with_reducible refine gate_callee (f := 68) rfl ?_); refine goesL_ (some 112) rfl rfl Try.func68 (by kernel_rfl) rfl #[.agg #[.int .i64 (wrap64 (Go.bits .or .u64 (IntKind.u64.wrap (x7_14 * 4294967296)) t760)), .bool (decide (x5_30 < (a0.size : Int)))]] rfl (by (try simp only [List.map_toArray, List.map_cons, List.map_nil]); first | done | rfl | (simp only [List.length_drop, List.length_take]; rfl)) ?_; (with_reducible refine (bagatelleref01_Text.calls kj30 (wrap64 (Go.bits .or .u64 (IntKind.u64.wrap (x7_14 * 4294967296)) t760)) (decide (x5_30 < (a0.size : Int))) t762 _ A59.out).mono ?_); rintro e w72 ⟨rfl, hb⟩; refine ⟨_, rfl, ?_⟩; have n0_ := Aside0.mk (Kd.R_below (by (with_reducible repeat (first | apply Kd.R_alloc | apply Kd.R_drewN | apply Kd.R_drew)); exact (Kd.R_mono (Kd.R_far (p := ⟨gb756, 1, none⟩) (Kd.R_far (p := ⟨gb756, 0, none⟩) (Kd.R_types HO_8.out BK756.out (by decide)) (fun _ hk => hk.2) (.int .i64 (wrap64 (Go.bits .or .u64 (IntKind.u64.wrap (x7_14 * 4294967296)) t760)))) (fun _ hk => hk.2) (.bool (decide (x5_30 < (a0.size : Int))))) (fun _ h_ => h_.1))) hb); have n1_ := Aside0.mk (blk_below (g := gb755) (o := .cells #[.int .i64 0, .bool false] 23 (0, 0)) (by (with_reducible repeat (first | refine blk_drewN ?_ _ | refine blk_drew ?_ | refine blk_alloc ?_ _)); refine blk_far ?_ NB755_756.out _; (with_reducible repeat (first | refine blk_drewN ?_ _ | refine blk_drew ?_ | refine blk_alloc ?_ _)); refine blk_far ?_ NB755_756.out _; (with_reducible repeat (first | refine blk_drewN ?_ _ | refine blk_drew ?_ | refine blk_alloc ?_ _)); exact BK755.out) hb); have n2_ := Aside0.mk (blk_below (g := gb756) (o := .cells #[.int .i64 (wrap64 (Go.bits .or .u64 (IntKind.u64.wrap (x7_14 * 4294967296)) t760)), .bool (decide (x5_30 < (a0.size : Int)))] 23 (0, 0)) (by (with_reducible repeat (first | refine blk_drewN ?_ _ | refine blk_drew ?_ | refine blk_alloc ?_ _)); refine blk_put (cs := #[.int .i64 (wrap64 (Go.bits .or .u64 (IntKind.u64.wrap (x7_14 * 4294967296)) t760)), .bool false]) ?_ 1 _ rfl; (with_reducible repeat (first | refine blk_drewN ?_ _ | refine blk_drew ?_ | refine blk_alloc ?_ _)); refine blk_put (cs := #[.int .i64 0, .bool false]) ?_ 0 _ rfl; (with_reducible repeat (first | refine blk_drewN ?_ _ | refine blk_drew ?_ | refine blk_alloc ?_ _)); exact BK756.out) hb); have n3_ := Aside0.mk (below_step (by repeat (first | (with_reducible first | exact HB.out | apply below_alloc | apply pw_below_drewN | apply below_drew1 | refine below_set ?_ GE755.out | refine below_set ?_ GE756.out) | exact HB.out)) hb); clear HO_8; clear BK755; clear BK756; clear HB; have HO_8 := n0_; have BK755 := n1_; have BK756 := n2_; have HB := n3_; clear n0_ n1_ n2_ n3_; (try clear hb); (try clear hb2); (try clear hk); (try clear hi); have hcz73_0 : w72.cell? ⟨gb755, 0, none⟩ = some (.int .i64 0) := (blk_cell BK755.out 0).trans rfl; have hcz73_1 : w72.cell? ⟨gb755, 1, none⟩ = some (.bool false) := (blk_cell BK755.out 1).trans rfl; have hfz73_0 := blk_frozen BK755.out 0; have hfz73_1 := blk_frozen BK755.out 1))
                              refine bodyPost_ret (results_ct rfl _ _ gb755 23 #[.int .i64 0, .bool false] (0, 0) _ rfl (by (with_reducible repeat (first | refine blk_drewN ?_ _ | refine blk_drew ?_ | refine blk_alloc ?_ _)); refine blk_put (cs := #[.int .i64 0, .bool false]) ?_ 1 _ rfl; (with_reducible repeat (first | refine blk_drewN ?_ _ | refine blk_drew ?_ | refine blk_alloc ?_ _)); refine blk_put (cs := #[.int .i64 0, .bool false]) ?_ 0 _ rfl; (with_reducible repeat (first | refine blk_drewN ?_ _ | refine blk_drew ?_ | refine blk_alloc ?_ _)); exact BK755.out) Try.underlying23 rfl (by kernel_rfl)) rfl ?_
                              exact ⟨by first | rfl | (simp [errW_none, errW_some] <;> rfl) | (simp [*, errW_none, errW_some] <;> rfl), by repeat (first | (with_reducible first | exact HB.out | apply below_alloc | apply pw_below_drewN | apply below_drew1 | refine below_set ?_ GE755.out | refine below_set ?_ GE756.out) | exact HB.out)⟩
end Go.Proofs.Ytenpiaafkmfjfaa.B

end
section
namespace Go.Proofs.Ytenpiaafkmfjfaa.B
open Go.RowKit Go.Proofs.YtenpiaafkmfjfaaW.PrintWords
def BA (l : List UInt8) : ByteArray := ⟨l.toArray⟩
theorem BA_list (l : List UInt8) : (BA l).data.toList = l := rfl
theorem BA_size (l : List UInt8) : (BA l).size = l.length := by rw [size_l]; rfl
theorem ba_eq {a b : ByteArray} (h : a.data.toList = b.data.toList) : a = b := by
  cases a; cases b
  congr 1
  exact Array.ext' h
theorem BA_append (l m : List UInt8) : BA l ++ BA m = BA (l ++ m) := by
  apply ba_eq
  rw [ByteArray.data_append, Array.toList_append]
  rfl
theorem decA_acc : ∀ (f n : Nat) (acc : List Nat), decA f n acc = decA f n [] ++ acc
  | 0, _, _ => rfl
  | f + 1, n, acc => by
    unfold decA
    by_cases h : n / 10 = 0
    · rw [if_pos h, if_pos h]; rfl
    · rw [if_neg h, if_neg h, decA_acc f (n / 10) (n % 10 :: acc), decA_acc f (n / 10) [n % 10], List.append_assoc]; rfl
theorem decA_fuel : ∀ (f n : Nat) (acc : List Nat), 1 ≤ f → n < 10 ^ f → decA (f + 1) n acc = decA f n acc
  | 0, _, _, h, _ => by omega
  | 1, n, acc, _, h => by
    have h0 : n / 10 = 0 := by omega
    unfold decA
    rw [if_pos h0, if_pos h0]
  | f + 2, n, acc, _, h => by
    rw [decA]
    conv => rhs; rw [decA]
    by_cases h0 : n / 10 = 0
    · rw [if_pos h0, if_pos h0]
    · rw [if_neg h0, if_neg h0]
      exact decA_fuel (f + 1) (n / 10) _ (by omega) (by rw [Nat.pow_succ] at h; omega)
theorem decs_small (n : Nat) (h : n < 10) : decs n = [n] := by
  unfold decs decA
  rw [if_pos (by omega), Nat.mod_eq_of_lt h]
theorem decs_step (n : Nat) (h : 10 ≤ n) (h2 : n < 10 ^ 19) : decs n = decs (n / 10) ++ [n % 10] := by
  have e : decA 20 n [] = decA 19 (n / 10) [n % 10] := by
    rw [decA, if_neg (by omega)]
  unfold decs
  rw [e, decA_acc, decA_fuel 19 (n / 10) [] (by omega) (by omega)]
theorem str_one (d : Nat) (h : d ≤ 9) : strOfNums [48 + (d : Int)] = BA [dig d] := by
  show (⟨([UInt8.ofNat (48 + (d : Int)).toNat] : List UInt8).toArray⟩ : ByteArray) = ⟨([UInt8.ofNat (48 + d)] : List UInt8).toArray⟩
  rw [show (48 + (d : Int)).toNat = 48 + d by omega]
theorem digits_f : ∀ (m n k : Nat), 1 ≤ m → m ≤ 19 → n < 10 ^ m → m ≤ k → bagatelleref01_digits.f k (n : Int) = some (BA ((decs n).map dig))
  | 0, _, _, h, _, _, _ => by omega
  | m + 1, n, k, _, hm, h, hk => by
    obtain ⟨k, rfl⟩ : ∃ z, k = z + 1 := ⟨k - 1, by omega⟩
    have hp : 10 ^ (m + 1) ≤ 10 ^ 19 := Nat.pow_le_pow_right (by omega) hm
    have ed : IntKind.u64.wrap (48 + Int.tmod (n : Int) 10) % 256 = 48 + ((n % 10 : Nat) : Int) := by
      rw [Int.tmod_eq_emod_of_nonneg (by omega), u64_id (by omega) (by omega)]; omega
    rw [bagatelleref01_digits.f, Option.bind_some, ed, str_one _ (by omega)]
    by_cases h10 : n < 10
    · rw [if_neg (by omega), decs_small n h10, Nat.mod_eq_of_lt h10]; rfl
    · have hm1 : 1 ≤ m := by
        rcases Nat.eq_zero_or_pos m with e | e
        · subst e; simp at h; omega
        · exact e
      have eq : IntKind.u64.wrap (Int.tdiv (n : Int) 10) = ((n / 10 : Nat) : Int) := by
        rw [Int.tdiv_eq_ediv_of_nonneg (by omega), u64_id (by omega) (by omega)]; omega
      have ih := digits_f m (n / 10) k hm1 (by omega) (by rw [Nat.pow_succ] at h; omega) (by omega)
      have hl := decs_len (n / 10)
      rw [if_pos (by omega), eq, ih, Option.bind_some, if_pos (by rw [BA_size, BA_size, List.length_map, List.length_singleton]; omega), BA_append, decs_step n (by omega) (by omega), List.map_append]
      rfl
theorem text_l0 (f : Bool) : ∀ (m p k : Nat) (acc : List UInt8), (fd 32 p).length ≤ m → p < 4294967296 → m + 1 ≤ k → acc.length + m ≤ 1000 →
    bagatelleref01_Text.l0 k f (BA acc) (p : Int) = some (BA (acc ++ ((fd 32 p).map dig ++ flagT f)))
  | m, p, k, acc, hm, hp, hk, ha => by
    obtain ⟨k, rfl⟩ : ∃ z, k = z + 1 := ⟨k - 1, by omega⟩
    rw [bagatelleref01_Text.l0]
    by_cases h0 : p = 0
    · subst h0
      rw [if_pos (by omega)]
      have e : fd 32 0 = [] := rfl
      rw [e, List.map_nil, List.nil_append]
      cases f
      · rw [if_neg (by decide)]
        unfold flagT
        simp
      · rw [if_pos rfl, if_pos (by rw [BA_size]; omega)]
        have e2 : (⟨#[33]⟩ : ByteArray) = BA [33] := rfl
        rw [e2, BA_append]
        rfl
    · have hs := fd_step p h0 hp
      rw [hs, List.length_cons] at hm
      obtain ⟨m, rfl⟩ : ∃ z, m = z + 1 := ⟨m - 1, by omega⟩
      have e1 : IntKind.u64.wrap ((p : Int) * 10) = ((p * 10 : Nat) : Int) := by rw [u64_id (by omega) (by omega)]; omega
      have e2 : IntKind.u64.wrap (48 + ((p * 10 : Nat) : Int) / 4294967296) % 256 = 48 + ((p * 10 / 4294967296 : Nat) : Int) := by
        rw [u64_id (by omega) (by omega)]; omega
      rw [if_neg (by omega), Option.bind_some, e1, e2, str_one _ (by omega), if_pos (by rw [BA_size, BA_size, List.length_singleton]; omega), BA_append, and_mask _ (by omega)]
      rw [text_l0 f m (p * 10 % 4294967296) k (acc ++ [dig (p * 10 / 4294967296)]) (by omega) (Nat.mod_lt _ (by omega)) (by omega) (by rw [List.length_append, List.length_singleton]; omega), hs, List.append_assoc]
      rfl
theorem text_j0 (f : Bool) (N k : Nat) (acc : List UInt8) (hN : N < 18446744073709551616) (hk : 40 ≤ k) (ha : acc.length ≤ 100) :
    bagatelleref01_Text.j0 k f (N : Int) (BA acc) = some (BA (acc ++ (partT (N % 4294967296) ++ flagT f))) := by
  obtain ⟨k, rfl⟩ : ∃ z, k = z + 2 := ⟨k - 2, by omega⟩
  have hl := fd_len 32 (N % 4294967296)
  rw [bagatelleref01_Text.j0, and_mask N hN]
  by_cases h0 : N % 4294967296 = 0
  · rw [if_pos (by omega), bagatelleref01_Text.j1, text_l0 f 32 _ k acc hl (by omega) (by omega) (by omega)]
    unfold partT
    rw [if_pos h0, h0]
    rfl
  · have e2 : (⟨#[46]⟩ : ByteArray) = BA [46] := rfl
    rw [if_neg (by omega), if_pos (by rw [BA_size]; omega), bagatelleref01_Text.j1, e2, BA_append, text_l0 f 32 _ k (acc ++ [46]) hl (by omega) (by omega) (by rw [List.length_append, List.length_singleton]; omega)]
    unfold partT
    rw [if_neg h0, List.append_assoc]
    rfl
theorem text_r {v : Int} (f : Bool) (h : I64 v) (k : Nat) (hk : 40 ≤ k) : bagatelleref01_Text.f k v f = some (BA (textB v f)) := by
  have hs := sv_i64 h
  have hb := hs
  unfold Snd at hb
  have e1 : ((sv v).natAbs : Int) / 4294967296 = (((sv v).natAbs / 4294967296 : Nat) : Int) := by omega
  have hl := decs_len ((sv v).natAbs / 4294967296)
  have et : textB v f = textB (sv v) (sf v f) := by unfold textB; rw [sv_id hs, sf_id hs]
  unfold bagatelleref01_Text.f
  rw [whole_f, Option.bind_some]
  dsimp only
  rw [size_f hs.i64, Option.bind_some, e1, digits_f 12 _ k (by omega) (by omega) (by omega) (by omega), Option.bind_some, et, text_parts _ hs]
  by_cases hn : sv v < 0
  · have e2 : (⟨#[45]⟩ : ByteArray) = BA [45] := rfl
    rw [if_pos hn, if_pos (by rw [BA_size, List.length_map]; omega), e2, BA_append, text_j0 _ _ k _ (by omega) hk (by rw [List.length_append, List.length_map, List.length_singleton]; omega), if_pos hn, List.append_assoc]
  · rw [if_neg hn, text_j0 _ _ k _ (by omega) hk (by rw [List.length_map]; omega), if_neg hn, List.nil_append]
end Go.Proofs.Ytenpiaafkmfjfaa.B

end
section
namespace Go.Proofs.Ytenpiaafkmfjfaa.B
open Go.RowKit Go.Proofs.YtenpiaafkmfjfaaW.PrintWords
def resR (s : List UInt8) (neg : Bool) (n : Nat) (rest : List UInt8) : Int × Bool × Int :=
  if n ≥ 2147483648 then (0, false, 4) else finP s neg ((n * 4294967296 + (fracP rest).1 : Nat) : Int) (!(fracP rest).2.isEmpty)
theorem fraction_f (l : List UInt8) (hl : l.length ≤ 1000) (h : ∀ c ∈ l, isD c = true) : bagatelleref01_fraction.f ((l.map dg).map (Int.ofNat)) = some ((frac 32 (l.map dg) 0 : Nat) : Int) := by
  unfold bagatelleref01_fraction.f
  have ht : tens ((l.map dg).map Int.ofNat) = true := by
    unfold tens
    rw [List.all_eq_true]
    intro d hd
    obtain ⟨e, he, rfl⟩ := List.mem_map.1 hd
    have := nine_dg h e he
    simp only [Bool.and_eq_true, decide_eq_true_eq]
    show 0 ≤ (e : Int) ∧ (e : Int) ≤ 9
    omega
  have en : nats ((l.map dg).map Int.ofNat) = l.map dg := by
    unfold nats
    rw [List.map_map]
    have : (Int.toNat ∘ Int.ofNat) = id := by funext z; rfl
    rw [this, List.map_id]
  rw [if_pos (by simpa using hl), if_pos ht, en]
theorem dec_lt (s : ByteArray) (i : Nat) (hi : i ≤ s.size) : decide ((i : Int) < (s.size : Int)) = !(s.data.toList.drop i).isEmpty := by
  rcases Nat.lt_or_ge i s.size with h | h
  · rw [decide_eq_true (by omega)]
    have hl : i < s.data.toList.length := by rw [← size_l]; exact h
    rw [List.drop_eq_getElem_cons hl]; rfl
  · rw [decide_eq_false (by omega), List.drop_eq_nil_of_le (by rw [← size_l]; exact h)]; rfl
theorem ref_j6 (k : Nat) (hk : 41 ≤ k) (s : ByteArray) (neg : Bool) (i n : Nat) (hi : i ≤ s.size) (hn : n < 2147483648) (l : List UInt8) (hl : l.length ≤ 1000) (h : ∀ c ∈ l, isD c = true) :
    bagatelleref01_Parse.j6 k s (i : Int) neg (n : Int) ((l.map dg).map Int.ofNat) = some (finP s.data.toList neg ((n * 4294967296 + frac 32 (l.map dg) 0 : Nat) : Int) (!(s.data.toList.drop i).isEmpty)) := by
  obtain ⟨k, rfl⟩ : ∃ z, k = z + 1 := ⟨k - 1, by omega⟩
  have hlt := frac32_lt _ (nine_dg h)
  rw [bagatelleref01_Parse.j6, fraction_f l hl h, Option.bind_some, u64_id (by omega) (by omega), or32 _ _ (by omega) (by omega) (by omega) (by omega), dec_lt s i hi, bl s]
  have e : ((n : Int) * 4294967296 + ((frac 32 (l.map dg) 0 : Nat) : Int)) = ((n * 4294967296 + frac 32 (l.map dg) 0 : Nat) : Int) := by omega
  rw [e]
  generalize hV : n * 4294967296 + frac 32 (l.map dg) 0 = V
  have hVb : V < 9223372036854775808 := by omega
  rw [wrap64_id (x := (V : Int)) (by omega) (by omega)]
  generalize (!(s.data.toList.drop i).isEmpty) = f
  unfold finP
  cases neg
  · rw [if_neg (show ¬ (false = true) by decide), if_neg (show ¬ (false = true) by decide), text_r _ (by unfold I64; omega) k (by omega), Option.bind_some, bl, BA_list]
    by_cases h : textB (V : Int) f = s.data.toList
    · rw [if_pos h, if_pos (by simpa using h)]
    · rw [if_neg h, if_neg (by simpa using h)]
  · rw [if_pos rfl, if_pos rfl, wrap64_id (by omega) (by omega), text_r _ (by unfold I64; omega) k (by omega), Option.bind_some, bl, BA_list]
    by_cases h : textB (-(V : Int)) f = s.data.toList
    · rw [if_pos h, if_pos (by simpa using h)]
    · rw [if_neg h, if_neg (by simpa using h)]
theorem ref_l1 (s : ByteArray) (hs : s.size ≤ 1000) (neg : Bool) (n : Nat) (hn : n < 2147483648) : ∀ (m i k : Nat) (l : List UInt8), m + i = s.size → m + 42 ≤ k → l.length + m ≤ 1000 → (∀ c ∈ l, isD c = true) →
    bagatelleref01_Parse.l1 k s (i : Int) neg (n : Int) ((l.map dg).map Int.ofNat) = some (finP s.data.toList neg ((n * 4294967296 + frac 32 ((l ++ (s.data.toList.drop i).takeWhile isD).map dg) 0 : Nat) : Int) (!((s.data.toList.drop i).dropWhile isD).isEmpty))
  | 0, i, k, l, h, hk, hl, hd => by
    obtain ⟨k, rfl⟩ : ∃ z, k = z + 1 := ⟨k - 1, by omega⟩
    have e : s.data.toList.drop i = [] := List.drop_eq_nil_of_le (by rw [← size_l]; omega)
    rw [bagatelleref01_Parse.l1, if_neg (by omega), ref_j6 k (by omega) s neg i n (by omega) hn l (by omega) hd, e]
    simp
  | m + 1, i, k, l, h, hk, hl, hd => by
    obtain ⟨k, rfl⟩ : ∃ z, k = z + 1 := ⟨k - 1, by omega⟩
    have hi : i < s.data.toList.length := by rw [← size_l]; omega
    have hb := bt_isD s i hi
    have hbl := bt_l s i hi
    have e : s.data.toList.drop i = s.data.toList[i] :: s.data.toList.drop (i + 1) := List.drop_eq_getElem_cons hi
    rw [bagatelleref01_Parse.l1, if_pos (by omega), if_pos (by omega)]
    by_cases hx : isD s.data.toList[i] = true
    · obtain ⟨g1, g2⟩ := hb.1 hx
      have edg : (bt s (i : Int) - 48) % 256 = Int.ofNat (dg s.data.toList[i]) := by
        rw [hbl] at g1 g2 ⊢
        unfold dg
        show _ = ((s.data.toList[i].toNat - 48 : Nat) : Int)
        omega
      have el : ((l.map dg).map Int.ofNat) ++ [Int.ofNat (dg s.data.toList[i])] = ((l ++ [s.data.toList[i]]).map dg).map Int.ofNat := by simp
      rw [if_pos g1, if_pos g2, if_pos (by simp; omega), wrap64_id (by omega) (by omega), edg, el, show ((i : Int) + 1) = ((i + 1 : Nat) : Int) by omega]
      rw [ref_l1 s hs neg n hn m (i + 1) k (l ++ [s.data.toList[i]]) (by omega) (by omega) (by rw [List.length_append, List.length_singleton]; omega) (by
        intro c hc
        rcases List.mem_append.1 hc with hc | hc
        · exact hd c hc
        · rw [List.mem_singleton.1 hc]; exact hx), e, List.takeWhile_cons, if_pos hx, List.dropWhile_cons, if_pos hx, List.append_assoc]
      rfl
    · have fin : bagatelleref01_Parse.j6 k s (i : Int) neg (n : Int) ((l.map dg).map Int.ofNat) = some (finP s.data.toList neg ((n * 4294967296 + frac 32 ((l ++ (s.data.toList.drop i).takeWhile isD).map dg) 0 : Nat) : Int) (!((s.data.toList.drop i).dropWhile isD).isEmpty)) := by
        rw [ref_j6 k (by omega) s neg i n (by omega) hn l (by omega) hd, e, List.takeWhile_cons, if_neg hx, List.dropWhile_cons, if_neg hx, List.append_nil]
      by_cases g1 : bt s (i : Int) ≥ 48
      · rw [if_pos g1]
        by_cases g2 : bt s (i : Int) ≤ 57
        · exact absurd (hb.2 ⟨g1, g2⟩) hx
        · rw [if_neg g2]; exact fin
      · rw [if_neg g1]; exact fin
theorem ref_j3 (k : Nat) (hk : 1060 ≤ k) (s : ByteArray) (hs : s.size ≤ 1000) (neg : Bool) (i n : Nat) (hi : i ≤ s.size) (hn : n < 18446744073709551616) :
    bagatelleref01_Parse.j3 k s (i : Int) neg (n : Int) = some (resR s.data.toList neg n (s.data.toList.drop i)) := by
  obtain ⟨k, rfl⟩ : ∃ z, k = z + 2 := ⟨k - 2, by omega⟩
  rw [bagatelleref01_Parse.j3]
  unfold resR
  by_cases h : n ≥ 2147483648
  · rw [if_pos (by omega), if_pos h]
  · rw [if_neg (by omega), if_neg h]
    have noDot (hc : (cutL 46 (s.data.toList.drop i)).2 = false) : bagatelleref01_Parse.j4 (k + 1) s (i : Int) neg (n : Int) ([] : List Int) false = some (finP s.data.toList neg ((n * 4294967296 + (fracP (s.data.toList.drop i)).1 : Nat) : Int) (!(fracP (s.data.toList.drop i)).2.isEmpty)) := by
      have e2 : fracP (s.data.toList.drop i) = (0, s.data.toList.drop i) := by unfold fracP; rw [hc]; exact if_neg (by decide)
      have := ref_j6 k (by omega) s neg i n hi (by omega) [] (by simp) (by intro c hc; cases hc)
      rw [bagatelleref01_Parse.j4, if_neg (by decide), e2]
      have e0 : frac 32 ((([] : List UInt8)).map dg) 0 = 0 := by decide +kernel
      rw [e0] at this
      exact this
    rcases Nat.lt_or_ge i s.size with hlt | hge
    · have hl : i < s.data.toList.length := by rw [← size_l]; exact hlt
      have e : s.data.toList.drop i = s.data.toList[i] :: s.data.toList.drop (i + 1) := List.drop_eq_getElem_cons hl
      have hbl := bt_l s i hl
      rw [if_pos (by omega), if_pos (by omega)]
      by_cases hx : s.data.toList[i] = 46
      · have hb : (bt s (i : Int) == 46) = true := by rw [hbl, hx]; rfl
        have e2 : fracP (s.data.toList.drop i) = (frac 32 (((s.data.toList.drop (i + 1)).takeWhile isD).map dg) 0, (s.data.toList.drop (i + 1)).dropWhile isD) := by
          rw [e, hx]; unfold fracP; rw [cutL_eq]; exact if_pos rfl
        have := ref_l1 s hs neg n (by omega) (s.size - (i + 1)) (i + 1) k [] (by omega) (by omega) (by simp; omega) (by intro c hc; cases hc)
        rw [hb, bagatelleref01_Parse.j4, if_pos rfl, wrap64_id (by omega) (by omega), e2, show ((i : Int) + 1) = ((i + 1 : Nat) : Int) by omega]
        exact this
      · have hne : ¬ (bt s (i : Int) = 46) := by
          rw [hbl]
          intro hh
          apply hx
          apply UInt8.toNat_inj.1
          have : (46 : UInt8).toNat = 46 := rfl
          omega
        have hb : (bt s (i : Int) == 46) = false := beq_eq_false_iff_ne.mpr hne
        rw [hb]
        exact noDot (by rw [e, cutL_ne hx])
    · rw [if_neg (by omega)]
      exact noDot (by rw [List.drop_eq_nil_of_le (by rw [← size_l]; exact hge)]; rfl)
theorem ref_l0 (s : ByteArray) (hs : s.size ≤ 1000) (neg : Bool) : ∀ (m i k n : Nat), m + i = s.size → m + 1062 ≤ k → n < 42949672970 →
    bagatelleref01_Parse.l0 k s (i : Int) neg (n : Int) = some (resR s.data.toList neg (numR (s.data.toList.drop i) n).1 (numR (s.data.toList.drop i) n).2)
  | 0, i, k, n, h, hk, hn => by
    obtain ⟨k, rfl⟩ : ∃ z, k = z + 1 := ⟨k - 1, by omega⟩
    have e : s.data.toList.drop i = [] := List.drop_eq_nil_of_le (by rw [← size_l]; omega)
    have := ref_j3 k (by omega) s hs neg i n (by omega) (by omega)
    rw [bagatelleref01_Parse.l0, if_neg (by omega), this, e]
    rfl
  | m + 1, i, k, n, h, hk, hn => by
    obtain ⟨k, rfl⟩ : ∃ z, k = z + 1 := ⟨k - 1, by omega⟩
    have hi : i < s.data.toList.length := by rw [← size_l]; omega
    have hb := bt_isD s i hi
    have hbl := bt_l s i hi
    have e : s.data.toList.drop i = s.data.toList[i] :: s.data.toList.drop (i + 1) := List.drop_eq_getElem_cons hi
    have stop (hns : ¬ (isD s.data.toList[i] = true ∧ n < 4294967296)) : bagatelleref01_Parse.j3 k s (i : Int) neg (n : Int) = some (resR s.data.toList neg (numR (s.data.toList.drop i) n).1 (numR (s.data.toList.drop i) n).2) := by
      rw [ref_j3 k (by omega) s hs neg i n (by omega) (by omega), e]
      unfold numR
      rw [if_neg hns]
    rw [bagatelleref01_Parse.l0, if_pos (by omega), if_pos (by omega)]
    by_cases g1 : bt s (i : Int) ≥ 48
    · rw [if_pos g1]
      by_cases g2 : bt s (i : Int) ≤ 57
      · rw [if_pos g2]
        have hx := hb.2 ⟨g1, g2⟩
        by_cases g3 : (n : Int) < 4294967296
        · have hdg := isD_dg hx
          have edg : (bt s (i : Int) - 48) % 256 = ((dg s.data.toList[i] : Nat) : Int) := by
            rw [hbl] at g1 g2 ⊢
            unfold dg
            omega
          rw [if_pos g3, wrap64_id (by omega) (by omega), edg, u64_id (x := 10 * _) (by omega) (by omega), u64_id (by omega) (by omega)]
          rw [show ((i : Int) + 1) = ((i + 1 : Nat) : Int) by omega, show (10 * (n : Int) + ((dg s.data.toList[i] : Nat) : Int)) = ((10 * n + dg s.data.toList[i] : Nat) : Int) by omega]
          rw [ref_l0 s hs neg m (i + 1) k (10 * n + dg s.data.toList[i]) (by omega) (by omega) (by omega), e]
          conv => rhs; unfold numR
          rw [if_pos ⟨hx, by omega⟩]
        · rw [if_neg g3]; exact stop (fun z => g3 (by omega))
      · rw [if_neg g2]; exact stop (fun z => g2 (hb.1 z.1).2)
    · rw [if_neg g1]; exact stop (fun z => g1 (hb.1 z.1).1)
theorem parse_r (k : Nat) (hk : 2100 ≤ k) (s : ByteArray) (hs : s.size ≤ 1000) : bagatelleref01_Parse.f k s = some (parseR s.data.toList) := by
  have hL := size_l s
  have e50 : parseR s.data.toList = if s.data.toList.length > 50 then (0, false, 4) else resR s.data.toList (cutL 45 s.data.toList).2 (numR (cutL 45 s.data.toList).1 0).1 (numR (cutL 45 s.data.toList).1 0).2 := rfl
  unfold bagatelleref01_Parse.f
  rw [e50]
  by_cases h1 : (s.size : Int) > 50
  · rw [if_pos h1, if_pos (by omega)]
  · rw [if_neg h1, if_neg (show ¬ s.data.toList.length > 50 by omega)]
    obtain ⟨k, rfl⟩ : ∃ z, k = z + 2 := ⟨k - 2, by omega⟩
    by_cases h0 : (s.size : Int) > 0
    · rw [if_pos h0, if_pos h0]
      have hl : 0 < s.data.toList.length := by omega
      have e : s.data.toList = s.data.toList[0] :: s.data.toList.drop 1 := by
        have := List.drop_eq_getElem_cons hl
        rwa [List.drop_zero] at this
      have hbl := bt_l s 0 hl
      by_cases hx : s.data.toList[0] = 45
      · have hb : (bt s 0 == 45) = true := by
          have : bt s 0 = 45 := by rw [show (0 : Int) = ((0 : Nat) : Int) by rfl, hbl, hx]; rfl
          rw [this]; rfl
        have ec : cutL 45 s.data.toList = (s.data.toList.drop 1, true) := by
          conv => lhs; rw [e, hx]
          exact cutL_eq _ _
        have := ref_l0 s hs true (s.size - 1) 1 k 0 (by omega) (by omega) (by omega)
        rw [hb, bagatelleref01_Parse.j0, if_pos rfl, bagatelleref01_Parse.j1, ec]
        exact this
      · have hne : ¬ (bt s 0 = 45) := by
          rw [show (0 : Int) = ((0 : Nat) : Int) by rfl, hbl]
          intro hh
          apply hx
          apply UInt8.toNat_inj.1
          have : (45 : UInt8).toNat = 45 := rfl
          omega
        have hb : (bt s 0 == 45) = false := beq_eq_false_iff_ne.mpr hne
        have ec : cutL 45 s.data.toList = (s.data.toList, false) := by
          conv => lhs; rw [e]
          rw [cutL_ne hx, ← e]
        have := ref_l0 s hs false s.size 0 k 0 (by omega) (by omega) (by omega)
        rw [hb, bagatelleref01_Parse.j0, if_neg (by decide), bagatelleref01_Parse.j1, ec]
        exact this
    · have en : s.data.toList = [] := List.eq_nil_of_length_eq_zero (by omega)
      have ec : cutL 45 s.data.toList = (s.data.toList, false) := by rw [en]; rfl
      have := ref_l0 s hs false s.size 0 k 0 (by omega) (by omega) (by omega)
      rw [if_neg h0, bagatelleref01_Parse.j0, if_neg (by decide), bagatelleref01_Parse.j1, ec]
      exact this
end Go.Proofs.Ytenpiaafkmfjfaa.B

end
section
namespace Go.Proofs.Ytenpiaafkmfjfaa.B
open Go.RowKit Go.Proofs.YtenpiaafkmfjfaaW.PrintWords Go.Proofs.YtenpiaafkmfjfaaW.PrintLast Go.Proofs.YtenpiaafkmfjfaaW.PrintMore
attribute [local go_sem] max2_int min2_int max_two min_two max_three min_three max_four min_four
set_option linter.unusedVariables false
set_option linter.unusedSimpArgs false
attribute [local go_sem high] eqA23
def bagatellelaw01_FixedTexts.f (k : Nat) (a0_0 : Int) (a0_1 : Bool) (a1 : ByteArray) : Option (Bool) := if (a1.size : Int) > 200 then ((bagatellelaw01_awake.f k).bind fun t221 => (some t221)) else ((fixed_Parse.f k a1).bind fun bt222 => ((bagatelleref01_Parse.f k a1).bind fun bt226 => ((fixed_Text.f a0_0 a0_1).bind fun t230 => ((bagatelleref01_Text.f k a0_0 a0_1).bind fun t231 => (if t230.toList = t231.toList then (if (bt222.1 == bt226.1 && (bt222.2.1 == bt226.2.1)) = true then (if bt222.2.2 = bt226.2.2 then ((bagatellelaw01_awake.f k).bind fun t232 => (some t232)) else (none)) else (none)) else (none))))))
def bagatellelaw01_FixedTexts.T5 : Bool × List (List Nat × List Nat) := (true, [([], []), ([0], [0]), ([], []), ([2, 1], [2]), ([1, 3], [1, 3]), ([4, 3], [4]), ([5], [5]), ([5], [5]), ([6, 7, 5], [5, 6, 7]), ([5, 8], [5, 8]), ([9, 5], [9]), ([10], [10]), ([10], [10]), ([11, 12, 10], [10, 11, 12]), ([10, 13], [10, 13]), ([14, 10], [14]), ([15, 15], [15]), ([15, 16], [15, 16]), ([17, 16, 0, 1, 2, 3, 4, 5, 6, 7, 8, 9, 10, 11, 12, 13, 14, 15, 16, 17], [17])])
def bagatellelaw01_FixedTexts.B5 : List Nat := [0, 1, 0, 7, 15, 31, 63, 63, 255, 511, 1023, 2047, 2047, 8191, 16383, 32767, 65535, 131071, 262143]
theorem bagatellelaw01_FixedTexts.tab5 : rtab .any (opsOf Try.f12 5) = bagatellelaw01_FixedTexts.T5 := by kernel_rfl
theorem bagatellelaw01_FixedTexts.bits5 : waitsOk bagatellelaw01_FixedTexts.T5.2 bagatellelaw01_FixedTexts.B5 = true := by kernel_rfl
set_option maxHeartbeats 8000000 in
set_option maxRecDepth 100000 in
theorem bagatellelaw01_FixedTexts.calls (k : Nat) (a0_0 : Int) (a0_1 : Bool) (a1 : ByteArray) (r : Bool) (w : World) (h : bagatellelaw01_FixedTexts.f k a0_0 a0_1 a1 = some r) :
    Calls Try.prog 12 #[.agg #[.int .i64 a0_0, .bool a0_1], .string a1] w fun e w' => e = .returned (.bool r) ∧ Below w.heap.size w w' := by
  have hu23 := Try.underlying23
  have HB := Aside0.mk (Below.refl w.heap.size w)
  have H : (if (a1.size : Int) > 200 then ((bagatellelaw01_awake.f k).bind fun t221 => (some t221)) else ((fixed_Parse.f k a1).bind fun bt222 => ((bagatelleref01_Parse.f k a1).bind fun bt226 => ((fixed_Text.f a0_0 a0_1).bind fun t230 => ((bagatelleref01_Text.f k a0_0 a0_1).bind fun t231 => (if t230.toList = t231.toList then (if (bt222.1 == bt226.1 && (bt222.2.1 == bt226.2.1)) = true then (if bt222.2.2 = bt226.2.2 then ((bagatellelaw01_awake.f k).bind fun t232 => (some t232)) else (none)) else (none)) else (none))))))) = some r := h
  clear h
  by_cases c3 : (a1.size : Int) > 200
  · rw [if_pos c3] at H
    have c3b0 : decide (200 < (a1.size : Int)) = true := decide_eq_true c3
    have c3b1 : decide (200 < a1.size) = true := decide_eq_true (by omega)
    clear c3
    replace H := Option.bind_eq_some_iff.mp H
    obtain ⟨t221, A40, H⟩ := H
    replace H : (some t221) = some r := H
    have A4 := Aside0.mk A40
    clear A40
    obtain rfl := Option.some.inj H
    go_enter Try.func12, Try.ntmps12
    go_wp2_with (first | ((with_reducible refine gate_dst (N := 2) rfl ?_); refine box_event ?hg (N := 2) ?hd (cs := #[.int .i64 a0_0, .bool a0_1]) (t := 23) ?hr ?_; (case hd => rfl); (case hg => rfl); (case hr => first | (go_simp; done) | (go_simp; rfl)); intro gb220 hg w5 hbox hb; have n0_ := Aside0.mk (below_step (by repeat (first | (with_reducible first | exact HB.out | apply below_alloc | apply pw_below_drewN | apply below_drew1) | exact HB.out)) hb); have n1_ := Aside0.mk (hbox); have n2_ := Aside0.mk ((by rw [hg]; exact (below_size (by repeat (first | (with_reducible first | exact HB.out | apply below_alloc | apply pw_below_drewN | apply below_drew1) | exact HB.out))) : w.heap.size ≤ gb220)); have n3_ := Aside0.mk ((by rw [hg]; exact (below_size (by repeat (first | (with_reducible first | exact HB.out | apply below_alloc | apply pw_below_drewN | apply below_drew1) | exact HB.out))) : w.heap.size ≤ gb220)); clear HB; have HB := n0_; have BK220 := n1_; have GW220 := n2_; have GE220 := n3_; clear n0_ n1_ n2_ n3_; clear hb hbox hg) | ((with_reducible refine gate_callee (f := 23) rfl ?_); refine goesL_ (some 12) rfl rfl Try.func23 (by kernel_rfl) rfl #[] rfl (by (try simp only [List.map_toArray, List.map_cons, List.map_nil]); first | done | rfl | (simp only [List.length_drop, List.length_take]; rfl)) ?_; (with_reducible refine (bagatellelaw01_awake.calls k  t221 _ A4.out).mono ?_); rintro e w6 ⟨rfl, hb⟩; refine ⟨_, rfl, ?_⟩; have n0_ := Aside0.mk (blk_below (g := gb220) (o := .cells #[.int .i64 a0_0, .bool a0_1] 23 (0, 0)) (by (with_reducible repeat (first | refine blk_drewN ?_ _ | refine blk_drew ?_ | refine blk_alloc ?_ _)); exact BK220.out) hb); have n1_ := Aside0.mk (below_step (by repeat (first | (with_reducible first | exact HB.out | apply below_alloc | apply pw_below_drewN | apply below_drew1 | refine below_set ?_ GE220.out) | exact HB.out)) hb); clear BK220; clear HB; have BK220 := n0_; have HB := n1_; clear n0_ n1_; (try clear hb); (try clear hb2); (try clear hk); (try clear hi)))
    go_ret
    exact ⟨by first | rfl | (simp [errW_none, errW_some] <;> rfl) | (simp [*, errW_none, errW_some] <;> rfl), by repeat (first | (with_reducible first | exact HB.out | apply below_alloc | apply pw_below_drewN | apply below_drew1 | refine below_set ?_ GE220.out) | exact HB.out)⟩
  · rw [if_neg c3] at H
    have c3b0 : decide (200 < (a1.size : Int)) = false := decide_eq_false c3
    have c3b1 : decide (200 < a1.size) = false := decide_eq_false (by omega)
    clear c3
    replace H := Option.bind_eq_some_iff.mp H
    obtain ⟨⟨t222, t223, t224⟩, A70, H⟩ := H
    replace H : ((bagatelleref01_Parse.f k a1).bind fun bt226 => ((fixed_Text.f a0_0 a0_1).bind fun t230 => ((bagatelleref01_Text.f k a0_0 a0_1).bind fun t231 => (if t230.toList = t231.toList then (if (t222 == bt226.1 && (t223 == bt226.2.1)) = true then (if t224 = bt226.2.2 then ((bagatellelaw01_awake.f k).bind fun t232 => (some t232)) else (none)) else (none)) else (none))))) = some r := H
    have A7 := Aside0.mk A70
    clear A70
    replace H := Option.bind_eq_some_iff.mp H
    obtain ⟨⟨t226, t227, t228⟩, A80, H⟩ := H
    replace H : ((fixed_Text.f a0_0 a0_1).bind fun t230 => ((bagatelleref01_Text.f k a0_0 a0_1).bind fun t231 => (if t230.toList = t231.toList then (if (t222 == t226 && (t223 == t227)) = true then (if t224 = t228 then ((bagatellelaw01_awake.f k).bind fun t232 => (some t232)) else (none)) else (none)) else (none)))) = some r := H
    have A8 := Aside0.mk A80
    clear A80
    replace H := Option.bind_eq_some_iff.mp H
    obtain ⟨t230, A90, H⟩ := H
    replace H : ((bagatelleref01_Text.f k a0_0 a0_1).bind fun t231 => (if t230.toList = t231.toList then (if (t222 == t226 && (t223 == t227)) = true then (if t224 = t228 then ((bagatellelaw01_awake.f k).bind fun t232 => (some t232)) else (none)) else (none)) else (none))) = some r := H
    have A9 := Aside0.mk A90
    clear A90
    replace H := Option.bind_eq_some_iff.mp H
    obtain ⟨t231, A100, H⟩ := H
    replace H : (if t230.toList = t231.toList then (if (t222 == t226 && (t223 == t227)) = true then (if t224 = t228 then ((bagatellelaw01_awake.f k).bind fun t232 => (some t232)) else (none)) else (none)) else (none)) = some r := H
    have A10 := Aside0.mk A100
    clear A100
    by_cases c11 : t230.toList = t231.toList
    · rw [if_pos c11] at H
      have c11b0 : (t230.toList == t231.toList) = true := beq_iff_eq.mpr c11
      have c11b1 : (t230.toList != t231.toList) = false := bne_eq_false_iff_eq.mpr c11
      clear c11
      by_cases c12 : (t222 == t226 && (t223 == t227)) = true
      · rw [if_pos c12] at H
        have c12b0 : (t222 == t226 && (t223 == t227)) = true := c12
        (try (have c12b1 : decide (t222 = t226 && (t223 == t227)) = true := by simpa using c12))
        (try (have c12b2 : (t222 == t226 && (t223 == t227)) = true := by simpa using c12))
        clear c12
        by_cases c13 : t224 = t228
        · rw [if_pos c13] at H
          have c13b0 : (t224 == t228) = true := beq_iff_eq.mpr c13
          have c13b1 : (t224 != t228) = false := bne_eq_false_iff_eq.mpr c13
          clear c13
          replace H := Option.bind_eq_some_iff.mp H
          obtain ⟨t232, A140, H⟩ := H
          replace H : (some t232) = some r := H
          have A14 := Aside0.mk A140
          clear A140
          obtain rfl := Option.some.inj H
          go_enter Try.func12, Try.ntmps12
          try go_wp2_with (first | ((with_reducible refine gate_dst (N := 2) rfl ?_); refine box_event ?hg (N := 2) ?hd (cs := #[.int .i64 a0_0, .bool a0_1]) (t := 23) ?hr ?_; (case hd => rfl); (case hg => rfl); (case hr => first | (go_simp; done) | (go_simp; rfl)); intro gb220 hg w15 hbox hb; have n0_ := Aside0.mk (below_step (by repeat (first | (with_reducible first | exact HB.out | apply below_alloc | apply pw_below_drewN | apply below_drew1) | exact HB.out)) hb); have n1_ := Aside0.mk (hbox); have n2_ := Aside0.mk ((by rw [hg]; exact (below_size (by repeat (first | (with_reducible first | exact HB.out | apply below_alloc | apply pw_below_drewN | apply below_drew1) | exact HB.out))) : w.heap.size ≤ gb220)); have n3_ := Aside0.mk ((by rw [hg]; exact (below_size (by repeat (first | (with_reducible first | exact HB.out | apply below_alloc | apply pw_below_drewN | apply below_drew1) | exact HB.out))) : w.heap.size ≤ gb220)); clear HB; have HB := n0_; have BK220 := n1_; have GW220 := n2_; have GE220 := n3_; clear n0_ n1_ n2_ n3_; clear hb hbox hg) | ((with_reducible refine gate_callee (f := 51) rfl ?_); refine goesL_ (some 15) rfl rfl Try.func51 (by kernel_rfl) rfl #[.string a1] rfl (by (try simp only [List.map_toArray, List.map_cons, List.map_nil]); first | done | rfl | (simp only [List.length_drop, List.length_take]; rfl)) ?_; (with_reducible refine (fixed_Parse.calls k a1 t222 t223 t224 _ A7.out).mono ?_); rintro e w16 ⟨rfl, hb⟩; refine ⟨_, rfl, ?_⟩; have n0_ := Aside0.mk (blk_below (g := gb220) (o := .cells #[.int .i64 a0_0, .bool a0_1] 23 (0, 0)) (by (with_reducible repeat (first | refine blk_drewN ?_ _ | refine blk_drew ?_ | refine blk_alloc ?_ _)); exact BK220.out) hb); have n1_ := Aside0.mk (below_step (by repeat (first | (with_reducible first | exact HB.out | apply below_alloc | apply pw_below_drewN | apply below_drew1 | refine below_set ?_ GE220.out) | exact HB.out)) hb); clear BK220; clear HB; have BK220 := n0_; have HB := n1_; clear n0_ n1_; (try clear hb); (try clear hb2); (try clear hk); (try clear hi)) | ((with_reducible refine gate_dst (N := 5) rfl ?_); refine box_event ?hg (N := 5) ?hd (cs := #[.int .i64 0, .bool false]) (t := 23) ?hr ?_; (case hd => rfl); (case hg => rfl); (case hr => first | (go_simp; done) | (go_simp; rfl)); intro gb225 hg w17 hbox hb; have n0_ := Aside0.mk (blk_below (g := gb220) (o := .cells #[.int .i64 a0_0, .bool a0_1] 23 (0, 0)) (by (with_reducible repeat (first | refine blk_drewN ?_ _ | refine blk_drew ?_ | refine blk_alloc ?_ _)); exact BK220.out) hb); have n1_ := Aside0.mk (below_step (by repeat (first | (with_reducible first | exact HB.out | apply below_alloc | apply pw_below_drewN | apply below_drew1 | refine below_set ?_ GE220.out) | exact HB.out)) hb); have n2_ := Aside0.mk (hbox); have n3_ := Aside0.mk ((by rw [hg]; exact (below_size (by repeat (first | (with_reducible first | exact HB.out | apply below_alloc | apply pw_below_drewN | apply below_drew1 | refine below_set ?_ GE220.out) | exact HB.out))) : w.heap.size ≤ gb225)); have n4_ := Aside0.mk ((by rw [hg]; exact (below_size (by repeat (first | (with_reducible first | exact HB.out | apply below_alloc | apply pw_below_drewN | apply below_drew1 | refine below_set ?_ GE220.out) | exact HB.out))) : w.heap.size ≤ gb225)); have n5_ := Aside0.mk ((by rw [hg]; exact Nat.ne_of_lt (blk_lt (g := gb220) (o := .cells #[.int .i64 a0_0, .bool a0_1] 23 (0, 0)) (by (with_reducible repeat (first | refine blk_drewN ?_ _ | refine blk_drew ?_ | refine blk_alloc ?_ _)); exact BK220.out)) : gb220 ≠ gb225)); have n6_ := Aside0.mk ((by rw [hg]; exact Nat.ne_of_gt (blk_lt (g := gb220) (o := .cells #[.int .i64 a0_0, .bool a0_1] 23 (0, 0)) (by (with_reducible repeat (first | refine blk_drewN ?_ _ | refine blk_drew ?_ | refine blk_alloc ?_ _)); exact BK220.out)) : gb225 ≠ gb220)); clear BK220; clear HB; have BK220 := n0_; have HB := n1_; have BK225 := n2_; have GW225 := n3_; have GE225 := n4_; have NB220_225 := n5_; have NB225_220 := n6_; clear n0_ n1_ n2_ n3_ n4_ n5_ n6_; clear hb hbox hg; have hnb18 := NB225_220.out; have hnc18 := NB220_225.out; have hcz19_0 : w17.cell? ⟨gb225, 0, none⟩ = some (.int .i64 0) := (blk_cell BK225.out 0).trans rfl; have hcz19_1 : w17.cell? ⟨gb225, 1, none⟩ = some (.bool false) := (blk_cell BK225.out 1).trans rfl; have hfz19_0 := blk_frozen BK225.out 0; have hfz19_1 := blk_frozen BK225.out 1) | ((with_reducible refine gate_callee (f := 66) rfl ?_); refine goesL_ (some 20) rfl rfl Try.func66 (by kernel_rfl) rfl #[.string a1] rfl (by (try simp only [List.map_toArray, List.map_cons, List.map_nil]); first | done | rfl | (simp only [List.length_drop, List.length_take]; rfl)) ?_; (with_reducible refine (bagatelleref01_Parse.calls k a1 t226 t227 t228 _ A8.out).mono ?_); rintro e w20 ⟨rfl, hb⟩; refine ⟨_, rfl, ?_⟩; have n0_ := Aside0.mk (blk_below (g := gb220) (o := .cells #[.int .i64 a0_0, .bool a0_1] 23 (0, 0)) (by (with_reducible repeat (first | refine blk_drewN ?_ _ | refine blk_drew ?_ | refine blk_alloc ?_ _)); refine blk_far ?_ NB220_225.out _; (with_reducible repeat (first | refine blk_drewN ?_ _ | refine blk_drew ?_ | refine blk_alloc ?_ _)); refine blk_far ?_ NB220_225.out _; (with_reducible repeat (first | refine blk_drewN ?_ _ | refine blk_drew ?_ | refine blk_alloc ?_ _)); exact BK220.out) hb); have n1_ := Aside0.mk (blk_below (g := gb225) (o := .cells #[.int .i64 t222, .bool t223] 23 (0, 0)) (by (with_reducible repeat (first | refine blk_drewN ?_ _ | refine blk_drew ?_ | refine blk_alloc ?_ _)); refine blk_put (cs := #[.int .i64 t222, .bool false]) ?_ 1 _ rfl; (with_reducible repeat (first | refine blk_drewN ?_ _ | refine blk_drew ?_ | refine blk_alloc ?_ _)); refine blk_put (cs := #[.int .i64 0, .bool false]) ?_ 0 _ rfl; (with_reducible repeat (first | refine blk_drewN ?_ _ | refine blk_drew ?_ | refine blk_alloc ?_ _)); exact BK225.out) hb); have n2_ := Aside0.mk (below_step (by repeat (first | (with_reducible first | exact HB.out | apply below_alloc | apply pw_below_drewN | apply below_drew1 | refine below_set ?_ GE220.out | refine below_set ?_ GE225.out) | exact HB.out)) hb); clear BK220; clear BK225; clear HB; have BK220 := n0_; have BK225 := n1_; have HB := n2_; clear n0_ n1_ n2_; (try clear hb); (try clear hb2); (try clear hk); (try clear hi)) | ((with_reducible refine gate_dst (N := 7) rfl ?_); refine box_event ?hg (N := 7) ?hd (cs := #[.int .i64 0, .bool false]) (t := 23) ?hr ?_; (case hd => rfl); (case hg => rfl); (case hr => first | (go_simp; done) | (go_simp; rfl)); intro gb229 hg w21 hbox hb; have n0_ := Aside0.mk (blk_below (g := gb220) (o := .cells #[.int .i64 a0_0, .bool a0_1] 23 (0, 0)) (by (with_reducible repeat (first | refine blk_drewN ?_ _ | refine blk_drew ?_ | refine blk_alloc ?_ _)); exact BK220.out) hb); have n1_ := Aside0.mk (blk_below (g := gb225) (o := .cells #[.int .i64 t222, .bool t223] 23 (0, 0)) (by (with_reducible repeat (first | refine blk_drewN ?_ _ | refine blk_drew ?_ | refine blk_alloc ?_ _)); exact BK225.out) hb); have n2_ := Aside0.mk (below_step (by repeat (first | (with_reducible first | exact HB.out | apply below_alloc | apply pw_below_drewN | apply below_drew1 | refine below_set ?_ GE220.out | refine below_set ?_ GE225.out) | exact HB.out)) hb); have n3_ := Aside0.mk (hbox); have n4_ := Aside0.mk ((by rw [hg]; exact (below_size (by repeat (first | (with_reducible first | exact HB.out | apply below_alloc | apply pw_below_drewN | apply below_drew1 | refine below_set ?_ GE220.out | refine below_set ?_ GE225.out) | exact HB.out))) : w.heap.size ≤ gb229)); have n5_ := Aside0.mk ((by rw [hg]; exact (below_size (by repeat (first | (with_reducible first | exact HB.out | apply below_alloc | apply pw_below_drewN | apply below_drew1 | refine below_set ?_ GE220.out | refine below_set ?_ GE225.out) | exact HB.out))) : w.heap.size ≤ gb229)); have n6_ := Aside0.mk ((by rw [hg]; exact Nat.ne_of_lt (blk_lt (g := gb220) (o := .cells #[.int .i64 a0_0, .bool a0_1] 23 (0, 0)) (by (with_reducible repeat (first | refine blk_drewN ?_ _ | refine blk_drew ?_ | refine blk_alloc ?_ _)); exact BK220.out)) : gb220 ≠ gb229)); have n7_ := Aside0.mk ((by rw [hg]; exact Nat.ne_of_gt (blk_lt (g := gb220) (o := .cells #[.int .i64 a0_0, .bool a0_1] 23 (0, 0)) (by (with_reducible repeat (first | refine blk_drewN ?_ _ | refine blk_drew ?_ | refine blk_alloc ?_ _)); exact BK220.out)) : gb229 ≠ gb220)); have n8_ := Aside0.mk ((by rw [hg]; exact Nat.ne_of_lt (blk_lt (g := gb225) (o := .cells #[.int .i64 t222, .bool t223] 23 (0, 0)) (by (with_reducible repeat (first | refine blk_drewN ?_ _ | refine blk_drew ?_ | refine blk_alloc ?_ _)); exact BK225.out)) : gb225 ≠ gb229)); have n9_ := Aside0.mk ((by rw [hg]; exact Nat.ne_of_gt (blk_lt (g := gb225) (o := .cells #[.int .i64 t222, .bool t223] 23 (0, 0)) (by (with_reducible repeat (first | refine blk_drewN ?_ _ | refine blk_drew ?_ | refine blk_alloc ?_ _)); exact BK225.out)) : gb229 ≠ gb225)); clear BK220; clear BK225; clear HB; have BK220 := n0_; have BK225 := n1_; have HB := n2_; have BK229 := n3_; have GW229 := n4_; have GE229 := n5_; have NB220_229 := n6_; have NB229_220 := n7_; have NB225_229 := n8_; have NB229_225 := n9_; clear n0_ n1_ n2_ n3_ n4_ n5_ n6_ n7_ n8_ n9_; clear hb hbox hg; have hnb22 := NB229_220.out; have hnc22 := NB220_229.out; have hnb23 := NB229_225.out; have hnc23 := NB225_229.out; have hcz24_0 : w21.cell? ⟨gb229, 0, none⟩ = some (.int .i64 0) := (blk_cell BK229.out 0).trans rfl; have hcz24_1 : w21.cell? ⟨gb229, 1, none⟩ = some (.bool false) := (blk_cell BK229.out 1).trans rfl; have hfz24_0 := blk_frozen BK229.out 0; have hfz24_1 := blk_frozen BK229.out 1))
          have n0_ : Aside0 (((w21.setCell ⟨gb229, 0, none⟩ (.int .i64 t226)).setCell ⟨gb229, 1, none⟩ (.bool t227)).heap[gb220]? = some (.cells #[.int .i64 a0_0, .bool a0_1] 23 (0, 0))) := ⟨by (with_reducible repeat (first | refine blk_drewN ?_ _ | refine blk_drew ?_ | refine blk_alloc ?_ _)); refine blk_far ?_ NB220_229.out _; (with_reducible repeat (first | refine blk_drewN ?_ _ | refine blk_drew ?_ | refine blk_alloc ?_ _)); refine blk_far ?_ NB220_229.out _; (with_reducible repeat (first | refine blk_drewN ?_ _ | refine blk_drew ?_ | refine blk_alloc ?_ _)); exact BK220.out⟩
          have n1_ : Aside0 (((w21.setCell ⟨gb229, 0, none⟩ (.int .i64 t226)).setCell ⟨gb229, 1, none⟩ (.bool t227)).heap[gb225]? = some (.cells #[.int .i64 t222, .bool t223] 23 (0, 0))) := ⟨by (with_reducible repeat (first | refine blk_drewN ?_ _ | refine blk_drew ?_ | refine blk_alloc ?_ _)); refine blk_far ?_ NB225_229.out _; (with_reducible repeat (first | refine blk_drewN ?_ _ | refine blk_drew ?_ | refine blk_alloc ?_ _)); refine blk_far ?_ NB225_229.out _; (with_reducible repeat (first | refine blk_drewN ?_ _ | refine blk_drew ?_ | refine blk_alloc ?_ _)); exact BK225.out⟩
          have n2_ : Aside0 (((w21.setCell ⟨gb229, 0, none⟩ (.int .i64 t226)).setCell ⟨gb229, 1, none⟩ (.bool t227)).heap[gb229]? = some (.cells #[.int .i64 t226, .bool t227] 23 (0, 0))) := ⟨by (with_reducible repeat (first | refine blk_drewN ?_ _ | refine blk_drew ?_ | refine blk_alloc ?_ _)); refine blk_put (cs := #[.int .i64 t226, .bool false]) ?_ 1 _ rfl; (with_reducible repeat (first | refine blk_drewN ?_ _ | refine blk_drew ?_ | refine blk_alloc ?_ _)); refine blk_put (cs := #[.int .i64 0, .bool false]) ?_ 0 _ rfl; (with_reducible repeat (first | refine blk_drewN ?_ _ | refine blk_drew ?_ | refine blk_alloc ?_ _)); exact BK229.out⟩
          have n3_ : Aside0 (Below w.heap.size w ((w21.setCell ⟨gb229, 0, none⟩ (.int .i64 t226)).setCell ⟨gb229, 1, none⟩ (.bool t227))) := ⟨by repeat (first | (with_reducible first | exact HB.out | apply below_alloc | apply pw_below_drewN | apply below_drew1 | refine below_set ?_ GE220.out | refine below_set ?_ GE225.out | refine below_set ?_ GE229.out) | exact HB.out)⟩
          (try clear BK220)
          (try clear BK225)
          (try clear BK229)
          (try clear HB)
          generalize ((w21.setCell ⟨gb229, 0, none⟩ (.int .i64 t226)).setCell ⟨gb229, 1, none⟩ (.bool t227)) = w25 at n0_ n1_ n2_ n3_ ⊢
          have BK220 := n0_
          have BK225 := n1_
          have BK229 := n2_
          have HB := n3_
          clear n0_ n1_ n2_ n3_
          have n0_ := Aside0.mk (blk_drew BK220.out)
          have n1_ := Aside0.mk (blk_drew BK225.out)
          have n2_ := Aside0.mk (blk_drew BK229.out)
          have n3_ := Aside0.mk (below_drew1 HB.out)
          clear BK220
          clear BK225
          clear BK229
          clear HB
          have BK220 := n0_
          have BK225 := n1_
          have BK229 := n2_
          have HB := n3_
          clear n0_ n1_ n2_ n3_
          refine start_ (n := 19) (S := fun w' => w'.cell? ⟨gb220, 0, none⟩ = some (.int .i64 a0_0) ∧ w'.cell? ⟨gb220, 1, none⟩ = some (.bool a0_1) ∧ w'.cell? ⟨gb225, 0, none⟩ = some (.int .i64 t222) ∧ w'.cell? ⟨gb225, 1, none⟩ = some (.bool t223) ∧ w'.cell? ⟨gb229, 0, none⟩ = some (.int .i64 t226) ∧ w'.cell? ⟨gb229, 1, none⟩ = some (.bool t227)) (ds := []) #[false, false, false, false, false, false, false, false, false, false, false, false, false, false, false, false, false, false, false] (by kernel_rfl) rfl rfl ⟨(blk_cell BK220.out 0).trans rfl, (blk_cell BK220.out 1).trans rfl, (blk_cell BK225.out 0).trans rfl, (blk_cell BK225.out 1).trans rfl, (blk_cell BK229.out 0).trans rfl, (blk_cell BK229.out 1).trans rfl⟩ (fun hHeld => ?_); refine with_tabW bagatellelaw01_FixedTexts.tab5 bagatellelaw01_FixedTexts.bits5 (fun HT_ HW_ => ?_)
          generalize w25.drew = w26 at BK220 BK225 BK229 HB hHeld ⊢
          refine take_ (i := 0) (N := some 23) (v := ?_) (a' := ?_) #[true, false, false, false, false, false, false, false, false, false, false, false, false, false, false, false, false, false, false] rfl rfl (take_ofW HT_.out HW_.out (by kernel_rfl)) (fun _ _ _ h => h) (Or.inl ⟨by rfl, ?_⟩) hHeld ?_ ?_
          rotate_left
          · rintro w' ⟨s0, s1, s2, s3, s4, s5⟩
            go_simp
            with_reducible rfl
          rotate_left
          · simp only [Act.put, List.setIfInBounds_toArray, List.set_cons_zero, List.set_cons_succ, i64_w, i32_w]
            rfl
          refine take_ (i := 2) (N := some 25) (v := ?_) (a' := ?_) #[true, false, true, false, false, false, false, false, false, false, false, false, false, false, false, false, false, false, false] rfl rfl (take_ofW HT_.out HW_.out (by kernel_rfl)) (fun _ _ _ h => h) (Or.inl ⟨by rfl, ?_⟩) hHeld ?_ ?_
          rotate_left
          · rintro w' ⟨s0, s1, s2, s3, s4, s5⟩
            go_simp
            with_reducible rfl
          rotate_left
          · simp only [Act.put, List.setIfInBounds_toArray, List.set_cons_zero, List.set_cons_succ, i64_w, i32_w]
            rfl
          refine one_ (i := 1) (N := some 24) #[true, true, true, false, false, false, false, false, false, false, false, false, false, false, false, false, false, false, false] rfl rfl (one_of HT_.out (by kernel_rfl)) (by decide) (fun K hK => ?_)
          refine goes_ Try.func67 (by kernel_rfl) rfl #[.agg #[.int .i64 a0_0, .bool a0_1]] (by rfl) rfl rfl (by (try simp only [List.map_toArray, List.map_cons, List.map_nil]); first | done | rfl | (simp only [List.length_drop, List.length_take]; rfl)) ?_
          with_reducible refine (fixed_Text.calls a0_0 a0_1 t230 _ A9.out).mono ?_
          rintro e w27 ⟨rfl, hb⟩
          refine ⟨_, rfl, ?_⟩
          have n0_ := Aside0.mk (blk_below (g := gb220) (o := .cells #[.int .i64 a0_0, .bool a0_1] 23 (0, 0)) (by (with_reducible repeat (first | refine blk_drewN ?_ _ | refine blk_drew ?_ | refine blk_alloc ?_ _)); exact BK220.out) hb)
          have n1_ := Aside0.mk (blk_below (g := gb225) (o := .cells #[.int .i64 t222, .bool t223] 23 (0, 0)) (by (with_reducible repeat (first | refine blk_drewN ?_ _ | refine blk_drew ?_ | refine blk_alloc ?_ _)); exact BK225.out) hb)
          have n2_ := Aside0.mk (blk_below (g := gb229) (o := .cells #[.int .i64 t226, .bool t227] 23 (0, 0)) (by (with_reducible repeat (first | refine blk_drewN ?_ _ | refine blk_drew ?_ | refine blk_alloc ?_ _)); exact BK229.out) hb)
          have n3_ := Aside0.mk (below_step (by repeat (first | (with_reducible first | exact HB.out | apply below_alloc | apply pw_below_drewN | apply below_drew1 | refine below_set ?_ GE220.out | refine below_set ?_ GE225.out | refine below_set ?_ GE229.out) | exact HB.out)) hb)
          clear BK220
          clear BK225
          clear BK229
          clear HB
          have BK220 := n0_
          have BK225 := n1_
          have BK229 := n2_
          have HB := n3_
          clear n0_ n1_ n2_ n3_
          (try clear hb)
          (try clear hb2)
          (try clear hk)
          (try clear hi)
          refine hK.out _ _ ⟨(blk_cell BK220.out 0).trans rfl, (blk_cell BK220.out 1).trans rfl, (blk_cell BK225.out 0).trans rfl, (blk_cell BK225.out 1).trans rfl, (blk_cell BK229.out 0).trans rfl, (blk_cell BK229.out 1).trans rfl⟩ (fun hHeld => ?_)
          clear hK K
          refine norm_ (a' := ?_) ?_ ?_
          rotate_left
          · show Act.put _ (some 24) _ = _
            simp only [Act.put, List.setIfInBounds_toArray, List.set_cons_zero, List.set_cons_succ, i64_w, i32_w]
            rfl
          refine one_ (i := 3) (N := some 26) #[true, true, true, true, false, false, false, false, false, false, false, false, false, false, false, false, false, false, false] rfl rfl (one_of HT_.out (by kernel_rfl)) (by decide) (fun K hK => ?_)
          refine goes_ Try.func68 (by kernel_rfl) rfl #[.agg #[.int .i64 a0_0, .bool a0_1]] (by rfl) rfl rfl (by (try simp only [List.map_toArray, List.map_cons, List.map_nil]); first | done | rfl | (simp only [List.length_drop, List.length_take]; rfl)) ?_
          with_reducible refine (bagatelleref01_Text.calls k a0_0 a0_1 t231 _ A10.out).mono ?_
          rintro e w28 ⟨rfl, hb⟩
          refine ⟨_, rfl, ?_⟩
          have n0_ := Aside0.mk (blk_below (g := gb220) (o := .cells #[.int .i64 a0_0, .bool a0_1] 23 (0, 0)) (by (with_reducible repeat (first | refine blk_drewN ?_ _ | refine blk_drew ?_ | refine blk_alloc ?_ _)); exact BK220.out) hb)
          have n1_ := Aside0.mk (blk_below (g := gb225) (o := .cells #[.int .i64 t222, .bool t223] 23 (0, 0)) (by (with_reducible repeat (first | refine blk_drewN ?_ _ | refine blk_drew ?_ | refine blk_alloc ?_ _)); exact BK225.out) hb)
          have n2_ := Aside0.mk (blk_below (g := gb229) (o := .cells #[.int .i64 t226, .bool t227] 23 (0, 0)) (by (with_reducible repeat (first | refine blk_drewN ?_ _ | refine blk_drew ?_ | refine blk_alloc ?_ _)); exact BK229.out) hb)
          have n3_ := Aside0.mk (below_step (by repeat (first | (with_reducible first | exact HB.out | apply below_alloc | apply pw_below_drewN | apply below_drew1 | refine below_set ?_ GE220.out | refine below_set ?_ GE225.out | refine below_set ?_ GE229.out) | exact HB.out)) hb)
          clear BK220
          clear BK225
          clear BK229
          clear HB
          have BK220 := n0_
          have BK225 := n1_
          have BK229 := n2_
          have HB := n3_
          clear n0_ n1_ n2_ n3_
          (try clear hb)
          (try clear hb2)
          (try clear hk)
          (try clear hi)
          refine hK.out _ _ ⟨(blk_cell BK220.out 0).trans rfl, (blk_cell BK220.out 1).trans rfl, (blk_cell BK225.out 0).trans rfl, (blk_cell BK225.out 1).trans rfl, (blk_cell BK229.out 0).trans rfl, (blk_cell BK229.out 1).trans rfl⟩ (fun hHeld => ?_)
          clear hK K
          refine norm_ (a' := ?_) ?_ ?_
          rotate_left
          · show Act.put _ (some 26) _ = _
            simp only [Act.put, List.setIfInBounds_toArray, List.set_cons_zero, List.set_cons_succ, i64_w, i32_w]
            rfl
          refine pure_ (i := 4) (N := some 27) (v := ?_) (a' := ?_) #[true, true, true, true, true, false, false, false, false, false, false, false, false, false, false, false, false, false, false] rfl rfl (any_of HT_.out (by kernel_rfl)) (fun _ _ _ h => h) (Or.inl ⟨by rfl, ?_⟩) ?_ ?_
          rotate_left
          · intro w'
            go_simp
            with_reducible rfl
          rotate_left
          · simp only [Act.put, List.setIfInBounds_toArray, List.set_cons_zero, List.set_cons_succ, i64_w, i32_w]
            rfl
          refine pure_ (i := 5) (N := some 28) (v := ?_) (a' := ?_) #[true, true, true, true, true, true, false, false, false, false, false, false, false, false, false, false, false, false, false] rfl rfl (any_of HT_.out (by kernel_rfl)) (fun _ _ _ h => h) (Or.inl ⟨by rfl, ?_⟩) ?_ ?_
          rotate_left
          · intro w'
            go_simp
            with_reducible rfl
          rotate_left
          · simp only [Act.put, List.setIfInBounds_toArray, List.set_cons_zero, List.set_cons_succ, i64_w, i32_w]
            rfl
          refine take_ (i := 6) (N := some 29) (v := ?_) (a' := ?_) #[true, true, true, true, true, true, true, false, false, false, false, false, false, false, false, false, false, false, false] rfl rfl (take_ofW HT_.out HW_.out (by kernel_rfl)) (fun _ _ _ h => h) (Or.inl ⟨by rfl, ?_⟩) hHeld ?_ ?_
          rotate_left
          · rintro w' ⟨s0, s1, s2, s3, s4, s5⟩
            go_simp
            with_reducible rfl
          rotate_left
          · simp only [Act.put, List.setIfInBounds_toArray, List.set_cons_zero, List.set_cons_succ, i64_w, i32_w]
            rfl
          refine take_ (i := 7) (N := some 30) (v := ?_) (a' := ?_) #[true, true, true, true, true, true, true, true, false, false, false, false, false, false, false, false, false, false, false] rfl rfl (take_ofW HT_.out HW_.out (by kernel_rfl)) (fun _ _ _ h => h) (Or.inl ⟨by rfl, ?_⟩) hHeld ?_ ?_
          rotate_left
          · rintro w' ⟨s0, s1, s2, s3, s4, s5⟩
            go_simp
            with_reducible rfl
          rotate_left
          · simp only [Act.put, List.setIfInBounds_toArray, List.set_cons_zero, List.set_cons_succ, i64_w, i32_w]
            rfl
          refine pure_ (i := 8) (N := some 31) (v := ?_) (a' := ?_) #[true, true, true, true, true, true, true, true, true, false, false, false, false, false, false, false, false, false, false] rfl rfl (any_of HT_.out (by kernel_rfl)) (fun _ _ _ h => h) (Or.inl ⟨by rfl, ?_⟩) ?_ ?_
          rotate_left
          · intro w'
            go_simp
            with_reducible rfl
          rotate_left
          · simp only [Act.put, List.setIfInBounds_toArray, List.set_cons_zero, List.set_cons_succ, i64_w, i32_w]
            rfl
          refine pure_ (i := 9) (N := some 32) (v := ?_) (a' := ?_) #[true, true, true, true, true, true, true, true, true, true, false, false, false, false, false, false, false, false, false] rfl rfl (any_of HT_.out (by kernel_rfl)) (fun _ _ _ h => h) (Or.inl ⟨by rfl, ?_⟩) ?_ ?_
          rotate_left
          · intro w'
            go_simp
            with_reducible rfl
          rotate_left
          · simp only [Act.put, List.setIfInBounds_toArray, List.set_cons_zero, List.set_cons_succ, i64_w, i32_w]
            rfl
          refine pure_ (i := 10) (N := some 33) (v := ?_) (a' := ?_) #[true, true, true, true, true, true, true, true, true, true, true, false, false, false, false, false, false, false, false] rfl rfl (any_of HT_.out (by kernel_rfl)) (fun _ _ _ h => h) (Or.inl ⟨by rfl, ?_⟩) ?_ ?_
          rotate_left
          · intro w'
            go_simp
            with_reducible rfl
          rotate_left
          · simp only [Act.put, List.setIfInBounds_toArray, List.set_cons_zero, List.set_cons_succ, i64_w, i32_w]
            rfl
          refine pure_ (i := 11) (N := some 34) (v := ?_) (a' := ?_) #[true, true, true, true, true, true, true, true, true, true, true, true, false, false, false, false, false, false, false] rfl rfl (any_of HT_.out (by kernel_rfl)) (fun _ _ _ h => h) (Or.inl ⟨by rfl, ?_⟩) ?_ ?_
          rotate_left
          · intro w'
            go_simp
            with_reducible rfl
          rotate_left
          · simp only [Act.put, List.setIfInBounds_toArray, List.set_cons_zero, List.set_cons_succ, i64_w, i32_w]
            rfl
          refine pure_ (i := 12) (N := some 35) (v := ?_) (a' := ?_) #[true, true, true, true, true, true, true, true, true, true, true, true, true, false, false, false, false, false, false] rfl rfl (any_of HT_.out (by kernel_rfl)) (fun _ _ _ h => h) (Or.inl ⟨by rfl, ?_⟩) ?_ ?_
          rotate_left
          · intro w'
            go_simp
            with_reducible rfl
          rotate_left
          · simp only [Act.put, List.setIfInBounds_toArray, List.set_cons_zero, List.set_cons_succ, i64_w, i32_w]
            rfl
          refine pure_ (i := 13) (N := some 36) (v := ?_) (a' := ?_) #[true, true, true, true, true, true, true, true, true, true, true, true, true, true, false, false, false, false, false] rfl rfl (any_of HT_.out (by kernel_rfl)) (fun _ _ _ h => h) (Or.inl ⟨by rfl, ?_⟩) ?_ ?_
          rotate_left
          · intro w'
            go_simp
            with_reducible rfl
          rotate_left
          · simp only [Act.put, List.setIfInBounds_toArray, List.set_cons_zero, List.set_cons_succ, i64_w, i32_w]
            rfl
          refine pure_ (i := 14) (N := some 37) (v := ?_) (a' := ?_) #[true, true, true, true, true, true, true, true, true, true, true, true, true, true, true, false, false, false, false] rfl rfl (any_of HT_.out (by kernel_rfl)) (fun _ _ _ h => h) (Or.inl ⟨by rfl, ?_⟩) ?_ ?_
          rotate_left
          · intro w'
            go_simp
            with_reducible rfl
          rotate_left
          · simp only [Act.put, List.setIfInBounds_toArray, List.set_cons_zero, List.set_cons_succ, i64_w, i32_w]
            rfl
          refine pure_ (i := 15) (N := some 38) (v := ?_) (a' := ?_) #[true, true, true, true, true, true, true, true, true, true, true, true, true, true, true, true, false, false, false] rfl rfl (any_of HT_.out (by kernel_rfl)) (fun _ _ _ h => h) (Or.inl ⟨by rfl, ?_⟩) ?_ ?_
          rotate_left
          · intro w'
            go_simp
            with_reducible rfl
          rotate_left
          · simp only [Act.put, List.setIfInBounds_toArray, List.set_cons_zero, List.set_cons_succ, i64_w, i32_w]
            rfl
          refine one_ (i := 16) (N := some 39) #[true, true, true, true, true, true, true, true, true, true, true, true, true, true, true, true, true, false, false] rfl rfl (one_of HT_.out (by kernel_rfl)) (by decide) (fun K hK => ?_)
          refine goes_ Try.func23 (by kernel_rfl) rfl #[] (by rfl) rfl rfl (by (try simp only [List.map_toArray, List.map_cons, List.map_nil]); first | done | rfl | (simp only [List.length_drop, List.length_take]; rfl)) ?_
          with_reducible refine (bagatellelaw01_awake.calls k  t232 _ A14.out).mono ?_
          rintro e w29 ⟨rfl, hb⟩
          refine ⟨_, rfl, ?_⟩
          have n0_ := Aside0.mk (blk_below (g := gb220) (o := .cells #[.int .i64 a0_0, .bool a0_1] 23 (0, 0)) (by (with_reducible repeat (first | refine blk_drewN ?_ _ | refine blk_drew ?_ | refine blk_alloc ?_ _)); exact BK220.out) hb)
          have n1_ := Aside0.mk (blk_below (g := gb225) (o := .cells #[.int .i64 t222, .bool t223] 23 (0, 0)) (by (with_reducible repeat (first | refine blk_drewN ?_ _ | refine blk_drew ?_ | refine blk_alloc ?_ _)); exact BK225.out) hb)
          have n2_ := Aside0.mk (blk_below (g := gb229) (o := .cells #[.int .i64 t226, .bool t227] 23 (0, 0)) (by (with_reducible repeat (first | refine blk_drewN ?_ _ | refine blk_drew ?_ | refine blk_alloc ?_ _)); exact BK229.out) hb)
          have n3_ := Aside0.mk (below_step (by repeat (first | (with_reducible first | exact HB.out | apply below_alloc | apply pw_below_drewN | apply below_drew1 | refine below_set ?_ GE220.out | refine below_set ?_ GE225.out | refine below_set ?_ GE229.out) | exact HB.out)) hb)
          clear BK220
          clear BK225
          clear BK229
          clear HB
          have BK220 := n0_
          have BK225 := n1_
          have BK229 := n2_
          have HB := n3_
          clear n0_ n1_ n2_ n3_
          (try clear hb)
          (try clear hb2)
          (try clear hk)
          (try clear hi)
          refine hK.out _ _ ⟨(blk_cell BK220.out 0).trans rfl, (blk_cell BK220.out 1).trans rfl, (blk_cell BK225.out 0).trans rfl, (blk_cell BK225.out 1).trans rfl, (blk_cell BK229.out 0).trans rfl, (blk_cell BK229.out 1).trans rfl⟩ (fun hHeld => ?_)
          clear hK K
          refine norm_ (a' := ?_) ?_ ?_
          rotate_left
          · show Act.put _ (some 39) _ = _
            simp only [Act.put, List.setIfInBounds_toArray, List.set_cons_zero, List.set_cons_succ, i64_w, i32_w]
            rfl
          refine pure_ (i := 17) (N := some 40) (v := ?_) (a' := ?_) #[true, true, true, true, true, true, true, true, true, true, true, true, true, true, true, true, true, true, false] rfl rfl (any_of HT_.out (by kernel_rfl)) (fun _ _ _ h => h) (Or.inl ⟨by rfl, ?_⟩) ?_ ?_
          rotate_left
          · intro w'
            go_simp
            with_reducible rfl
          rotate_left
          · simp only [Act.put, List.setIfInBounds_toArray, List.set_cons_zero, List.set_cons_succ, i64_w, i32_w]
            rfl
          refine pure_ (i := 18) (N := some 4) (v := ?_) (a' := ?_) #[true, true, true, true, true, true, true, true, true, true, true, true, true, true, true, true, true, true, true] rfl rfl (any_of HT_.out (by kernel_rfl)) (fun _ _ _ h => h) (Or.inl ⟨by rfl, ?_⟩) ?_ ?_
          rotate_left
          · intro w'
            go_simp
            with_reducible rfl
          rotate_left
          · simp only [Act.put, List.setIfInBounds_toArray, List.set_cons_zero, List.set_cons_succ, i64_w, i32_w]
            rfl
          refine done_ (done_of HT_.out (by kernel_rfl)) ?_
          try go_wp2
          go_ret
          exact ⟨by first | rfl | (simp [errW_none, errW_some] <;> rfl) | (simp [*, errW_none, errW_some] <;> rfl), by repeat (first | (with_reducible first | exact HB.out | apply below_alloc | apply pw_below_drewN | apply below_drew1 | refine below_set ?_ GE220.out | refine below_set ?_ GE225.out | refine below_set ?_ GE229.out) | exact HB.out)⟩
        · rw [if_neg c13] at H
          have c13b0 : (t224 == t228) = false := beq_eq_false_iff_ne.mpr c13
          have c13b1 : (t224 != t228) = true := bne_iff_ne.mpr c13
          exact absurd H (by simp)
      · rw [if_neg c12] at H
        have c12b0 : (t222 == t226 && (t223 == t227)) = false := by simpa using c12
        (try (have c12b1 : decide (t222 = t226 && (t223 == t227)) = false := by simpa using c12))
        (try (have c12b2 : (t222 == t226 && (t223 == t227)) = false := by simpa using c12))
        (try (have c12b3 : ¬ (t222 = t226 && (t223 == t227)) := by simpa using c12))
        clear c12
        exact absurd H (by simp)
    · rw [if_neg c11] at H
      have c11b0 : (t230.toList == t231.toList) = false := beq_eq_false_iff_ne.mpr c11
      have c11b1 : (t230.toList != t231.toList) = true := bne_iff_ne.mpr c11
      exact absurd H (by simp)
end Go.Proofs.Ytenpiaafkmfjfaa.B

end
section
namespace Go.Proofs.Ytenpiaafkmfjfaa.B
open Go.RowKit
theorem texts_f (k : Nat) (hk : 2200 ≤ k) (v : Int) (f : Bool) (s : ByteArray) (hv : I64 v) : bagatellelaw01_FixedTexts.f k v f s = some true := by
  unfold bagatellelaw01_FixedTexts.f
  by_cases h : (s.size : Int) > 200
  · rw [if_pos h, awake_f k (by omega)]; rfl
  · rw [if_neg h, parse_f k (by omega) s (by omega), parse_r k (by omega) s (by omega), ← parse_same, text_f f hv, text_r f hv k (by omega), awake_f k (by omega)]
    generalize parseF s.data.toList = p
    rw [Option.bind_some, Option.bind_some, Option.bind_some, Option.bind_some]
    rw [if_pos (by rw [bl, bl]; rfl), if_pos (by simp), if_pos rfl]
    rfl
theorem fixedTexts_walk (v : Int) (f : Bool) (s : ByteArray) (w : World) (hv : I64 v) :
    Calls Try.prog 12 #[.agg #[.int .i64 v, .bool f], .string s] w fun e w' => e = .returned (.bool true) ∧ Below w.heap.size w w' :=
  bagatellelaw01_FixedTexts.calls 2200 v f s true w (texts_f 2200 (Nat.le_refl _) v f s hv)
end Go.Proofs.Ytenpiaafkmfjfaa.B

end
section
namespace Go.Proofs.Ytenpiaafkmfjfaa.B
open Go.ChangeShapes Go.WideShapes Go.ChangeAt Go.RowKit Go.Joins
open Go.ChangeMaps (open_string shut_string)
set_option linter.unusedVariables false
set_option maxRecDepth 100000 in
theorem fixedTexts_lifted (os : Os) (started : os.Started) (H : Type) (enc : TypeId × Value → H) :
    ReturnsInHanded {} Try.checked os 12 .any (Rows.fixedTextsSpec.pre6 enc Try.prog Try.f12 Rows.fixedTextsRow.domain false) (Rows.fixedTextsSpec.post enc Try.prog Try.f12 false true false false) := by
  refine returnsInHanded_of_change_sized (C := Try.checked) own started (by kernel_rfl) Try.func12
    (ChangeSpec.witness6 (enc := enc) (C := Try.checked) false ⟨#[], #[.agg #[.int .i64 0, .bool false], .string ByteArray.empty], []⟩ 8 (by kernel_rfl) (by kernel_rfl) (by kernel_rfl) (by kernel_rfl)) ?_
  intro W base args ds gs before hval0 hW hcnd hsz0 _
  have hsz : (DataW.weightsEach Try.prog (Try.f12.params.toList ++ Rows.fixedTextsSpec.plain.varTypes Try.prog) (ds ++ gs)).all (· ≤ reachBytes) = true := hsz0
  have hval : ∀ (j : Nat) t v, Try.f12.params[j]? = some t → args[j]? = some v → Value.okWide Try.prog W .any base t v := hval0
  have hW' := hW
  obtain ⟨p, q, hA0, hV, rfl, hfz, hnd⟩ := hW
  have hA : DataW.TrodAll enc Try.prog W 0 (fun _ => true) true Try.f12.params.toList args.toList ds p := hA0
  rw [Try.params12] at hA hval hsz
  obtain ⟨v0, vs0, d0, ds0, p0, q0, hargs, rfl, rfl, h0, r0⟩ := trodAll_cons hA
  obtain ⟨v1, vs1, d1, ds1, p1, q1, rfl, rfl, rfl, h1, r1⟩ := trodAll_cons r0
  obtain ⟨rfl, rfl, rfl⟩ := trodAll_nil r1
  obtain rfl : args = #[v0, v1] := by cases args; simp_all
  obtain ⟨rfl, rfl⟩ := trodVars_none hV
  obtain ⟨a0, f0, rfl, rfl, rfl, w0⟩ := open_num (hval 0 23 v0 rfl rfl) h0
  obtain ⟨a1, rfl, rfl, rfl, y1⟩ := open_string Try.underlying9 (hval 1 9 v1 rfl rfl) h1
  clear hA0 hval0 hsz0 hsz
  refine (fixedTexts_walk a0 f0 a1 W (wf_i64 w0)).mono fun e W' ⟨he, bel⟩ => ?_
  subst he
  exact ⟨_, rfl, _, _, _, [], _, [], hW', trodAll_mk1 (shut_bool Try.underlying4 _), (trodAll_cons_mk (shut_num a0 f0 w0) (trodAll_cons_mk (shut_string Try.underlying9 y1) trodAll_mk0)), rfl, bel.frame _, fun h => by cases h⟩
theorem fixedTexts_over : Rows.fixedTextsRow.holds Try.pinned (OpenSpec.ofChange Rows.fixedTextsSpec) :=
  OpenClaim.holds_of_wide 12 Try.f12 rfl rfl rfl rfl rfl rfl rfl ⟨rfl, rfl, rfl, rfl, rfl⟩ rfl rfl rfl rfl rfl (by kernel_rfl) Try.func12 (by kernel_rfl)
    (of_decide_eq_true (by kernel_rfl)) (by unfold Func.isWrapper; first | (rw [if_pos (by decide +kernel)]; kernel_rfl) | (rw [if_neg (by decide +kernel)]; exact ⟨rfl, rfl⟩))
    (fun os started H enc _ => fixedTexts_lifted os started H enc)
end Go.Proofs.Ytenpiaafkmfjfaa.B
namespace Go.Proofs.Ytenpiaafkmfjfaa
theorem fixedTexts_holds : Rows.FixedTextsSaid := B.fixedTexts_over
end Go.Proofs.Ytenpiaafkmfjfaa

end
#print axioms Go.Proofs.Ytenpiaafkmfjfaa.fixedTexts_holds
