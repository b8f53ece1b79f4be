/- FixedKnown: part 3 of the proof. -/
import Derived.Test.YtenpiaafkmfjfaaQFixedKnown2
import Derived.RegionTactic
import Derived.Shelf.Strings.Builder1
import Derived.Laws.AppendOwn
import Derived.Laws.CopyOwn
section
namespace Go.Proofs.Ytenpiaafkmfjfaa.B
open Go.RowKit Go.Proofs.YtenpiaafkmfjfaaW.PrintWords Go.Proofs.YtenpiaafkmfjfaaW.PrintLast Go.Proofs.YtenpiaafkmfjfaaW.PrintMore
attribute [local go_sem] max2_int min2_int max_two min_two max_three min_three max_four min_four
set_option linter.unusedVariables false
set_option linter.unusedSimpArgs false
attribute [local go_sem high] eqA58
def fixed_product.f (a0 : Int) (a1 : Int) : Option (Bool × Int × Int) := (fixed_of.f a0).bind fun bt143 => ((fixed_of.f a1).bind fun bt146 => ((bits_Mul64.f bt143.2.1 bt146.2.1).bind fun bt151 => (some ((bt143.1 != bt146.1), bt151.2, bt151.1))))
set_option maxHeartbeats 8000000 in
set_option maxRecDepth 100000 in
theorem fixed_product.calls (a0 : Int) (a1 : Int) (r1 : Bool) (r2 : Int) (r3 : Int) (w : World) (h : fixed_product.f a0 a1 = some (r1, r2, r3)) :
    Calls Try.prog 74 #[.int .i64 a0, .int .i64 a1] w fun e w' => e = .returned (.agg #[.bool r1, .int .u64 r2, .int .u64 r3]) ∧ Below w.heap.size w w' := by
  have hu60 := Try.underlying60
  have hu58 := Try.underlying58
  have HB := Aside0.mk (Below.refl w.heap.size w)
  have H : ((fixed_of.f a0).bind fun bt143 => ((fixed_of.f a1).bind fun bt146 => ((bits_Mul64.f bt143.2.1 bt146.2.1).bind fun bt151 => (some ((bt143.1 != bt146.1), bt151.2, bt151.1))))) = some (r1, r2, r3) := h
  clear h
  replace H := Option.bind_eq_some_iff.mp H
  obtain ⟨⟨t143, t144, t145⟩, A30, H⟩ := H
  replace H : ((fixed_of.f a1).bind fun bt146 => ((bits_Mul64.f t144 bt146.2.1).bind fun bt151 => (some ((t143 != bt146.1), bt151.2, bt151.1)))) = some (r1, r2, r3) := H
  have A3 := Aside0.mk A30
  clear A30
  replace H := Option.bind_eq_some_iff.mp H
  obtain ⟨⟨t146, t147, t148⟩, A40, H⟩ := H
  replace H : ((bits_Mul64.f t144 t147).bind fun bt151 => (some ((t143 != t146), bt151.2, bt151.1))) = some (r1, r2, r3) := H
  have A4 := Aside0.mk A40
  clear A40
  replace H := Option.bind_eq_some_iff.mp H
  obtain ⟨⟨t151, t152⟩, A50, H⟩ := H
  replace H : (some ((t143 != t146), t152, t151)) = some (r1, r2, r3) := H
  have A5 := Aside0.mk A50
  clear A50
  simp only [Option.some.injEq, Prod.mk.injEq] at H
  obtain ⟨rfl, rfl, rfl⟩ := H
  go_enter Try.func74, Try.ntmps74
  go_wp2_with (first | ((with_reducible refine gate_dst (N := 4) rfl ?_); refine box_event ?hg (N := 4) ?hd (cs := #[.bool false, .int .u64 0, .int .u64 0]) (t := 60) ?hr ?_; (case hd => rfl); (case hg => rfl); (case hr => first | (go_simp; done) | (go_simp; rfl)); intro gb142 hg w6 hbox hb; have n0_ := Aside0.mk (below_step (by repeat (first | (with_reducible first | exact HB.out | apply below_alloc | apply pw_below_drewN | apply below_drew1) | exact HB.out)) hb); have n1_ := Aside0.mk (hbox); have n2_ := Aside0.mk ((by rw [hg]; exact (below_size (by repeat (first | (with_reducible first | exact HB.out | apply below_alloc | apply pw_below_drewN | apply below_drew1) | exact HB.out))) : w.heap.size ≤ gb142)); have n3_ := Aside0.mk ((by rw [hg]; exact (below_size (by repeat (first | (with_reducible first | exact HB.out | apply below_alloc | apply pw_below_drewN | apply below_drew1) | exact HB.out))) : w.heap.size ≤ gb142)); clear HB; have HB := n0_; have BK142 := n1_; have GW142 := n2_; have GE142 := n3_; clear n0_ n1_ n2_ n3_; clear hb hbox hg) | ((with_reducible refine gate_callee (f := 82) rfl ?_); refine goesL_ (some 10) rfl rfl Try.func82 (by kernel_rfl) rfl #[.int .i64 a0] rfl (by (try simp only [List.map_toArray, List.map_cons, List.map_nil]); first | done | rfl | (simp only [List.length_drop, List.length_take]; rfl)) ?_; (with_reducible refine (fixed_of.calls a0 t143 t144 t145 _ A3.out).mono ?_); rintro e w7 ⟨rfl, hb⟩; refine ⟨_, rfl, ?_⟩; have n0_ := Aside0.mk (blk_below (g := gb142) (o := .cells #[.bool false, .int .u64 0, .int .u64 0] 60 (0, 0)) (by (with_reducible repeat (first | refine blk_drewN ?_ _ | refine blk_drew ?_ | refine blk_alloc ?_ _)); exact BK142.out) hb); have n1_ := Aside0.mk (below_step (by repeat (first | (with_reducible first | exact HB.out | apply below_alloc | apply pw_below_drewN | apply below_drew1 | refine below_set ?_ GE142.out) | exact HB.out)) hb); clear BK142; clear HB; have BK142 := n0_; have HB := n1_; clear n0_ n1_; (try clear hb); (try clear hb2); (try clear hk); (try clear hi)) | ((with_reducible refine gate_callee (f := 82) rfl ?_); refine goesL_ (some 12) rfl rfl Try.func82 (by kernel_rfl) rfl #[.int .i64 a1] rfl (by (try simp only [List.map_toArray, List.map_cons, List.map_nil]); first | done | rfl | (simp only [List.length_drop, List.length_take]; rfl)) ?_; (with_reducible refine (fixed_of.calls a1 t146 t147 t148 _ A4.out).mono ?_); rintro e w8 ⟨rfl, hb⟩; refine ⟨_, rfl, ?_⟩; have n0_ := Aside0.mk (blk_below (g := gb142) (o := .cells #[.bool false, .int .u64 0, .int .u64 0] 60 (0, 0)) (by (with_reducible repeat (first | refine blk_drewN ?_ _ | refine blk_drew ?_ | refine blk_alloc ?_ _)); exact BK142.out) hb); have n1_ := Aside0.mk (below_step (by repeat (first | (with_reducible first | exact HB.out | apply below_alloc | apply pw_below_drewN | apply below_drew1 | refine below_set ?_ GE142.out) | exact HB.out)) hb); clear BK142; clear HB; have BK142 := n0_; have HB := n1_; clear n0_ n1_; (try clear hb); (try clear hb2); (try clear hk); (try clear hi)) | ((with_reducible refine gate_dst (N := 5) rfl ?_); refine box_event ?hg (N := 5) ?hd (cs := #[.bool false, .int .u64 0, .int .u64 0]) (t := 60) ?hr ?_; (case hd => rfl); (case hg => rfl); (case hr => first | (go_simp; done) | (go_simp; rfl)); intro gb149 hg w9 hbox hb; have n0_ := Aside0.mk (blk_below (g := gb142) (o := .cells #[.bool false, .int .u64 0, .int .u64 0] 60 (0, 0)) (by (with_reducible repeat (first | refine blk_drewN ?_ _ | refine blk_drew ?_ | refine blk_alloc ?_ _)); exact BK142.out) hb); have n1_ := Aside0.mk (below_step (by repeat (first | (with_reducible first | exact HB.out | apply below_alloc | apply pw_below_drewN | apply below_drew1 | refine below_set ?_ GE142.out) | exact HB.out)) hb); have n2_ := Aside0.mk (hbox); have n3_ := Aside0.mk ((by rw [hg]; exact (below_size (by repeat (first | (with_reducible first | exact HB.out | apply below_alloc | apply pw_below_drewN | apply below_drew1 | refine below_set ?_ GE142.out) | exact HB.out))) : w.heap.size ≤ gb149)); have n4_ := Aside0.mk ((by rw [hg]; exact (below_size (by repeat (first | (with_reducible first | exact HB.out | apply below_alloc | apply pw_below_drewN | apply below_drew1 | refine below_set ?_ GE142.out) | exact HB.out))) : w.heap.size ≤ gb149)); have n5_ := Aside0.mk ((by rw [hg]; exact Nat.ne_of_lt (blk_lt (g := gb142) (o := .cells #[.bool false, .int .u64 0, .int .u64 0] 60 (0, 0)) (by (with_reducible repeat (first | refine blk_drewN ?_ _ | refine blk_drew ?_ | refine blk_alloc ?_ _)); exact BK142.out)) : gb142 ≠ gb149)); have n6_ := Aside0.mk ((by rw [hg]; exact Nat.ne_of_gt (blk_lt (g := gb142) (o := .cells #[.bool false, .int .u64 0, .int .u64 0] 60 (0, 0)) (by (with_reducible repeat (first | refine blk_drewN ?_ _ | refine blk_drew ?_ | refine blk_alloc ?_ _)); exact BK142.out)) : gb149 ≠ gb142)); clear BK142; clear HB; have BK142 := n0_; have HB := n1_; have BK149 := n2_; have GW149 := n3_; have GE149 := n4_; have NB142_149 := n5_; have NB149_142 := n6_; clear n0_ n1_ n2_ n3_ n4_ n5_ n6_; clear hb hbox hg) | ((with_reducible refine gate_dst (N := 6) rfl ?_); refine box_event ?hg (N := 6) ?hd (cs := #[.bool false, .int .u64 0, .int .u64 0]) (t := 60) ?hr ?_; (case hd => rfl); (case hg => rfl); (case hr => first | (go_simp; done) | (go_simp; rfl)); intro gb150 hg w10 hbox hb; have n0_ := Aside0.mk (blk_below (g := gb142) (o := .cells #[.bool false, .int .u64 0, .int .u64 0] 60 (0, 0)) (by (with_reducible repeat (first | refine blk_drewN ?_ _ | refine blk_drew ?_ | refine blk_alloc ?_ _)); exact BK142.out) hb); have n1_ := Aside0.mk (blk_below (g := gb149) (o := .cells #[.bool false, .int .u64 0, .int .u64 0] 60 (0, 0)) (by (with_reducible repeat (first | refine blk_drewN ?_ _ | refine blk_drew ?_ | refine blk_alloc ?_ _)); exact BK149.out) hb); have n2_ := Aside0.mk (below_step (by repeat (first | (with_reducible first | exact HB.out | apply below_alloc | apply pw_below_drewN | apply below_drew1 | refine below_set ?_ GE142.out | refine below_set ?_ GE149.out) | exact HB.out)) hb); have n3_ := Aside0.mk (hbox); have n4_ := Aside0.mk ((by rw [hg]; exact (below_size (by repeat (first | (with_reducible first | exact HB.out | apply below_alloc | apply pw_below_drewN | apply below_drew1 | refine below_set ?_ GE142.out | refine below_set ?_ GE149.out) | exact HB.out))) : w.heap.size ≤ gb150)); have n5_ := Aside0.mk ((by rw [hg]; exact (below_size (by repeat (first | (with_reducible first | exact HB.out | apply below_alloc | apply pw_below_drewN | apply below_drew1 | refine below_set ?_ GE142.out | refine below_set ?_ GE149.out) | exact HB.out))) : w.heap.size ≤ gb150)); have n6_ := Aside0.mk ((by rw [hg]; exact Nat.ne_of_lt (blk_lt (g := gb142) (o := .cells #[.bool false, .int .u64 0, .int .u64 0] 60 (0, 0)) (by (with_reducible repeat (first | refine blk_drewN ?_ _ | refine blk_drew ?_ | refine blk_alloc ?_ _)); exact BK142.out)) : gb142 ≠ gb150)); have n7_ := Aside0.mk ((by rw [hg]; exact Nat.ne_of_gt (blk_lt (g := gb142) (o := .cells #[.bool false, .int .u64 0, .int .u64 0] 60 (0, 0)) (by (with_reducible repeat (first | refine blk_drewN ?_ _ | refine blk_drew ?_ | refine blk_alloc ?_ _)); exact BK142.out)) : gb150 ≠ gb142)); have n8_ := Aside0.mk ((by rw [hg]; exact Nat.ne_of_lt (blk_lt (g := gb149) (o := .cells #[.bool false, .int .u64 0, .int .u64 0] 60 (0, 0)) (by (with_reducible repeat (first | refine blk_drewN ?_ _ | refine blk_drew ?_ | refine blk_alloc ?_ _)); exact BK149.out)) : gb149 ≠ gb150)); have n9_ := Aside0.mk ((by rw [hg]; exact Nat.ne_of_gt (blk_lt (g := gb149) (o := .cells #[.bool false, .int .u64 0, .int .u64 0] 60 (0, 0)) (by (with_reducible repeat (first | refine blk_drewN ?_ _ | refine blk_drew ?_ | refine blk_alloc ?_ _)); exact BK149.out)) : gb150 ≠ gb149)); clear BK142; clear BK149; clear HB; have BK142 := n0_; have BK149 := n1_; have HB := n2_; have BK150 := n3_; have GW150 := n4_; have GE150 := n5_; have NB142_150 := n6_; have NB150_142 := n7_; have NB149_150 := n8_; have NB150_149 := n9_; clear n0_ n1_ n2_ n3_ n4_ n5_ n6_ n7_ n8_ n9_; clear hb hbox hg; have hnb11 := NB149_142.out; have hnc11 := NB142_149.out; have hnb12 := NB149_150.out; have hnc12 := NB150_149.out; have hcz13_0 : w10.cell? ⟨gb149, 0, none⟩ = some (.bool false) := (blk_cell BK149.out 0).trans rfl; have hcz13_1 : w10.cell? ⟨gb149, 1, none⟩ = some (.int .u64 0) := (blk_cell BK149.out 1).trans rfl; have hcz13_2 : w10.cell? ⟨gb149, 2, none⟩ = some (.int .u64 0) := (blk_cell BK149.out 2).trans rfl; have hfz13_0 := blk_frozen BK149.out 0; have hfz13_1 := blk_frozen BK149.out 1; have hfz13_2 := blk_frozen BK149.out 2; have hnb14 := NB150_142.out; have hnc14 := NB142_150.out; have hcz15_0 : w10.cell? ⟨gb150, 0, none⟩ = some (.bool false) := (blk_cell BK150.out 0).trans rfl; have hcz15_1 : w10.cell? ⟨gb150, 1, none⟩ = some (.int .u64 0) := (blk_cell BK150.out 1).trans rfl; have hcz15_2 : w10.cell? ⟨gb150, 2, none⟩ = some (.int .u64 0) := (blk_cell BK150.out 2).trans rfl; have hfz15_0 := blk_frozen BK150.out 0; have hfz15_1 := blk_frozen BK150.out 1; have hfz15_2 := blk_frozen BK150.out 2) | ((with_reducible refine gate_callee (f := 107) rfl ?_); refine goesL_ (some 20) rfl rfl Try.func107 (by kernel_rfl) rfl #[.int .u64 t144, .int .u64 t147] rfl (by (try simp only [List.map_toArray, List.map_cons, List.map_nil]); first | done | rfl | (simp only [List.length_drop, List.length_take]; rfl)) ?_; (with_reducible refine (bits_Mul64.calls t144 t147 t151 t152 _ A5.out).mono ?_); rintro e w' ⟨rfl, ⟨nd, rfl⟩⟩; refine ⟨_, rfl, ?_⟩; have hcz16_0 : w10.cell? ⟨gb142, 0, none⟩ = some (.bool false) := (blk_cell BK142.out 0).trans rfl; have hcz16_1 : w10.cell? ⟨gb142, 1, none⟩ = some (.int .u64 0) := (blk_cell BK142.out 1).trans rfl; have hcz16_2 : w10.cell? ⟨gb142, 2, none⟩ = some (.int .u64 0) := (blk_cell BK142.out 2).trans rfl; have hfz16_0 := blk_frozen BK142.out 0; have hfz16_1 := blk_frozen BK142.out 1; have hfz16_2 := blk_frozen BK142.out 2))
  refine bodyPost_ret (results_cell_row rfl _ _ gb142 60 #[.bool (t143 != t146), .int .u64 t152, .int .u64 t151] (0, 0) _ rfl (by (with_reducible repeat (first | refine blk_drewN ?_ _ | refine blk_drew ?_ | refine blk_alloc ?_ _)); refine blk_put (cs := #[.bool (t143 != t146), .int .u64 t152, .int .u64 0]) ?_ 2 _ rfl; (with_reducible repeat (first | refine blk_drewN ?_ _ | refine blk_drew ?_ | refine blk_alloc ?_ _)); refine blk_put (cs := #[.bool (t143 != t146), .int .u64 0, .int .u64 0]) ?_ 1 _ rfl; (with_reducible repeat (first | refine blk_drewN ?_ _ | refine blk_drew ?_ | refine blk_alloc ?_ _)); refine blk_put (cs := #[.bool false, .int .u64 0, .int .u64 0]) ?_ 0 _ rfl; (with_reducible repeat (first | refine blk_drewN ?_ _ | refine blk_drew ?_ | refine blk_alloc ?_ _)); refine blk_far ?_ NB142_150.out _; (with_reducible repeat (first | refine blk_drewN ?_ _ | refine blk_drew ?_ | refine blk_alloc ?_ _)); refine blk_far ?_ NB142_150.out _; (with_reducible repeat (first | refine blk_drewN ?_ _ | refine blk_drew ?_ | refine blk_alloc ?_ _)); refine blk_far ?_ NB142_150.out _; (with_reducible repeat (first | refine blk_drewN ?_ _ | refine blk_drew ?_ | refine blk_alloc ?_ _)); refine blk_far ?_ NB142_149.out _; (with_reducible repeat (first | refine blk_drewN ?_ _ | refine blk_drew ?_ | refine blk_alloc ?_ _)); refine blk_far ?_ NB142_149.out _; (with_reducible repeat (first | refine blk_drewN ?_ _ | refine blk_drew ?_ | refine blk_alloc ?_ _)); refine blk_far ?_ NB142_149.out _; (with_reducible repeat (first | refine blk_drewN ?_ _ | refine blk_drew ?_ | refine blk_alloc ?_ _)); exact BK142.out) Try.underlying60 rfl (by kernel_rfl)) rfl ?_
  exact ⟨by first | rfl | (simp [errW_none, errW_some] <;> rfl) | (simp [*, errW_none, errW_some] <;> rfl), by repeat (first | (with_reducible first | exact HB.out | apply below_alloc | apply pw_below_drewN | apply below_drew1 | refine below_set ?_ GE142.out | refine below_set ?_ GE149.out | refine below_set ?_ GE150.out) | exact HB.out)⟩
def cmp_Or_int.l0 : Nat → Int → List Int → Int → Int → Option (Int)
  | 0, _, _, _, _ => none
  | k + 1, x3, x6, x7, x8 => if x8 < x7 then (if 0 ≤ x8 then (if x8 < (x6.length : Int) then (if (rd x6 x8) = x3 then (cmp_Or_int.l0 k x3 x6 x7 (wrap64 (x8 + 1))) else (some (rd x6 x8))) else (none)) else (none)) else (some x3)
def cmp_Or_int.f (k : Nat) (l0 : List Int) : Option (Int) := cmp_Or_int.l0 k 0 l0 (l0.length : Int) 0
set_option maxHeartbeats 8000000 in
set_option maxRecDepth 100000 in
theorem cmp_Or_int.calls (k : Nat) (A0 : Option Addr) (c0 : Nat) (l0 : List Int) (r : Int) (w : World) (hr0 : Kd.C (Kd.int .i64) w A0 l0.length l0) (hc0 : l0.length ≤ c0) (h : cmp_Or_int.f k l0 = some r) :
    Calls Try.prog 117 #[.slice A0 l0.length c0] w fun e w' => e = .returned (.int .i64 r) ∧ Drawn0 w w' := by
  have HR0 := Aside0.mk hr0
  have HC0 := Aside0.mk hc0
  clear hr0 hc0
  have H : (cmp_Or_int.l0 k 0 l0 (l0.length : Int) 0) = some r := h
  clear h
  have H' := Aside0.mk H
  clear H
  go_enter Try.func117, Try.ntmps117
  go_wp2
  go_loopg [8] k (fun kq v8 w' => ∃ (x8_1 : Int), v8 = .int .i64 x8_1 ∧ Aside0 (cmp_Or_int.l0 kq 0 l0 (l0.length : Int) x8_1 = some r) ∧ Aside0 (kq ≤ k) ∧ Drawn0 w w')
  case atStart => exact ⟨(0), (by first | rfl | (simp; done) | (simp [*]; done)), H', ⟨Nat.le_refl _⟩, by repeat (first | exact Drawn0.refl _ | apply Drawn0.step)⟩
  case round =>
    clear H'
    try clear c1
    obtain ⟨x8_1, rfl, HA, HK1, ⟨m1, rfl⟩⟩ := hrel
    cases gk with
    | zero => exact absurd HA.out (by simp [cmp_Or_int.l0])
    | succ k1 =>
      have H := HA.out
      clear HA
      simp only [cmp_Or_int.l0] at H
      by_cases c2 : x8_1 < (l0.length : Int)
      · rw [if_pos c2] at H
        have c2b0 : decide (x8_1 < (l0.length : Int)) = true := decide_eq_true c2
        clear c2
        by_cases c3 : 0 ≤ x8_1
        · rw [if_pos c3] at H
          have c3b0 : decide (0 ≤ x8_1) = true := decide_eq_true c3
          clear c3
          by_cases c4 : x8_1 < (l0.length : Int)
          · rw [if_pos c4] at H
            have c4b0 : decide (x8_1 < (l0.length : Int)) = true := decide_eq_true c4
            clear c4
            by_cases c5 : (rd l0 x8_1) = 0
            · rw [if_pos c5] at H
              have c5b0 : ((rd l0 x8_1) == 0) = true := beq_iff_eq.mpr c5
              have c5b1 : ((rd l0 x8_1) != 0) = false := bne_eq_false_iff_eq.mpr c5
              clear c5
              have H' := Aside0.mk H
              clear H
              have p153 : 0 ≤ (x8_1 : Int) := of_decide_eq_true (by first | (with_reducible assumption) | assumption)
              have q153 : x8_1 < (l0.length : Int) := of_decide_eq_true (by first | (with_reducible assumption) | assumption)
              obtain ⟨ad153, e153, hx153_0⟩ := Kd.at_int HR0.out x8_1 p153 q153
              cases e153
              replace p153 := eq_true p153
              replace q153 := eq_true q153
              go_wp2
              go_roundg k1
              case measure => have := HK1.out; omega
              case rel => exact ⟨(wrap64 (x8_1 + 1)), (by first | rfl | (simp; done) | (simp [*]; done)), H', ⟨by have := HK1.out; omega⟩, by repeat (first | exact Drawn0.refl _ | apply Drawn0.step)⟩
            · rw [if_neg c5] at H
              have c5b0 : ((rd l0 x8_1) == 0) = false := beq_eq_false_iff_ne.mpr c5
              have c5b1 : ((rd l0 x8_1) != 0) = true := bne_iff_ne.mpr c5
              obtain rfl := Option.some.inj H
              have p153 : 0 ≤ (x8_1 : Int) := of_decide_eq_true (by first | (with_reducible assumption) | assumption)
              have q153 : x8_1 < (l0.length : Int) := of_decide_eq_true (by first | (with_reducible assumption) | assumption)
              obtain ⟨ad153, e153, hx153_0⟩ := Kd.at_int HR0.out x8_1 p153 q153
              cases e153
              replace p153 := eq_true p153
              replace q153 := eq_true q153
              go_wp2
              go_ret
              exact ⟨by first | rfl | (simp; done) | (simp [*]; done), by repeat (first | exact Drawn0.refl _ | apply Drawn0.step)⟩
          · rw [if_neg c4] at H
            exact absurd H (by simp)
        · rw [if_neg c3] at H
          exact absurd H (by simp)
      · rw [if_neg c2] at H
        have c2b0 : decide (x8_1 < (l0.length : Int)) = false := decide_eq_false c2
        clear c2
        obtain rfl := Option.some.inj H
        go_wp2
        go_ret
        exact ⟨by first | rfl | (simp; done) | (simp [*]; done), by repeat (first | exact Drawn0.refl _ | apply Drawn0.step)⟩
def cmp_isNaN_uint64.f (a0 : Int) : Option (Bool) := some (a0 != a0)
set_option maxHeartbeats 8000000 in
set_option maxRecDepth 100000 in
theorem cmp_isNaN_uint64.calls (a0 : Int) (r : Bool) (w : World) (h : cmp_isNaN_uint64.f a0 = some r) :
    Calls Try.prog 121 #[.int .u64 a0] w fun e w' => e = .returned (.bool r) ∧ Drawn0 w w' := by
  have H : (some (a0 != a0)) = some r := h
  clear h
  obtain rfl := Option.some.inj H
  go_enter Try.func121, Try.ntmps121
  go_wp2
  go_ret
  exact ⟨by first | rfl | (simp; done) | (simp [*]; done), by repeat (first | exact Drawn0.refl _ | apply Drawn0.step)⟩
def cmp_Compare_uint64.f (a0 : Int) (a1 : Int) : Option (Int) := (cmp_isNaN_uint64.f a0).bind fun t154 => ((cmp_isNaN_uint64.f a1).bind fun t155 => (if t154 = true then (if t155 = true then (some 0) else (some (-1))) else (if t155 = true then (some 1) else (if a0 < a1 then (some (-1)) else (if a0 > a1 then (some 1) else (some 0))))))
set_option maxHeartbeats 8000000 in
set_option maxRecDepth 100000 in
theorem cmp_Compare_uint64.calls (a0 : Int) (a1 : Int) (r : Int) (w : World) (h : cmp_Compare_uint64.f a0 a1 = some r) :
    Calls Try.prog 118 #[.int .u64 a0, .int .u64 a1] w fun e w' => e = .returned (.int .i64 r) ∧ Drawn0 w w' := by
  have H : ((cmp_isNaN_uint64.f a0).bind fun t154 => ((cmp_isNaN_uint64.f a1).bind fun t155 => (if t154 = true then (if t155 = true then (some 0) else (some (-1))) else (if t155 = true then (some 1) else (if a0 < a1 then (some (-1)) else (if a0 > a1 then (some 1) else (some 0))))))) = some r := h
  clear h
  replace H := Option.bind_eq_some_iff.mp H
  obtain ⟨t154, A30, H⟩ := H
  replace H : ((cmp_isNaN_uint64.f a1).bind fun t155 => (if t154 = true then (if t155 = true then (some 0) else (some (-1))) else (if t155 = true then (some 1) else (if a0 < a1 then (some (-1)) else (if a0 > a1 then (some 1) else (some 0)))))) = some r := H
  have A3 := Aside0.mk A30
  clear A30
  replace H := Option.bind_eq_some_iff.mp H
  obtain ⟨t155, A40, H⟩ := H
  replace H : (if t154 = true then (if t155 = true then (some 0) else (some (-1))) else (if t155 = true then (some 1) else (if a0 < a1 then (some (-1)) else (if a0 > a1 then (some 1) else (some 0))))) = some r := H
  have A4 := Aside0.mk A40
  clear A40
  by_cases c5 : t154 = true
  · subst c5
    have H1 : (if t155 = true then (some 0) else (some (-1))) = some r := by rw [if_pos rfl] at H; exact H
    clear H
    have H := H1
    clear H1
    by_cases c6 : t155 = true
    · subst c6
      have H1 : (some 0) = some r := by rw [if_pos rfl] at H; exact H
      clear H
      have H := H1
      clear H1
      obtain rfl := Option.some.inj H
      go_enter Try.func118, Try.ntmps118
      go_wp2_with (first | ((with_reducible refine gate_callee (f := 121) rfl ?_); refine goesL_ (some 8) rfl rfl Try.func121 (by kernel_rfl) rfl #[.int .u64 a0] rfl (by (try simp only [List.map_toArray, List.map_cons, List.map_nil]); first | done | rfl | (simp only [List.length_drop, List.length_take]; rfl)) ?_; (with_reducible refine (cmp_isNaN_uint64.calls a0 true _ A3.out).mono ?_); rintro e w' ⟨rfl, ⟨nd, rfl⟩⟩; refine ⟨_, rfl, ?_⟩) | ((with_reducible refine gate_callee (f := 121) rfl ?_); refine goesL_ (some 10) rfl rfl Try.func121 (by kernel_rfl) rfl #[.int .u64 a1] rfl (by (try simp only [List.map_toArray, List.map_cons, List.map_nil]); first | done | rfl | (simp only [List.length_drop, List.length_take]; rfl)) ?_; (with_reducible refine (cmp_isNaN_uint64.calls a1 true _ A4.out).mono ?_); rintro e w' ⟨rfl, ⟨nd, rfl⟩⟩; refine ⟨_, rfl, ?_⟩))
      go_ret
      exact ⟨by first | rfl | (simp; done) | (simp [*]; done), by repeat (first | exact Drawn0.refl _ | apply Drawn0.step)⟩
    · replace c6 := Bool.eq_false_iff.mpr c6
      subst c6
      have H1 : (some (-1)) = some r := by rw [if_neg (show ¬ (false = true) by decide)] at H; exact H
      clear H
      have H := H1
      clear H1
      obtain rfl := Option.some.inj H
      go_enter Try.func118, Try.ntmps118
      go_wp2_with (first | ((with_reducible refine gate_callee (f := 121) rfl ?_); refine goesL_ (some 8) rfl rfl Try.func121 (by kernel_rfl) rfl #[.int .u64 a0] rfl (by (try simp only [List.map_toArray, List.map_cons, List.map_nil]); first | done | rfl | (simp only [List.length_drop, List.length_take]; rfl)) ?_; (with_reducible refine (cmp_isNaN_uint64.calls a0 true _ A3.out).mono ?_); rintro e w' ⟨rfl, ⟨nd, rfl⟩⟩; refine ⟨_, rfl, ?_⟩) | ((with_reducible refine gate_callee (f := 121) rfl ?_); refine goesL_ (some 10) rfl rfl Try.func121 (by kernel_rfl) rfl #[.int .u64 a1] rfl (by (try simp only [List.map_toArray, List.map_cons, List.map_nil]); first | done | rfl | (simp only [List.length_drop, List.length_take]; rfl)) ?_; (with_reducible refine (cmp_isNaN_uint64.calls a1 false _ A4.out).mono ?_); rintro e w' ⟨rfl, ⟨nd, rfl⟩⟩; refine ⟨_, rfl, ?_⟩))
      go_ret
      exact ⟨by first | rfl | (simp; done) | (simp [*]; done), by repeat (first | exact Drawn0.refl _ | apply Drawn0.step)⟩
  · replace c5 := Bool.eq_false_iff.mpr c5
    subst c5
    have H1 : (if t155 = true then (some 1) else (if a0 < a1 then (some (-1)) else (if a0 > a1 then (some 1) else (some 0)))) = some r := by rw [if_neg (show ¬ (false = true) by decide)] at H; exact H
    clear H
    have H := H1
    clear H1
    by_cases c7 : t155 = true
    · subst c7
      have H1 : (some 1) = some r := by rw [if_pos rfl] at H; exact H
      clear H
      have H := H1
      clear H1
      obtain rfl := Option.some.inj H
      go_enter Try.func118, Try.ntmps118
      go_wp2_with (first | ((with_reducible refine gate_callee (f := 121) rfl ?_); refine goesL_ (some 8) rfl rfl Try.func121 (by kernel_rfl) rfl #[.int .u64 a0] rfl (by (try simp only [List.map_toArray, List.map_cons, List.map_nil]); first | done | rfl | (simp only [List.length_drop, List.length_take]; rfl)) ?_; (with_reducible refine (cmp_isNaN_uint64.calls a0 false _ A3.out).mono ?_); rintro e w' ⟨rfl, ⟨nd, rfl⟩⟩; refine ⟨_, rfl, ?_⟩) | ((with_reducible refine gate_callee (f := 121) rfl ?_); refine goesL_ (some 10) rfl rfl Try.func121 (by kernel_rfl) rfl #[.int .u64 a1] rfl (by (try simp only [List.map_toArray, List.map_cons, List.map_nil]); first | done | rfl | (simp only [List.length_drop, List.length_take]; rfl)) ?_; (with_reducible refine (cmp_isNaN_uint64.calls a1 true _ A4.out).mono ?_); rintro e w' ⟨rfl, ⟨nd, rfl⟩⟩; refine ⟨_, rfl, ?_⟩))
      go_ret
      exact ⟨by first | rfl | (simp; done) | (simp [*]; done), by repeat (first | exact Drawn0.refl _ | apply Drawn0.step)⟩
    · replace c7 := Bool.eq_false_iff.mpr c7
      subst c7
      have H1 : (if a0 < a1 then (some (-1)) else (if a0 > a1 then (some 1) else (some 0))) = some r := by rw [if_neg (show ¬ (false = true) by decide)] at H; exact H
      clear H
      have H := H1
      clear H1
      by_cases c8 : a0 < a1
      · rw [if_pos c8] at H
        have c8b0 : decide (a0 < a1) = true := decide_eq_true c8
        clear c8
        obtain rfl := Option.some.inj H
        go_enter Try.func118, Try.ntmps118
        go_wp2_with (first | ((with_reducible refine gate_callee (f := 121) rfl ?_); refine goesL_ (some 8) rfl rfl Try.func121 (by kernel_rfl) rfl #[.int .u64 a0] rfl (by (try simp only [List.map_toArray, List.map_cons, List.map_nil]); first | done | rfl | (simp only [List.length_drop, List.length_take]; rfl)) ?_; (with_reducible refine (cmp_isNaN_uint64.calls a0 false _ A3.out).mono ?_); rintro e w' ⟨rfl, ⟨nd, rfl⟩⟩; refine ⟨_, rfl, ?_⟩) | ((with_reducible refine gate_callee (f := 121) rfl ?_); refine goesL_ (some 10) rfl rfl Try.func121 (by kernel_rfl) rfl #[.int .u64 a1] rfl (by (try simp only [List.map_toArray, List.map_cons, List.map_nil]); first | done | rfl | (simp only [List.length_drop, List.length_take]; rfl)) ?_; (with_reducible refine (cmp_isNaN_uint64.calls a1 false _ A4.out).mono ?_); rintro e w' ⟨rfl, ⟨nd, rfl⟩⟩; refine ⟨_, rfl, ?_⟩))
        go_ret
        exact ⟨by first | rfl | (simp; done) | (simp [*]; done), by repeat (first | exact Drawn0.refl _ | apply Drawn0.step)⟩
      · rw [if_neg c8] at H
        have c8b0 : decide (a0 < a1) = false := decide_eq_false c8
        clear c8
        by_cases c9 : a0 > a1
        · rw [if_pos c9] at H
          have c9b0 : decide (a1 < a0) = true := decide_eq_true c9
          clear c9
          obtain rfl := Option.some.inj H
          go_enter Try.func118, Try.ntmps118
          go_wp2_with (first | ((with_reducible refine gate_callee (f := 121) rfl ?_); refine goesL_ (some 8) rfl rfl Try.func121 (by kernel_rfl) rfl #[.int .u64 a0] rfl (by (try simp only [List.map_toArray, List.map_cons, List.map_nil]); first | done | rfl | (simp only [List.length_drop, List.length_take]; rfl)) ?_; (with_reducible refine (cmp_isNaN_uint64.calls a0 false _ A3.out).mono ?_); rintro e w' ⟨rfl, ⟨nd, rfl⟩⟩; refine ⟨_, rfl, ?_⟩) | ((with_reducible refine gate_callee (f := 121) rfl ?_); refine goesL_ (some 10) rfl rfl Try.func121 (by kernel_rfl) rfl #[.int .u64 a1] rfl (by (try simp only [List.map_toArray, List.map_cons, List.map_nil]); first | done | rfl | (simp only [List.length_drop, List.length_take]; rfl)) ?_; (with_reducible refine (cmp_isNaN_uint64.calls a1 false _ A4.out).mono ?_); rintro e w' ⟨rfl, ⟨nd, rfl⟩⟩; refine ⟨_, rfl, ?_⟩))
          go_ret
          exact ⟨by first | rfl | (simp; done) | (simp [*]; done), by repeat (first | exact Drawn0.refl _ | apply Drawn0.step)⟩
        · rw [if_neg c9] at H
          have c9b0 : decide (a1 < a0) = false := decide_eq_false c9
          clear c9
          obtain rfl := Option.some.inj H
          go_enter Try.func118, Try.ntmps118
          go_wp2_with (first | ((with_reducible refine gate_callee (f := 121) rfl ?_); refine goesL_ (some 8) rfl rfl Try.func121 (by kernel_rfl) rfl #[.int .u64 a0] rfl (by (try simp only [List.map_toArray, List.map_cons, List.map_nil]); first | done | rfl | (simp only [List.length_drop, List.length_take]; rfl)) ?_; (with_reducible refine (cmp_isNaN_uint64.calls a0 false _ A3.out).mono ?_); rintro e w' ⟨rfl, ⟨nd, rfl⟩⟩; refine ⟨_, rfl, ?_⟩) | ((with_reducible refine gate_callee (f := 121) rfl ?_); refine goesL_ (some 10) rfl rfl Try.func121 (by kernel_rfl) rfl #[.int .u64 a1] rfl (by (try simp only [List.map_toArray, List.map_cons, List.map_nil]); first | done | rfl | (simp only [List.length_drop, List.length_take]; rfl)) ?_; (with_reducible refine (cmp_isNaN_uint64.calls a1 false _ A4.out).mono ?_); rintro e w' ⟨rfl, ⟨nd, rfl⟩⟩; refine ⟨_, rfl, ?_⟩))
          go_ret
          exact ⟨by first | rfl | (simp; done) | (simp [*]; done), by repeat (first | exact Drawn0.refl _ | apply Drawn0.step)⟩
def fixed_words_compare.f (k : Nat) (a0_0 : Int) (a0_1 : Int) (a1_0 : Int) (a1_1 : Int) : Option (Int) := (cmp_Compare_uint64.f a0_1 a1_1).bind fun t158 => ((cmp_Compare_uint64.f a0_0 a1_0).bind fun t159 => ((cmp_Or_int.f k (([t158, t159] : List Int))).bind fun t163 => (some t163)))
def fixed_words_compare.T1 : Bool × List (List Nat × List Nat) := (true, [([], []), ([0], [0]), ([], []), ([2], [2]), ([1, 3], [1, 3]), ([], []), ([5], [5]), ([], []), ([7], [7]), ([6, 8, 4], [6, 8]), ([4, 9], [4, 9]), ([10, 9], [10]), ([11, 11, 0, 1, 2, 3, 4, 5, 6, 7, 8, 9, 10, 11], [11])])
def fixed_words_compare.B1 : List Nat := [0, 1, 0, 4, 15, 0, 32, 0, 128, 511, 1023, 2047, 4095]
theorem fixed_words_compare.tab1 : rtab .any (opsOf Try.f109 1) = fixed_words_compare.T1 := by kernel_rfl
theorem fixed_words_compare.bits1 : waitsOk fixed_words_compare.T1.2 fixed_words_compare.B1 = true := by kernel_rfl
set_option maxHeartbeats 8000000 in
set_option maxRecDepth 100000 in
theorem fixed_words_compare.calls (k : Nat) (a0_0 : Int) (a0_1 : Int) (a1_0 : Int) (a1_1 : Int) (r : Int) (w : World) (h : fixed_words_compare.f k a0_0 a0_1 a1_0 a1_1 = some r) :
    Calls Try.prog 109 #[.agg #[.int .u64 a0_0, .int .u64 a0_1], .agg #[.int .u64 a1_0, .int .u64 a1_1]] w fun e w' => e = .returned (.int .i64 r) ∧ Below w.heap.size w w' := by
  have hu58 := Try.underlying58
  have HB := Aside0.mk (Below.refl w.heap.size w)
  have H : ((cmp_Compare_uint64.f a0_1 a1_1).bind fun t158 => ((cmp_Compare_uint64.f a0_0 a1_0).bind fun t159 => ((cmp_Or_int.f k (([t158, t159] : List Int))).bind fun t163 => (some t163)))) = some r := h
  clear h
  replace H := Option.bind_eq_some_iff.mp H
  obtain ⟨t158, A30, H⟩ := H
  replace H : ((cmp_Compare_uint64.f a0_0 a1_0).bind fun t159 => ((cmp_Or_int.f k (([t158, t159] : List Int))).bind fun t163 => (some t163))) = some r := H
  have A3 := Aside0.mk A30
  clear A30
  replace H := Option.bind_eq_some_iff.mp H
  obtain ⟨t159, A40, H⟩ := H
  replace H : ((cmp_Or_int.f k (([t158, t159] : List Int))).bind fun t163 => (some t163)) = some r := H
  have A4 := Aside0.mk A40
  clear A40
  obtain ⟨y160, hy160⟩ : ∃ y_ : List Int, y_ = (([t158, t159] : List Int)) := ⟨_, rfl⟩
  replace H : ((cmp_Or_int.f k y160).bind fun t163 => (some t163)) = some r := by first | (rw [hy160]; with_reducible exact H) | (have H2_ := (Option.bind_some _ _).symm.trans H; rw [hy160]; with_reducible exact H2_) | (have H2_ := (Option.bind_some _ _).symm.trans H; with_reducible exact H2_) | with_reducible exact H | (rw [hy160]; exact H) | exact H
  have Ny160 := Aside0.mk hy160
  clear hy160
  replace H := Option.bind_eq_some_iff.mp H
  obtain ⟨t163, A50, H⟩ := H
  replace H : (some t163) = some r := H
  have A5 := Aside0.mk A50
  clear A50
  obtain rfl := Option.some.inj H
  go_enter Try.func109, Try.ntmps109
  try go_wp2_with (first | ((with_reducible refine gate_dst (N := 2) rfl ?_); refine box_event ?hg (N := 2) ?hd (cs := #[.int .u64 a0_0, .int .u64 a0_1]) (t := 58) ?hr ?_; (case hd => rfl); (case hg => rfl); (case hr => first | (go_simp; done) | (go_simp; rfl)); intro gb156 hg w6 hbox hb; have n0_ := Aside0.mk (below_step (by repeat (first | (with_reducible first | exact HB.out | apply below_alloc | apply pw_below_drewN | apply below_drew1) | exact HB.out)) hb); have n1_ := Aside0.mk (hbox); have n2_ := Aside0.mk ((by rw [hg]; exact (below_size (by repeat (first | (with_reducible first | exact HB.out | apply below_alloc | apply pw_below_drewN | apply below_drew1) | exact HB.out))) : w.heap.size ≤ gb156)); have n3_ := Aside0.mk ((by rw [hg]; exact (below_size (by repeat (first | (with_reducible first | exact HB.out | apply below_alloc | apply pw_below_drewN | apply below_drew1) | exact HB.out))) : w.heap.size ≤ gb156)); clear HB; have HB := n0_; have BK156 := n1_; have GW156 := n2_; have GE156 := n3_; clear n0_ n1_ n2_ n3_; clear hb hbox hg) | ((with_reducible refine gate_dst (N := 3) rfl ?_); refine box_event ?hg (N := 3) ?hd (cs := #[.int .u64 a1_0, .int .u64 a1_1]) (t := 58) ?hr ?_; (case hd => rfl); (case hg => rfl); (case hr => first | (go_simp; done) | (go_simp; rfl)); intro gb157 hg w7 hbox hb; have n0_ := Aside0.mk (blk_below (g := gb156) (o := .cells #[.int .u64 a0_0, .int .u64 a0_1] 58 (0, 0)) (by (with_reducible repeat (first | refine blk_drewN ?_ _ | refine blk_drew ?_ | refine blk_alloc ?_ _)); exact BK156.out) hb); have n1_ := Aside0.mk (below_step (by repeat (first | (with_reducible first | exact HB.out | apply below_alloc | apply pw_below_drewN | apply below_drew1 | refine below_set ?_ GE156.out) | exact HB.out)) hb); have n2_ := Aside0.mk (hbox); have n3_ := Aside0.mk ((by rw [hg]; exact (below_size (by repeat (first | (with_reducible first | exact HB.out | apply below_alloc | apply pw_below_drewN | apply below_drew1 | refine below_set ?_ GE156.out) | exact HB.out))) : w.heap.size ≤ gb157)); have n4_ := Aside0.mk ((by rw [hg]; exact (below_size (by repeat (first | (with_reducible first | exact HB.out | apply below_alloc | apply pw_below_drewN | apply below_drew1 | refine below_set ?_ GE156.out) | exact HB.out))) : w.heap.size ≤ gb157)); have n5_ := Aside0.mk ((by rw [hg]; exact Nat.ne_of_lt (blk_lt (g := gb156) (o := .cells #[.int .u64 a0_0, .int .u64 a0_1] 58 (0, 0)) (by (with_reducible repeat (first | refine blk_drewN ?_ _ | refine blk_drew ?_ | refine blk_alloc ?_ _)); exact BK156.out)) : gb156 ≠ gb157)); have n6_ := Aside0.mk ((by rw [hg]; exact Nat.ne_of_gt (blk_lt (g := gb156) (o := .cells #[.int .u64 a0_0, .int .u64 a0_1] 58 (0, 0)) (by (with_reducible repeat (first | refine blk_drewN ?_ _ | refine blk_drew ?_ | refine blk_alloc ?_ _)); exact BK156.out)) : gb157 ≠ gb156)); clear BK156; clear HB; have BK156 := n0_; have HB := n1_; have BK157 := n2_; have GW157 := n3_; have GE157 := n4_; have NB156_157 := n5_; have NB157_156 := n6_; clear n0_ n1_ n2_ n3_ n4_ n5_ n6_; clear hb hbox hg))
  have n0_ := Aside0.mk (blk_drew BK156.out)
  have n1_ := Aside0.mk (blk_drew BK157.out)
  have n2_ := Aside0.mk (below_drew1 HB.out)
  clear BK156
  clear BK157
  clear HB
  have BK156 := n0_
  have BK157 := n1_
  have HB := n2_
  clear n0_ n1_ n2_
  refine start_ (n := 13) (S := fun w' => w'.cell? ⟨gb156, 0, none⟩ = some (.int .u64 a0_0) ∧ w'.cell? ⟨gb156, 1, none⟩ = some (.int .u64 a0_1) ∧ w'.cell? ⟨gb157, 0, none⟩ = some (.int .u64 a1_0) ∧ w'.cell? ⟨gb157, 1, none⟩ = some (.int .u64 a1_1)) (ds := []) #[false, false, false, false, false, false, false, false, false, false, false, false, false] (by kernel_rfl) rfl rfl ⟨(blk_cell BK156.out 0).trans rfl, (blk_cell BK156.out 1).trans rfl, (blk_cell BK157.out 0).trans rfl, (blk_cell BK157.out 1).trans rfl⟩ (fun hHeld => ?_); refine with_tabW fixed_words_compare.tab1 fixed_words_compare.bits1 (fun HT_ HW_ => ?_)
  generalize w7.drew = w8 at BK156 BK157 HB hHeld ⊢
  refine pure_ (i := 0) (N := some 5) (v := ?_) (a' := ?_) #[true, false, false, false, false, false, false, false, false, false, false, false, false] rfl rfl (any_of HT_.out (by kernel_rfl)) (fun _ _ _ h => h) (Or.inl ⟨by rfl, ?_⟩) ?_ ?_
  rotate_left
  · intro w'
    go_simp
    with_reducible rfl
  rotate_left
  · simp only [Act.put, List.setIfInBounds_toArray, List.set_cons_zero, List.set_cons_succ, i64_w, i32_w]
    rfl
  refine pure_ (i := 2) (N := some 7) (v := ?_) (a' := ?_) #[true, false, true, false, false, false, false, false, false, false, false, false, false] rfl rfl (any_of HT_.out (by kernel_rfl)) (fun _ _ _ h => h) (Or.inl ⟨by rfl, ?_⟩) ?_ ?_
  rotate_left
  · intro w'
    go_simp
    with_reducible rfl
  rotate_left
  · simp only [Act.put, List.setIfInBounds_toArray, List.set_cons_zero, List.set_cons_succ, i64_w, i32_w]
    rfl
  refine pure_ (i := 5) (N := some 10) (v := ?_) (a' := ?_) #[true, false, true, false, false, true, false, false, false, false, false, false, false] rfl rfl (any_of HT_.out (by kernel_rfl)) (fun _ _ _ h => h) (Or.inl ⟨by rfl, ?_⟩) ?_ ?_
  rotate_left
  · intro w'
    go_simp
    with_reducible rfl
  rotate_left
  · simp only [Act.put, List.setIfInBounds_toArray, List.set_cons_zero, List.set_cons_succ, i64_w, i32_w]
    rfl
  refine pure_ (i := 7) (N := some 12) (v := ?_) (a' := ?_) #[true, false, true, false, false, true, false, true, false, false, false, false, false] rfl rfl (any_of HT_.out (by kernel_rfl)) (fun _ _ _ h => h) (Or.inl ⟨by rfl, ?_⟩) ?_ ?_
  rotate_left
  · intro w'
    go_simp
    with_reducible rfl
  rotate_left
  · simp only [Act.put, List.setIfInBounds_toArray, List.set_cons_zero, List.set_cons_succ, i64_w, i32_w]
    rfl
  refine take_ (i := 1) (N := some 6) (v := ?_) (a' := ?_) #[true, true, true, false, false, true, false, true, false, false, false, false, false] rfl rfl (take_ofW HT_.out HW_.out (by kernel_rfl)) (fun _ _ _ h => h) (Or.inl ⟨by rfl, ?_⟩) hHeld ?_ ?_
  rotate_left
  · rintro w' ⟨s0, s1, s2, s3⟩
    go_simp
    with_reducible rfl
  rotate_left
  · simp only [Act.put, List.setIfInBounds_toArray, List.set_cons_zero, List.set_cons_succ, i64_w, i32_w]
    rfl
  refine take_ (i := 3) (N := some 8) (v := ?_) (a' := ?_) #[true, true, true, true, false, true, false, true, false, false, false, false, false] rfl rfl (take_ofW HT_.out HW_.out (by kernel_rfl)) (fun _ _ _ h => h) (Or.inl ⟨by rfl, ?_⟩) hHeld ?_ ?_
  rotate_left
  · rintro w' ⟨s0, s1, s2, s3⟩
    go_simp
    with_reducible rfl
  rotate_left
  · simp only [Act.put, List.setIfInBounds_toArray, List.set_cons_zero, List.set_cons_succ, i64_w, i32_w]
    rfl
  refine take_ (i := 6) (N := some 11) (v := ?_) (a' := ?_) #[true, true, true, true, false, true, true, true, false, false, false, false, false] rfl rfl (take_ofW HT_.out HW_.out (by kernel_rfl)) (fun _ _ _ h => h) (Or.inl ⟨by rfl, ?_⟩) hHeld ?_ ?_
  rotate_left
  · rintro w' ⟨s0, s1, s2, s3⟩
    go_simp
    with_reducible rfl
  rotate_left
  · simp only [Act.put, List.setIfInBounds_toArray, List.set_cons_zero, List.set_cons_succ, i64_w, i32_w]
    rfl
  refine take_ (i := 8) (N := some 13) (v := ?_) (a' := ?_) #[true, true, true, true, false, true, true, true, true, false, false, false, false] rfl rfl (take_ofW HT_.out HW_.out (by kernel_rfl)) (fun _ _ _ h => h) (Or.inl ⟨by rfl, ?_⟩) hHeld ?_ ?_
  rotate_left
  · rintro w' ⟨s0, s1, s2, s3⟩
    go_simp
    with_reducible rfl
  rotate_left
  · simp only [Act.put, List.setIfInBounds_toArray, List.set_cons_zero, List.set_cons_succ, i64_w, i32_w]
    rfl
  refine one_ (i := 4) (N := some 9) #[true, true, true, true, true, true, true, true, true, false, false, false, false] rfl rfl (one_of HT_.out (by kernel_rfl)) (by decide) (fun K hK => ?_)
  refine goes_ Try.func118 (by kernel_rfl) rfl #[.int .u64 a0_1, .int .u64 a1_1] (by rfl) rfl rfl (by (try simp only [List.map_toArray, List.map_cons, List.map_nil]); first | done | rfl | (simp only [List.length_drop, List.length_take]; rfl)) ?_
  with_reducible refine (cmp_Compare_uint64.calls a0_1 a1_1 t158 _ A3.out).mono ?_
  rintro e w' ⟨rfl, ⟨nd, rfl⟩⟩
  refine ⟨_, rfl, ?_⟩
  refine hK.out _ _ ⟨(blk_cell BK156.out 0).trans rfl, (blk_cell BK156.out 1).trans rfl, (blk_cell BK157.out 0).trans rfl, (blk_cell BK157.out 1).trans rfl⟩ (fun hHeld => ?_)
  clear hK K
  refine norm_ (a' := ?_) ?_ ?_
  rotate_left
  · show Act.put _ (some 9) _ = _
    simp only [Act.put, List.setIfInBounds_toArray, List.set_cons_zero, List.set_cons_succ, i64_w, i32_w]
    rfl
  refine one_ (i := 9) (N := some 14) #[true, true, true, true, true, true, true, true, true, true, false, false, false] rfl rfl (one_of HT_.out (by kernel_rfl)) (by decide) (fun K hK => ?_)
  refine goes_ Try.func118 (by kernel_rfl) rfl #[.int .u64 a0_0, .int .u64 a1_0] (by rfl) rfl rfl (by (try simp only [List.map_toArray, List.map_cons, List.map_nil]); first | done | rfl | (simp only [List.length_drop, List.length_take]; rfl)) ?_
  with_reducible refine (cmp_Compare_uint64.calls a0_0 a1_0 t159 _ A4.out).mono ?_
  rintro e w' ⟨rfl, ⟨nd, rfl⟩⟩
  refine ⟨_, rfl, ?_⟩
  refine hK.out _ _ ⟨(blk_cell BK156.out 0).trans rfl, (blk_cell BK156.out 1).trans rfl, (blk_cell BK157.out 0).trans rfl, (blk_cell BK157.out 1).trans rfl⟩ (fun hHeld => ?_)
  clear hK K
  refine norm_ (a' := ?_) ?_ ?_
  rotate_left
  · show Act.put _ (some 14) _ = _
    simp only [Act.put, List.setIfInBounds_toArray, List.set_cons_zero, List.set_cons_succ, i64_w, i32_w]
    rfl
  refine one_ (i := 10) (N := some 15) #[true, true, true, true, true, true, true, true, true, true, true, false, false] rfl rfl (one_of HT_.out (by kernel_rfl)) (by decide) (fun K hK => ?_)
  refine Kd.R_lit_step (Kd.int .i64) _ 3 ?hg (N := 15) ?hd (xs := ([t158, t159] : List Int)) (inner := [.int .i64 t158, .int .i64 t159]) (ok := fun _ => True) (okp := fun _ => True) ?hr ?hp (fun _ hk => hk) trivial (Below.refl _ _) (Nat.le_refl _) (by simp) ?_; (case hd => rfl); (case hg => rfl); (case hr => first | (go_simp; done) | (go_simp; rfl)); (case hp => exact (Reps.one (show Kd.M (Kd.int .i64) _ _ _ t158 [.int .i64 t158] from rfl) (Reps.one (show Kd.M (Kd.int .i64) _ _ _ t159 [.int .i64 t159] from rfl) (Reps.none _ _))))
  intro v161 w9 ho10 hb hg_ hnew_
  clear hg_ hnew_
  (first | rw [← Ny160.out] at ho10 | (simp only [Int.reduceToNat] at ho10; rw [← Ny160.out] at ho10))
  have n0_ := Aside0.mk (Kd.R_lower ho10 (below_size (by repeat (first | (with_reducible first | exact HB.out | apply below_alloc | apply pw_below_drewN | apply below_drew1 | refine below_set ?_ GE156.out | refine below_set ?_ GE157.out) | exact HB.out))))
  have n1_ := Aside0.mk (blk_below (g := gb156) (o := .cells #[.int .u64 a0_0, .int .u64 a0_1] 58 (0, 0)) (by (with_reducible repeat (first | refine blk_drewN ?_ _ | refine blk_drew ?_ | refine blk_alloc ?_ _)); exact BK156.out) hb)
  have n2_ := Aside0.mk (blk_below (g := gb157) (o := .cells #[.int .u64 a1_0, .int .u64 a1_1] 58 (0, 0)) (by (with_reducible repeat (first | refine blk_drewN ?_ _ | refine blk_drew ?_ | refine blk_alloc ?_ _)); exact BK157.out) hb)
  have n3_ := Aside0.mk (below_step (by repeat (first | (with_reducible first | exact HB.out | apply below_alloc | apply pw_below_drewN | apply below_drew1 | refine below_set ?_ GE156.out | refine below_set ?_ GE157.out) | exact HB.out)) hb)
  clear BK156
  clear BK157
  clear HB
  have HO162 := n0_
  have BK156 := n1_
  have BK157 := n2_
  have HB := n3_
  clear n0_ n1_ n2_ n3_
  clear hb ho10
  obtain ⟨Ao11, co11, eo11⟩ := Kd.R_slice HO162.out
  (first | subst eo11 | (injection eo11 with f1_ f2_ f3_; have f4_ := f1_.symm; have f5_ := f3_.symm; clear f1_ f2_ f3_; subst f4_; subst f5_))
  refine hK.out _ _ ⟨(blk_cell BK156.out 0).trans rfl, (blk_cell BK156.out 1).trans rfl, (blk_cell BK157.out 0).trans rfl, (blk_cell BK157.out 1).trans rfl⟩ (fun hHeld => ?_)
  clear hK K
  refine norm_ (a' := ?_) ?_ ?_
  rotate_left
  · show Act.put _ (some 15) _ = _
    simp only [Act.put, List.setIfInBounds_toArray, List.set_cons_zero, List.set_cons_succ, i64_w, i32_w]
    rfl
  refine one_ (i := 11) (N := some 16) #[true, true, true, true, true, true, true, true, true, true, true, true, false] rfl rfl (one_of HT_.out (by kernel_rfl)) (by decide) (fun K hK => ?_)
  refine goes_ Try.func117 (by kernel_rfl) rfl #[.slice Ao11 y160.length co11] (by rfl) rfl rfl (by (try simp only [List.map_toArray, List.map_cons, List.map_nil]); first | done | rfl | (simp only [List.length_drop, List.length_take]; rfl)) ?_
  with_reducible refine (cmp_Or_int.calls k _ _ y160 t163 _ ?side1 ?side2 A5.out).mono ?_
  (case side1 => repeat (first | exact (Kd.R_reads' HO162.out).2.2 | (with_reducible refine Kd.C_alloc ?_ _) | (with_reducible refine Kd.C_drewN ?_ _) | (with_reducible refine Kd.C_drew ?_)))
  (case side2 => exact (Kd.R_reads' HO162.out).2.1)
  rintro e w' ⟨rfl, ⟨nd, rfl⟩⟩
  refine ⟨_, rfl, ?_⟩
  refine hK.out _ _ ⟨(blk_cell BK156.out 0).trans rfl, (blk_cell BK156.out 1).trans rfl, (blk_cell BK157.out 0).trans rfl, (blk_cell BK157.out 1).trans rfl⟩ (fun hHeld => ?_)
  clear hK K
  refine norm_ (a' := ?_) ?_ ?_
  rotate_left
  · show Act.put _ (some 16) _ = _
    simp only [Act.put, List.setIfInBounds_toArray, List.set_cons_zero, List.set_cons_succ, i64_w, i32_w]
    rfl
  refine pure_ (i := 12) (N := some 4) (v := ?_) (a' := ?_) #[true, true, true, true, true, true, true, true, true, true, true, true, true] rfl rfl (any_of HT_.out (by kernel_rfl)) (fun _ _ _ h => h) (Or.inl ⟨by rfl, ?_⟩) ?_ ?_
  rotate_left
  · intro w'
    go_simp
    with_reducible rfl
  rotate_left
  · simp only [Act.put, List.setIfInBounds_toArray, List.set_cons_zero, List.set_cons_succ, i64_w, i32_w]
    rfl
  refine done_ (done_of HT_.out (by kernel_rfl)) ?_
  try go_wp2
  go_ret
  exact ⟨by first | rfl | (simp [errW_none, errW_some] <;> rfl) | (simp [*, errW_none, errW_some] <;> rfl), by repeat (first | (with_reducible first | exact HB.out | apply below_alloc | apply pw_below_drewN | apply below_drew1 | refine below_set ?_ GE156.out | refine below_set ?_ GE157.out) | exact HB.out)⟩
def fixed_exact_plus.f (k : Nat) (a0_0 : Bool) (a0_1 : Int) (a0_2 : Int) (a1_0 : Bool) (a1_1 : Int) (a1_2 : Int) : Option (Bool × Int × Int) := if (a0_0 == a1_0) = true then (if add64c a0_1 a1_1 0 ≤ 1 then (some (a0_0, add64s a0_1 a1_1 0, add64s a0_2 a1_2 (add64c a0_1 a1_1 0))) else (none)) else ((fixed_words_compare.f k a0_1 a0_2 a1_1 a1_2).bind fun t167 => (if t167 < 0 then (some (a1_0, sub64s a1_1 a0_1 0, sub64s a1_2 a0_2 (sub64c a1_1 a0_1 0))) else (some (a0_0, sub64s a0_1 a1_1 0, sub64s a0_2 a1_2 (sub64c a0_1 a1_1 0)))))
set_option maxHeartbeats 8000000 in
set_option maxRecDepth 100000 in
theorem fixed_exact_plus.calls (k : Nat) (a0_0 : Bool) (a0_1 : Int) (a0_2 : Int) (a1_0 : Bool) (a1_1 : Int) (a1_2 : Int) (r1 : Bool) (r2 : Int) (r3 : Int) (w : World) (h : fixed_exact_plus.f k a0_0 a0_1 a0_2 a1_0 a1_1 a1_2 = some (r1, r2, r3)) :
    Calls Try.prog 75 #[.agg #[.bool a0_0, .int .u64 a0_1, .int .u64 a0_2], .agg #[.bool a1_0, .int .u64 a1_1, .int .u64 a1_2]] w fun e w' => e = .returned (.agg #[.bool r1, .int .u64 r2, .int .u64 r3]) ∧ Below w.heap.size w w' := by
  have hu60 := Try.underlying60
  have hu58 := Try.underlying58
  have hx1080 := @ext108_0
  have hx1081 := @ext108_1
  have hx1100 := @ext110_0
  have hx1101 := @ext110_1
  have HB := Aside0.mk (Below.refl w.heap.size w)
  have H : (if (a0_0 == a1_0) = true then (if add64c a0_1 a1_1 0 ≤ 1 then (some (a0_0, add64s a0_1 a1_1 0, add64s a0_2 a1_2 (add64c a0_1 a1_1 0))) else (none)) else ((fixed_words_compare.f k a0_1 a0_2 a1_1 a1_2).bind fun t167 => (if t167 < 0 then (some (a1_0, sub64s a1_1 a0_1 0, sub64s a1_2 a0_2 (sub64c a1_1 a0_1 0))) else (some (a0_0, sub64s a0_1 a1_1 0, sub64s a0_2 a1_2 (sub64c a0_1 a1_1 0)))))) = some (r1, r2, r3) := h
  clear h
  by_cases c3 : (a0_0 == a1_0) = true
  · rw [if_pos c3] at H
    have c3b0 : (a0_0 == a1_0) = true := c3
    (try (have c3b1 : decide (a0_0 = a1_0) = true := by simpa using c3))
    (try (have c3b2 : (a0_0 == a1_0) = true := by simpa using c3))
    clear c3
    by_cases c4 : add64c a0_1 a1_1 0 ≤ 1
    · rw [if_pos c4] at H
      have c4b0 := eq_true c4
      have c4b1 : decide (add64c a0_1 a1_1 0 ≤ 1) = true := decide_eq_true c4
      clear c4
      simp only [Option.some.injEq, Prod.mk.injEq] at H
      obtain ⟨rfl, rfl, rfl⟩ := H
      go_enter Try.func75, Try.ntmps75
      go_wp2_with (first | ((with_reducible refine gate_dst (N := 2) rfl ?_); refine box_event ?hg (N := 2) ?hd (cs := #[.bool a0_0, .int .u64 a0_1, .int .u64 a0_2]) (t := 60) ?hr ?_; (case hd => rfl); (case hg => rfl); (case hr => first | (go_simp; done) | (go_simp; rfl)); intro gb164 hg w5 hbox hb; have n0_ := Aside0.mk (below_step (by repeat (first | (with_reducible first | exact HB.out | apply below_alloc | apply pw_below_drewN | apply below_drew1) | exact HB.out)) hb); have n1_ := Aside0.mk (hbox); have n2_ := Aside0.mk ((by rw [hg]; exact (below_size (by repeat (first | (with_reducible first | exact HB.out | apply below_alloc | apply pw_below_drewN | apply below_drew1) | exact HB.out))) : w.heap.size ≤ gb164)); have n3_ := Aside0.mk ((by rw [hg]; exact (below_size (by repeat (first | (with_reducible first | exact HB.out | apply below_alloc | apply pw_below_drewN | apply below_drew1) | exact HB.out))) : w.heap.size ≤ gb164)); clear HB; have HB := n0_; have BK164 := n1_; have GW164 := n2_; have GE164 := n3_; clear n0_ n1_ n2_ n3_; clear hb hbox hg) | ((with_reducible refine gate_dst (N := 3) rfl ?_); refine box_event ?hg (N := 3) ?hd (cs := #[.bool a1_0, .int .u64 a1_1, .int .u64 a1_2]) (t := 60) ?hr ?_; (case hd => rfl); (case hg => rfl); (case hr => first | (go_simp; done) | (go_simp; rfl)); intro gb165 hg w6 hbox hb; have n0_ := Aside0.mk (blk_below (g := gb164) (o := .cells #[.bool a0_0, .int .u64 a0_1, .int .u64 a0_2] 60 (0, 0)) (by (with_reducible repeat (first | refine blk_drewN ?_ _ | refine blk_drew ?_ | refine blk_alloc ?_ _)); exact BK164.out) hb); have n1_ := Aside0.mk (below_step (by repeat (first | (with_reducible first | exact HB.out | apply below_alloc | apply pw_below_drewN | apply below_drew1 | refine below_set ?_ GE164.out) | exact HB.out)) hb); have n2_ := Aside0.mk (hbox); have n3_ := Aside0.mk ((by rw [hg]; exact (below_size (by repeat (first | (with_reducible first | exact HB.out | apply below_alloc | apply pw_below_drewN | apply below_drew1 | refine below_set ?_ GE164.out) | exact HB.out))) : w.heap.size ≤ gb165)); have n4_ := Aside0.mk ((by rw [hg]; exact (below_size (by repeat (first | (with_reducible first | exact HB.out | apply below_alloc | apply pw_below_drewN | apply below_drew1 | refine below_set ?_ GE164.out) | exact HB.out))) : w.heap.size ≤ gb165)); have n5_ := Aside0.mk ((by rw [hg]; exact Nat.ne_of_lt (blk_lt (g := gb164) (o := .cells #[.bool a0_0, .int .u64 a0_1, .int .u64 a0_2] 60 (0, 0)) (by (with_reducible repeat (first | refine blk_drewN ?_ _ | refine blk_drew ?_ | refine blk_alloc ?_ _)); exact BK164.out)) : gb164 ≠ gb165)); have n6_ := Aside0.mk ((by rw [hg]; exact Nat.ne_of_gt (blk_lt (g := gb164) (o := .cells #[.bool a0_0, .int .u64 a0_1, .int .u64 a0_2] 60 (0, 0)) (by (with_reducible repeat (first | refine blk_drewN ?_ _ | refine blk_drew ?_ | refine blk_alloc ?_ _)); exact BK164.out)) : gb165 ≠ gb164)); clear BK164; clear HB; have BK164 := n0_; have HB := n1_; have BK165 := n2_; have GW165 := n3_; have GE165 := n4_; have NB164_165 := n5_; have NB165_164 := n6_; clear n0_ n1_ n2_ n3_ n4_ n5_ n6_; clear hb hbox hg) | ((with_reducible refine gate_dst (N := 4) rfl ?_); refine box_event ?hg (N := 4) ?hd (cs := #[.bool false, .int .u64 0, .int .u64 0]) (t := 60) ?hr ?_; (case hd => rfl); (case hg => rfl); (case hr => first | (go_simp; done) | (go_simp; rfl)); intro gb166 hg w7 hbox hb; have n0_ := Aside0.mk (blk_below (g := gb164) (o := .cells #[.bool a0_0, .int .u64 a0_1, .int .u64 a0_2] 60 (0, 0)) (by (with_reducible repeat (first | refine blk_drewN ?_ _ | refine blk_drew ?_ | refine blk_alloc ?_ _)); exact BK164.out) hb); have n1_ := Aside0.mk (blk_below (g := gb165) (o := .cells #[.bool a1_0, .int .u64 a1_1, .int .u64 a1_2] 60 (0, 0)) (by (with_reducible repeat (first | refine blk_drewN ?_ _ | refine blk_drew ?_ | refine blk_alloc ?_ _)); exact BK165.out) hb); have n2_ := Aside0.mk (below_step (by repeat (first | (with_reducible first | exact HB.out | apply below_alloc | apply pw_below_drewN | apply below_drew1 | refine below_set ?_ GE164.out | refine below_set ?_ GE165.out) | exact HB.out)) hb); have n3_ := Aside0.mk (hbox); have n4_ := Aside0.mk ((by rw [hg]; exact (below_size (by repeat (first | (with_reducible first | exact HB.out | apply below_alloc | apply pw_below_drewN | apply below_drew1 | refine below_set ?_ GE164.out | refine below_set ?_ GE165.out) | exact HB.out))) : w.heap.size ≤ gb166)); have n5_ := Aside0.mk ((by rw [hg]; exact (below_size (by repeat (first | (with_reducible first | exact HB.out | apply below_alloc | apply pw_below_drewN | apply below_drew1 | refine below_set ?_ GE164.out | refine below_set ?_ GE165.out) | exact HB.out))) : w.heap.size ≤ gb166)); have n6_ := Aside0.mk ((by rw [hg]; exact Nat.ne_of_lt (blk_lt (g := gb164) (o := .cells #[.bool a0_0, .int .u64 a0_1, .int .u64 a0_2] 60 (0, 0)) (by (with_reducible repeat (first | refine blk_drewN ?_ _ | refine blk_drew ?_ | refine blk_alloc ?_ _)); exact BK164.out)) : gb164 ≠ gb166)); have n7_ := Aside0.mk ((by rw [hg]; exact Nat.ne_of_gt (blk_lt (g := gb164) (o := .cells #[.bool a0_0, .int .u64 a0_1, .int .u64 a0_2] 60 (0, 0)) (by (with_reducible repeat (first | refine blk_drewN ?_ _ | refine blk_drew ?_ | refine blk_alloc ?_ _)); exact BK164.out)) : gb166 ≠ gb164)); have n8_ := Aside0.mk ((by rw [hg]; exact Nat.ne_of_lt (blk_lt (g := gb165) (o := .cells #[.bool a1_0, .int .u64 a1_1, .int .u64 a1_2] 60 (0, 0)) (by (with_reducible repeat (first | refine blk_drewN ?_ _ | refine blk_drew ?_ | refine blk_alloc ?_ _)); exact BK165.out)) : gb165 ≠ gb166)); have n9_ := Aside0.mk ((by rw [hg]; exact Nat.ne_of_gt (blk_lt (g := gb165) (o := .cells #[.bool a1_0, .int .u64 a1_1, .int .u64 a1_2] 60 (0, 0)) (by (with_reducible repeat (first | refine blk_drewN ?_ _ | refine blk_drew ?_ | refine blk_alloc ?_ _)); exact BK165.out)) : gb166 ≠ gb165)); clear BK164; clear BK165; clear HB; have BK164 := n0_; have BK165 := n1_; have HB := n2_; have BK166 := n3_; have GW166 := n4_; have GE166 := n5_; have NB164_166 := n6_; have NB166_164 := n7_; have NB165_166 := n8_; have NB166_165 := n9_; clear n0_ n1_ n2_ n3_ n4_ n5_ n6_ n7_ n8_ n9_; clear hb hbox hg; have hnb8 := NB164_165.out; have hnc8 := NB165_164.out; have hnb9 := NB164_166.out; have hnc9 := NB166_164.out; have hcz10_0 : w7.cell? ⟨gb164, 0, none⟩ = some (.bool a0_0) := (blk_cell BK164.out 0).trans rfl; have hcz10_1 : w7.cell? ⟨gb164, 1, none⟩ = some (.int .u64 a0_1) := (blk_cell BK164.out 1).trans rfl; have hcz10_2 : w7.cell? ⟨gb164, 2, none⟩ = some (.int .u64 a0_2) := (blk_cell BK164.out 2).trans rfl; have hfz10_0 := blk_frozen BK164.out 0; have hfz10_1 := blk_frozen BK164.out 1; have hfz10_2 := blk_frozen BK164.out 2; have hnb11 := NB165_166.out; have hnc11 := NB166_165.out; have hcz12_0 : w7.cell? ⟨gb165, 0, none⟩ = some (.bool a1_0) := (blk_cell BK165.out 0).trans rfl; have hcz12_1 : w7.cell? ⟨gb165, 1, none⟩ = some (.int .u64 a1_1) := (blk_cell BK165.out 1).trans rfl; have hcz12_2 : w7.cell? ⟨gb165, 2, none⟩ = some (.int .u64 a1_2) := (blk_cell BK165.out 2).trans rfl; have hfz12_0 := blk_frozen BK165.out 0; have hfz12_1 := blk_frozen BK165.out 1; have hfz12_2 := blk_frozen BK165.out 2; have hcz13_0 : w7.cell? ⟨gb166, 0, none⟩ = some (.bool false) := (blk_cell BK166.out 0).trans rfl; have hcz13_1 : w7.cell? ⟨gb166, 1, none⟩ = some (.int .u64 0) := (blk_cell BK166.out 1).trans rfl; have hcz13_2 : w7.cell? ⟨gb166, 2, none⟩ = some (.int .u64 0) := (blk_cell BK166.out 2).trans rfl; have hfz13_0 := blk_frozen BK166.out 0; have hfz13_1 := blk_frozen BK166.out 1; have hfz13_2 := blk_frozen BK166.out 2))
      refine bodyPost_ret (results_cell_row rfl _ _ gb166 60 #[.bool a0_0, .int .u64 (add64s a0_1 a1_1 0), .int .u64 (add64s a0_2 a1_2 (add64c a0_1 a1_1 0))] (0, 0) _ rfl (by (with_reducible repeat (first | refine blk_drewN ?_ _ | refine blk_drew ?_ | refine blk_alloc ?_ _)); refine blk_put (cs := #[.bool a0_0, .int .u64 (add64s a0_1 a1_1 0), .int .u64 0]) ?_ 2 _ rfl; (with_reducible repeat (first | refine blk_drewN ?_ _ | refine blk_drew ?_ | refine blk_alloc ?_ _)); refine blk_put (cs := #[.bool a0_0, .int .u64 0, .int .u64 0]) ?_ 1 _ rfl; (with_reducible repeat (first | refine blk_drewN ?_ _ | refine blk_drew ?_ | refine blk_alloc ?_ _)); refine blk_put (cs := #[.bool false, .int .u64 0, .int .u64 0]) ?_ 0 _ rfl; (with_reducible repeat (first | refine blk_drewN ?_ _ | refine blk_drew ?_ | refine blk_alloc ?_ _)); exact BK166.out) Try.underlying60 rfl (by kernel_rfl)) rfl ?_
      exact ⟨by first | rfl | (simp [errW_none, errW_some] <;> rfl) | (simp [*, errW_none, errW_some] <;> rfl), by repeat (first | (with_reducible first | exact HB.out | apply below_alloc | apply pw_below_drewN | apply below_drew1 | refine below_set ?_ GE164.out | refine below_set ?_ GE165.out | refine below_set ?_ GE166.out) | exact HB.out)⟩
    · rw [if_neg c4] at H
      exact absurd H (by simp)
  · rw [if_neg c3] at H
    have c3b0 : (a0_0 == a1_0) = false := by simpa using c3
    (try (have c3b1 : decide (a0_0 = a1_0) = false := by simpa using c3))
    (try (have c3b2 : (a0_0 == a1_0) = false := by simpa using c3))
    (try (have c3b3 : ¬ (a0_0 = a1_0) := by simpa using c3))
    clear c3
    replace H := Option.bind_eq_some_iff.mp H
    obtain ⟨t167, A140, H⟩ := H
    replace H : (if t167 < 0 then (some (a1_0, sub64s a1_1 a0_1 0, sub64s a1_2 a0_2 (sub64c a1_1 a0_1 0))) else (some (a0_0, sub64s a0_1 a1_1 0, sub64s a0_2 a1_2 (sub64c a0_1 a1_1 0)))) = some (r1, r2, r3) := H
    have A14 := Aside0.mk A140
    clear A140
    by_cases c15 : t167 < 0
    · rw [if_pos c15] at H
      have c15b0 : decide (t167 < 0) = true := decide_eq_true c15
      clear c15
      simp only [Option.some.injEq, Prod.mk.injEq] at H
      obtain ⟨rfl, rfl, rfl⟩ := H
      go_enter Try.func75, Try.ntmps75
      go_wp2_with (first | ((with_reducible refine gate_dst (N := 2) rfl ?_); refine box_event ?hg (N := 2) ?hd (cs := #[.bool a0_0, .int .u64 a0_1, .int .u64 a0_2]) (t := 60) ?hr ?_; (case hd => rfl); (case hg => rfl); (case hr => first | (go_simp; done) | (go_simp; rfl)); intro gb164 hg w16 hbox hb; have n0_ := Aside0.mk (below_step (by repeat (first | (with_reducible first | exact HB.out | apply below_alloc | apply pw_below_drewN | apply below_drew1) | exact HB.out)) hb); have n1_ := Aside0.mk (hbox); have n2_ := Aside0.mk ((by rw [hg]; exact (below_size (by repeat (first | (with_reducible first | exact HB.out | apply below_alloc | apply pw_below_drewN | apply below_drew1) | exact HB.out))) : w.heap.size ≤ gb164)); have n3_ := Aside0.mk ((by rw [hg]; exact (below_size (by repeat (first | (with_reducible first | exact HB.out | apply below_alloc | apply pw_below_drewN | apply below_drew1) | exact HB.out))) : w.heap.size ≤ gb164)); clear HB; have HB := n0_; have BK164 := n1_; have GW164 := n2_; have GE164 := n3_; clear n0_ n1_ n2_ n3_; clear hb hbox hg) | ((with_reducible refine gate_dst (N := 3) rfl ?_); refine box_event ?hg (N := 3) ?hd (cs := #[.bool a1_0, .int .u64 a1_1, .int .u64 a1_2]) (t := 60) ?hr ?_; (case hd => rfl); (case hg => rfl); (case hr => first | (go_simp; done) | (go_simp; rfl)); intro gb165 hg w17 hbox hb; have n0_ := Aside0.mk (blk_below (g := gb164) (o := .cells #[.bool a0_0, .int .u64 a0_1, .int .u64 a0_2] 60 (0, 0)) (by (with_reducible repeat (first | refine blk_drewN ?_ _ | refine blk_drew ?_ | refine blk_alloc ?_ _)); exact BK164.out) hb); have n1_ := Aside0.mk (below_step (by repeat (first | (with_reducible first | exact HB.out | apply below_alloc | apply pw_below_drewN | apply below_drew1 | refine below_set ?_ GE164.out) | exact HB.out)) hb); have n2_ := Aside0.mk (hbox); have n3_ := Aside0.mk ((by rw [hg]; exact (below_size (by repeat (first | (with_reducible first | exact HB.out | apply below_alloc | apply pw_below_drewN | apply below_drew1 | refine below_set ?_ GE164.out) | exact HB.out))) : w.heap.size ≤ gb165)); have n4_ := Aside0.mk ((by rw [hg]; exact (below_size (by repeat (first | (with_reducible first | exact HB.out | apply below_alloc | apply pw_below_drewN | apply below_drew1 | refine below_set ?_ GE164.out) | exact HB.out))) : w.heap.size ≤ gb165)); have n5_ := Aside0.mk ((by rw [hg]; exact Nat.ne_of_lt (blk_lt (g := gb164) (o := .cells #[.bool a0_0, .int .u64 a0_1, .int .u64 a0_2] 60 (0, 0)) (by (with_reducible repeat (first | refine blk_drewN ?_ _ | refine blk_drew ?_ | refine blk_alloc ?_ _)); exact BK164.out)) : gb164 ≠ gb165)); have n6_ := Aside0.mk ((by rw [hg]; exact Nat.ne_of_gt (blk_lt (g := gb164) (o := .cells #[.bool a0_0, .int .u64 a0_1, .int .u64 a0_2] 60 (0, 0)) (by (with_reducible repeat (first | refine blk_drewN ?_ _ | refine blk_drew ?_ | refine blk_alloc ?_ _)); exact BK164.out)) : gb165 ≠ gb164)); clear BK164; clear HB; have BK164 := n0_; have HB := n1_; have BK165 := n2_; have GW165 := n3_; have GE165 := n4_; have NB164_165 := n5_; have NB165_164 := n6_; clear n0_ n1_ n2_ n3_ n4_ n5_ n6_; clear hb hbox hg) | ((with_reducible refine gate_dst (N := 4) rfl ?_); refine box_event ?hg (N := 4) ?hd (cs := #[.bool false, .int .u64 0, .int .u64 0]) (t := 60) ?hr ?_; (case hd => rfl); (case hg => rfl); (case hr => first | (go_simp; done) | (go_simp; rfl)); intro gb166 hg w18 hbox hb; have n0_ := Aside0.mk (blk_below (g := gb164) (o := .cells #[.bool a0_0, .int .u64 a0_1, .int .u64 a0_2] 60 (0, 0)) (by (with_reducible repeat (first | refine blk_drewN ?_ _ | refine blk_drew ?_ | refine blk_alloc ?_ _)); exact BK164.out) hb); have n1_ := Aside0.mk (blk_below (g := gb165) (o := .cells #[.bool a1_0, .int .u64 a1_1, .int .u64 a1_2] 60 (0, 0)) (by (with_reducible repeat (first | refine blk_drewN ?_ _ | refine blk_drew ?_ | refine blk_alloc ?_ _)); exact BK165.out) hb); have n2_ := Aside0.mk (below_step (by repeat (first | (with_reducible first | exact HB.out | apply below_alloc | apply pw_below_drewN | apply below_drew1 | refine below_set ?_ GE164.out | refine below_set ?_ GE165.out) | exact HB.out)) hb); have n3_ := Aside0.mk (hbox); have n4_ := Aside0.mk ((by rw [hg]; exact (below_size (by repeat (first | (with_reducible first | exact HB.out | apply below_alloc | apply pw_below_drewN | apply below_drew1 | refine below_set ?_ GE164.out | refine below_set ?_ GE165.out) | exact HB.out))) : w.heap.size ≤ gb166)); have n5_ := Aside0.mk ((by rw [hg]; exact (below_size (by repeat (first | (with_reducible first | exact HB.out | apply below_alloc | apply pw_below_drewN | apply below_drew1 | refine below_set ?_ GE164.out | refine below_set ?_ GE165.out) | exact HB.out))) : w.heap.size ≤ gb166)); have n6_ := Aside0.mk ((by rw [hg]; exact Nat.ne_of_lt (blk_lt (g := gb164) (o := .cells #[.bool a0_0, .int .u64 a0_1, .int .u64 a0_2] 60 (0, 0)) (by (with_reducible repeat (first | refine blk_drewN ?_ _ | refine blk_drew ?_ | refine blk_alloc ?_ _)); exact BK164.out)) : gb164 ≠ gb166)); have n7_ := Aside0.mk ((by rw [hg]; exact Nat.ne_of_gt (blk_lt (g := gb164) (o := .cells #[.bool a0_0, .int .u64 a0_1, .int .u64 a0_2] 60 (0, 0)) (by (with_reducible repeat (first | refine blk_drewN ?_ _ | refine blk_drew ?_ | refine blk_alloc ?_ _)); exact BK164.out)) : gb166 ≠ gb164)); have n8_ := Aside0.mk ((by rw [hg]; exact Nat.ne_of_lt (blk_lt (g := gb165) (o := .cells #[.bool a1_0, .int .u64 a1_1, .int .u64 a1_2] 60 (0, 0)) (by (with_reducible repeat (first | refine blk_drewN ?_ _ | refine blk_drew ?_ | refine blk_alloc ?_ _)); exact BK165.out)) : gb165 ≠ gb166)); have n9_ := Aside0.mk ((by rw [hg]; exact Nat.ne_of_gt (blk_lt (g := gb165) (o := .cells #[.bool a1_0, .int .u64 a1_1, .int .u64 a1_2] 60 (0, 0)) (by (with_reducible repeat (first | refine blk_drewN ?_ _ | refine blk_drew ?_ | refine blk_alloc ?_ _)); exact BK165.out)) : gb166 ≠ gb165)); clear BK164; clear BK165; clear HB; have BK164 := n0_; have BK165 := n1_; have HB := n2_; have BK166 := n3_; have GW166 := n4_; have GE166 := n5_; have NB164_166 := n6_; have NB166_164 := n7_; have NB165_166 := n8_; have NB166_165 := n9_; clear n0_ n1_ n2_ n3_ n4_ n5_ n6_ n7_ n8_ n9_; clear hb hbox hg; have hnb19 := NB164_165.out; have hnc19 := NB165_164.out; have hnb20 := NB164_166.out; have hnc20 := NB166_164.out; have hcz21_0 : w18.cell? ⟨gb164, 0, none⟩ = some (.bool a0_0) := (blk_cell BK164.out 0).trans rfl; have hcz21_1 : w18.cell? ⟨gb164, 1, none⟩ = some (.int .u64 a0_1) := (blk_cell BK164.out 1).trans rfl; have hcz21_2 : w18.cell? ⟨gb164, 2, none⟩ = some (.int .u64 a0_2) := (blk_cell BK164.out 2).trans rfl; have hfz21_0 := blk_frozen BK164.out 0; have hfz21_1 := blk_frozen BK164.out 1; have hfz21_2 := blk_frozen BK164.out 2; have hnb22 := NB165_166.out; have hnc22 := NB166_165.out; have hcz23_0 : w18.cell? ⟨gb165, 0, none⟩ = some (.bool a1_0) := (blk_cell BK165.out 0).trans rfl; have hcz23_1 : w18.cell? ⟨gb165, 1, none⟩ = some (.int .u64 a1_1) := (blk_cell BK165.out 1).trans rfl; have hcz23_2 : w18.cell? ⟨gb165, 2, none⟩ = some (.int .u64 a1_2) := (blk_cell BK165.out 2).trans rfl; have hfz23_0 := blk_frozen BK165.out 0; have hfz23_1 := blk_frozen BK165.out 1; have hfz23_2 := blk_frozen BK165.out 2) | ((with_reducible refine gate_callee (f := 109) rfl ?_); refine goesL_ (some 49) rfl rfl Try.func109 (by kernel_rfl) rfl #[.agg #[.int .u64 a0_1, .int .u64 a0_2], .agg #[.int .u64 a1_1, .int .u64 a1_2]] rfl (by (try simp only [List.map_toArray, List.map_cons, List.map_nil]); first | done | rfl | (simp only [List.length_drop, List.length_take]; rfl)) ?_; (with_reducible refine (fixed_words_compare.calls k a0_1 a0_2 a1_1 a1_2 t167 _ A14.out).mono ?_); rintro e w24 ⟨rfl, hb⟩; refine ⟨_, rfl, ?_⟩; have n0_ := Aside0.mk (blk_below (g := gb164) (o := .cells #[.bool a0_0, .int .u64 a0_1, .int .u64 a0_2] 60 (0, 0)) (by (with_reducible repeat (first | refine blk_drewN ?_ _ | refine blk_drew ?_ | refine blk_alloc ?_ _)); exact BK164.out) hb); have n1_ := Aside0.mk (blk_below (g := gb165) (o := .cells #[.bool a1_0, .int .u64 a1_1, .int .u64 a1_2] 60 (0, 0)) (by (with_reducible repeat (first | refine blk_drewN ?_ _ | refine blk_drew ?_ | refine blk_alloc ?_ _)); exact BK165.out) hb); have n2_ := Aside0.mk (blk_below (g := gb166) (o := .cells #[.bool false, .int .u64 0, .int .u64 0] 60 (0, 0)) (by (with_reducible repeat (first | refine blk_drewN ?_ _ | refine blk_drew ?_ | refine blk_alloc ?_ _)); exact BK166.out) hb); have n3_ := Aside0.mk (below_step (by repeat (first | (with_reducible first | exact HB.out | apply below_alloc | apply pw_below_drewN | apply below_drew1 | refine below_set ?_ GE164.out | refine below_set ?_ GE165.out | refine below_set ?_ GE166.out) | exact HB.out)) hb); clear BK164; clear BK165; clear BK166; clear HB; have BK164 := n0_; have BK165 := n1_; have BK166 := n2_; have HB := n3_; clear n0_ n1_ n2_ n3_; (try clear hb); (try clear hb2); (try clear hk); (try clear hi); have hcz25_0 : w24.cell? ⟨gb165, 0, none⟩ = some (.bool a1_0) := (blk_cell BK165.out 0).trans rfl; have hcz25_1 : w24.cell? ⟨gb165, 1, none⟩ = some (.int .u64 a1_1) := (blk_cell BK165.out 1).trans rfl; have hcz25_2 : w24.cell? ⟨gb165, 2, none⟩ = some (.int .u64 a1_2) := (blk_cell BK165.out 2).trans rfl; have hfz25_0 := blk_frozen BK165.out 0; have hfz25_1 := blk_frozen BK165.out 1; have hfz25_2 := blk_frozen BK165.out 2; have hcz26_0 : w24.cell? ⟨gb164, 0, none⟩ = some (.bool a0_0) := (blk_cell BK164.out 0).trans rfl; have hcz26_1 : w24.cell? ⟨gb164, 1, none⟩ = some (.int .u64 a0_1) := (blk_cell BK164.out 1).trans rfl; have hcz26_2 : w24.cell? ⟨gb164, 2, none⟩ = some (.int .u64 a0_2) := (blk_cell BK164.out 2).trans rfl; have hfz26_0 := blk_frozen BK164.out 0; have hfz26_1 := blk_frozen BK164.out 1; have hfz26_2 := blk_frozen BK164.out 2; have hcz27_0 : w24.cell? ⟨gb166, 0, none⟩ = some (.bool false) := (blk_cell BK166.out 0).trans rfl; have hcz27_1 : w24.cell? ⟨gb166, 1, none⟩ = some (.int .u64 0) := (blk_cell BK166.out 1).trans rfl; have hcz27_2 : w24.cell? ⟨gb166, 2, none⟩ = some (.int .u64 0) := (blk_cell BK166.out 2).trans rfl; have hfz27_0 := blk_frozen BK166.out 0; have hfz27_1 := blk_frozen BK166.out 1; have hfz27_2 := blk_frozen BK166.out 2))
      refine bodyPost_ret (results_cell_row rfl _ _ gb166 60 #[.bool a1_0, .int .u64 (sub64s a1_1 a0_1 0), .int .u64 (sub64s a1_2 a0_2 (sub64c a1_1 a0_1 0))] (0, 0) _ rfl (by (with_reducible repeat (first | refine blk_drewN ?_ _ | refine blk_drew ?_ | refine blk_alloc ?_ _)); refine blk_put (cs := #[.bool a1_0, .int .u64 (sub64s a1_1 a0_1 0), .int .u64 0]) ?_ 2 _ rfl; (with_reducible repeat (first | refine blk_drewN ?_ _ | refine blk_drew ?_ | refine blk_alloc ?_ _)); refine blk_put (cs := #[.bool a1_0, .int .u64 0, .int .u64 0]) ?_ 1 _ rfl; (with_reducible repeat (first | refine blk_drewN ?_ _ | refine blk_drew ?_ | refine blk_alloc ?_ _)); refine blk_put (cs := #[.bool false, .int .u64 0, .int .u64 0]) ?_ 0 _ rfl; (with_reducible repeat (first | refine blk_drewN ?_ _ | refine blk_drew ?_ | refine blk_alloc ?_ _)); refine blk_far ?_ NB166_165.out _; (with_reducible repeat (first | refine blk_drewN ?_ _ | refine blk_drew ?_ | refine blk_alloc ?_ _)); refine blk_far ?_ NB166_165.out _; (with_reducible repeat (first | refine blk_drewN ?_ _ | refine blk_drew ?_ | refine blk_alloc ?_ _)); refine blk_far ?_ NB166_165.out _; (with_reducible repeat (first | refine blk_drewN ?_ _ | refine blk_drew ?_ | refine blk_alloc ?_ _)); refine blk_far ?_ NB166_164.out _; (with_reducible repeat (first | refine blk_drewN ?_ _ | refine blk_drew ?_ | refine blk_alloc ?_ _)); refine blk_far ?_ NB166_164.out _; (with_reducible repeat (first | refine blk_drewN ?_ _ | refine blk_drew ?_ | refine blk_alloc ?_ _)); refine blk_far ?_ NB166_164.out _; (with_reducible repeat (first | refine blk_drewN ?_ _ | refine blk_drew ?_ | refine blk_alloc ?_ _)); exact BK166.out) Try.underlying60 rfl (by kernel_rfl)) rfl ?_
      exact ⟨by first | rfl | (simp [errW_none, errW_some] <;> rfl) | (simp [*, errW_none, errW_some] <;> rfl), by repeat (first | (with_reducible first | exact HB.out | apply below_alloc | apply pw_below_drewN | apply below_drew1 | refine below_set ?_ GE164.out | refine below_set ?_ GE165.out | refine below_set ?_ GE166.out) | exact HB.out)⟩
    · rw [if_neg c15] at H
      have c15b0 : decide (t167 < 0) = false := decide_eq_false c15
      clear c15
      simp only [Option.some.injEq, Prod.mk.injEq] at H
      obtain ⟨rfl, rfl, rfl⟩ := H
      go_enter Try.func75, Try.ntmps75
      go_wp2_with (first | ((with_reducible refine gate_dst (N := 2) rfl ?_); refine box_event ?hg (N := 2) ?hd (cs := #[.bool a0_0, .int .u64 a0_1, .int .u64 a0_2]) (t := 60) ?hr ?_; (case hd => rfl); (case hg => rfl); (case hr => first | (go_simp; done) | (go_simp; rfl)); intro gb164 hg w28 hbox hb; have n0_ := Aside0.mk (below_step (by repeat (first | (with_reducible first | exact HB.out | apply below_alloc | apply pw_below_drewN | apply below_drew1) | exact HB.out)) hb); have n1_ := Aside0.mk (hbox); have n2_ := Aside0.mk ((by rw [hg]; exact (below_size (by repeat (first | (with_reducible first | exact HB.out | apply below_alloc | apply pw_below_drewN | apply below_drew1) | exact HB.out))) : w.heap.size ≤ gb164)); have n3_ := Aside0.mk ((by rw [hg]; exact (below_size (by repeat (first | (with_reducible first | exact HB.out | apply below_alloc | apply pw_below_drewN | apply below_drew1) | exact HB.out))) : w.heap.size ≤ gb164)); clear HB; have HB := n0_; have BK164 := n1_; have GW164 := n2_; have GE164 := n3_; clear n0_ n1_ n2_ n3_; clear hb hbox hg) | ((with_reducible refine gate_dst (N := 3) rfl ?_); refine box_event ?hg (N := 3) ?hd (cs := #[.bool a1_0, .int .u64 a1_1, .int .u64 a1_2]) (t := 60) ?hr ?_; (case hd => rfl); (case hg => rfl); (case hr => first | (go_simp; done) | (go_simp; rfl)); intro gb165 hg w29 hbox hb; have n0_ := Aside0.mk (blk_below (g := gb164) (o := .cells #[.bool a0_0, .int .u64 a0_1, .int .u64 a0_2] 60 (0, 0)) (by (with_reducible repeat (first | refine blk_drewN ?_ _ | refine blk_drew ?_ | refine blk_alloc ?_ _)); exact BK164.out) hb); have n1_ := Aside0.mk (below_step (by repeat (first | (with_reducible first | exact HB.out | apply below_alloc | apply pw_below_drewN | apply below_drew1 | refine below_set ?_ GE164.out) | exact HB.out)) hb); have n2_ := Aside0.mk (hbox); have n3_ := Aside0.mk ((by rw [hg]; exact (below_size (by repeat (first | (with_reducible first | exact HB.out | apply below_alloc | apply pw_below_drewN | apply below_drew1 | refine below_set ?_ GE164.out) | exact HB.out))) : w.heap.size ≤ gb165)); have n4_ := Aside0.mk ((by rw [hg]; exact (below_size (by repeat (first | (with_reducible first | exact HB.out | apply below_alloc | apply pw_below_drewN | apply below_drew1 | refine below_set ?_ GE164.out) | exact HB.out))) : w.heap.size ≤ gb165)); have n5_ := Aside0.mk ((by rw [hg]; exact Nat.ne_of_lt (blk_lt (g := gb164) (o := .cells #[.bool a0_0, .int .u64 a0_1, .int .u64 a0_2] 60 (0, 0)) (by (with_reducible repeat (first | refine blk_drewN ?_ _ | refine blk_drew ?_ | refine blk_alloc ?_ _)); exact BK164.out)) : gb164 ≠ gb165)); have n6_ := Aside0.mk ((by rw [hg]; exact Nat.ne_of_gt (blk_lt (g := gb164) (o := .cells #[.bool a0_0, .int .u64 a0_1, .int .u64 a0_2] 60 (0, 0)) (by (with_reducible repeat (first | refine blk_drewN ?_ _ | refine blk_drew ?_ | refine blk_alloc ?_ _)); exact BK164.out)) : gb165 ≠ gb164)); clear BK164; clear HB; have BK164 := n0_; have HB := n1_; have BK165 := n2_; have GW165 := n3_; have GE165 := n4_; have NB164_165 := n5_; have NB165_164 := n6_; clear n0_ n1_ n2_ n3_ n4_ n5_ n6_; clear hb hbox hg) | ((with_reducible refine gate_dst (N := 4) rfl ?_); refine box_event ?hg (N := 4) ?hd (cs := #[.bool false, .int .u64 0, .int .u64 0]) (t := 60) ?hr ?_; (case hd => rfl); (case hg => rfl); (case hr => first | (go_simp; done) | (go_simp; rfl)); intro gb166 hg w30 hbox hb; have n0_ := Aside0.mk (blk_below (g := gb164) (o := .cells #[.bool a0_0, .int .u64 a0_1, .int .u64 a0_2] 60 (0, 0)) (by (with_reducible repeat (first | refine blk_drewN ?_ _ | refine blk_drew ?_ | refine blk_alloc ?_ _)); exact BK164.out) hb); have n1_ := Aside0.mk (blk_below (g := gb165) (o := .cells #[.bool a1_0, .int .u64 a1_1, .int .u64 a1_2] 60 (0, 0)) (by (with_reducible repeat (first | refine blk_drewN ?_ _ | refine blk_drew ?_ | refine blk_alloc ?_ _)); exact BK165.out) hb); have n2_ := Aside0.mk (below_step (by repeat (first | (with_reducible first | exact HB.out | apply below_alloc | apply pw_below_drewN | apply below_drew1 | refine below_set ?_ GE164.out | refine below_set ?_ GE165.out) | exact HB.out)) hb); have n3_ := Aside0.mk (hbox); have n4_ := Aside0.mk ((by rw [hg]; exact (below_size (by repeat (first | (with_reducible first | exact HB.out | apply below_alloc | apply pw_below_drewN | apply below_drew1 | refine below_set ?_ GE164.out | refine below_set ?_ GE165.out) | exact HB.out))) : w.heap.size ≤ gb166)); have n5_ := Aside0.mk ((by rw [hg]; exact (below_size (by repeat (first | (with_reducible first | exact HB.out | apply below_alloc | apply pw_below_drewN | apply below_drew1 | refine below_set ?_ GE164.out | refine below_set ?_ GE165.out) | exact HB.out))) : w.heap.size ≤ gb166)); have n6_ := Aside0.mk ((by rw [hg]; exact Nat.ne_of_lt (blk_lt (g := gb164) (o := .cells #[.bool a0_0, .int .u64 a0_1, .int .u64 a0_2] 60 (0, 0)) (by (with_reducible repeat (first | refine blk_drewN ?_ _ | refine blk_drew ?_ | refine blk_alloc ?_ _)); exact BK164.out)) : gb164 ≠ gb166)); have n7_ := Aside0.mk ((by rw [hg]; exact Nat.ne_of_gt (blk_lt (g := gb164) (o := .cells #[.bool a0_0, .int .u64 a0_1, .int .u64 a0_2] 60 (0, 0)) (by (with_reducible repeat (first | refine blk_drewN ?_ _ | refine blk_drew ?_ | refine blk_alloc ?_ _)); exact BK164.out)) : gb166 ≠ gb164)); have n8_ := Aside0.mk ((by rw [hg]; exact Nat.ne_of_lt (blk_lt (g := gb165) (o := .cells #[.bool a1_0, .int .u64 a1_1, .int .u64 a1_2] 60 (0, 0)) (by (with_reducible repeat (first | refine blk_drewN ?_ _ | refine blk_drew ?_ | refine blk_alloc ?_ _)); exact BK165.out)) : gb165 ≠ gb166)); have n9_ := Aside0.mk ((by rw [hg]; exact Nat.ne_of_gt (blk_lt (g := gb165) (o := .cells #[.bool a1_0, .int .u64 a1_1, .int .u64 a1_2] 60 (0, 0)) (by (with_reducible repeat (first | refine blk_drewN ?_ _ | refine blk_drew ?_ | refine blk_alloc ?_ _)); exact BK165.out)) : gb166 ≠ gb165)); clear BK164; clear BK165; clear HB; have BK164 := n0_; have BK165 := n1_; have HB := n2_; have BK166 := n3_; have GW166 := n4_; have GE166 := n5_; have NB164_166 := n6_; have NB166_164 := n7_; have NB165_166 := n8_; have NB166_165 := n9_; clear n0_ n1_ n2_ n3_ n4_ n5_ n6_ n7_ n8_ n9_; clear hb hbox hg; have hnb31 := NB164_165.out; have hnc31 := NB165_164.out; have hnb32 := NB164_166.out; have hnc32 := NB166_164.out; have hcz33_0 : w30.cell? ⟨gb164, 0, none⟩ = some (.bool a0_0) := (blk_cell BK164.out 0).trans rfl; have hcz33_1 : w30.cell? ⟨gb164, 1, none⟩ = some (.int .u64 a0_1) := (blk_cell BK164.out 1).trans rfl; have hcz33_2 : w30.cell? ⟨gb164, 2, none⟩ = some (.int .u64 a0_2) := (blk_cell BK164.out 2).trans rfl; have hfz33_0 := blk_frozen BK164.out 0; have hfz33_1 := blk_frozen BK164.out 1; have hfz33_2 := blk_frozen BK164.out 2; have hnb34 := NB165_166.out; have hnc34 := NB166_165.out; have hcz35_0 : w30.cell? ⟨gb165, 0, none⟩ = some (.bool a1_0) := (blk_cell BK165.out 0).trans rfl; have hcz35_1 : w30.cell? ⟨gb165, 1, none⟩ = some (.int .u64 a1_1) := (blk_cell BK165.out 1).trans rfl; have hcz35_2 : w30.cell? ⟨gb165, 2, none⟩ = some (.int .u64 a1_2) := (blk_cell BK165.out 2).trans rfl; have hfz35_0 := blk_frozen BK165.out 0; have hfz35_1 := blk_frozen BK165.out 1; have hfz35_2 := blk_frozen BK165.out 2) | ((with_reducible refine gate_callee (f := 109) rfl ?_); refine goesL_ (some 49) rfl rfl Try.func109 (by kernel_rfl) rfl #[.agg #[.int .u64 a0_1, .int .u64 a0_2], .agg #[.int .u64 a1_1, .int .u64 a1_2]] rfl (by (try simp only [List.map_toArray, List.map_cons, List.map_nil]); first | done | rfl | (simp only [List.length_drop, List.length_take]; rfl)) ?_; (with_reducible refine (fixed_words_compare.calls k a0_1 a0_2 a1_1 a1_2 t167 _ A14.out).mono ?_); rintro e w36 ⟨rfl, hb⟩; refine ⟨_, rfl, ?_⟩; have n0_ := Aside0.mk (blk_below (g := gb164) (o := .cells #[.bool a0_0, .int .u64 a0_1, .int .u64 a0_2] 60 (0, 0)) (by (with_reducible repeat (first | refine blk_drewN ?_ _ | refine blk_drew ?_ | refine blk_alloc ?_ _)); exact BK164.out) hb); have n1_ := Aside0.mk (blk_below (g := gb165) (o := .cells #[.bool a1_0, .int .u64 a1_1, .int .u64 a1_2] 60 (0, 0)) (by (with_reducible repeat (first | refine blk_drewN ?_ _ | refine blk_drew ?_ | refine blk_alloc ?_ _)); exact BK165.out) hb); have n2_ := Aside0.mk (blk_below (g := gb166) (o := .cells #[.bool false, .int .u64 0, .int .u64 0] 60 (0, 0)) (by (with_reducible repeat (first | refine blk_drewN ?_ _ | refine blk_drew ?_ | refine blk_alloc ?_ _)); exact BK166.out) hb); have n3_ := Aside0.mk (below_step (by repeat (first | (with_reducible first | exact HB.out | apply below_alloc | apply pw_below_drewN | apply below_drew1 | refine below_set ?_ GE164.out | refine below_set ?_ GE165.out | refine below_set ?_ GE166.out) | exact HB.out)) hb); clear BK164; clear BK165; clear BK166; clear HB; have BK164 := n0_; have BK165 := n1_; have BK166 := n2_; have HB := n3_; clear n0_ n1_ n2_ n3_; (try clear hb); (try clear hb2); (try clear hk); (try clear hi); have hcz37_0 : w36.cell? ⟨gb164, 0, none⟩ = some (.bool a0_0) := (blk_cell BK164.out 0).trans rfl; have hcz37_1 : w36.cell? ⟨gb164, 1, none⟩ = some (.int .u64 a0_1) := (blk_cell BK164.out 1).trans rfl; have hcz37_2 : w36.cell? ⟨gb164, 2, none⟩ = some (.int .u64 a0_2) := (blk_cell BK164.out 2).trans rfl; have hfz37_0 := blk_frozen BK164.out 0; have hfz37_1 := blk_frozen BK164.out 1; have hfz37_2 := blk_frozen BK164.out 2; have hcz38_0 : w36.cell? ⟨gb165, 0, none⟩ = some (.bool a1_0) := (blk_cell BK165.out 0).trans rfl; have hcz38_1 : w36.cell? ⟨gb165, 1, none⟩ = some (.int .u64 a1_1) := (blk_cell BK165.out 1).trans rfl; have hcz38_2 : w36.cell? ⟨gb165, 2, none⟩ = some (.int .u64 a1_2) := (blk_cell BK165.out 2).trans rfl; have hfz38_0 := blk_frozen BK165.out 0; have hfz38_1 := blk_frozen BK165.out 1; have hfz38_2 := blk_frozen BK165.out 2; have hcz39_0 : w36.cell? ⟨gb166, 0, none⟩ = some (.bool false) := (blk_cell BK166.out 0).trans rfl; have hcz39_1 : w36.cell? ⟨gb166, 1, none⟩ = some (.int .u64 0) := (blk_cell BK166.out 1).trans rfl; have hcz39_2 : w36.cell? ⟨gb166, 2, none⟩ = some (.int .u64 0) := (blk_cell BK166.out 2).trans rfl; have hfz39_0 := blk_frozen BK166.out 0; have hfz39_1 := blk_frozen BK166.out 1; have hfz39_2 := blk_frozen BK166.out 2))
      refine bodyPost_ret (results_cell_row rfl _ _ gb166 60 #[.bool a0_0, .int .u64 (sub64s a0_1 a1_1 0), .int .u64 (sub64s a0_2 a1_2 (sub64c a0_1 a1_1 0))] (0, 0) _ rfl (by (with_reducible repeat (first | refine blk_drewN ?_ _ | refine blk_drew ?_ | refine blk_alloc ?_ _)); refine blk_put (cs := #[.bool a0_0, .int .u64 (sub64s a0_1 a1_1 0), .int .u64 0]) ?_ 2 _ rfl; (with_reducible repeat (first | refine blk_drewN ?_ _ | refine blk_drew ?_ | refine blk_alloc ?_ _)); refine blk_put (cs := #[.bool a0_0, .int .u64 0, .int .u64 0]) ?_ 1 _ rfl; (with_reducible repeat (first | refine blk_drewN ?_ _ | refine blk_drew ?_ | refine blk_alloc ?_ _)); refine blk_put (cs := #[.bool false, .int .u64 0, .int .u64 0]) ?_ 0 _ rfl; (with_reducible repeat (first | refine blk_drewN ?_ _ | refine blk_drew ?_ | refine blk_alloc ?_ _)); exact BK166.out) Try.underlying60 rfl (by kernel_rfl)) rfl ?_
      exact ⟨by first | rfl | (simp [errW_none, errW_some] <;> rfl) | (simp [*, errW_none, errW_some] <;> rfl), by repeat (first | (with_reducible first | exact HB.out | apply below_alloc | apply pw_below_drewN | apply below_drew1 | refine below_set ?_ GE164.out | refine below_set ?_ GE165.out | refine below_set ?_ GE166.out) | exact HB.out)⟩
def fixed_Order.f (k : Nat) (a0 : Int) (a1 : Int) (a2 : Int) (a3 : Int) : Option (Int) := (fixed_product.f a0 a1).bind fun bt168 => ((fixed_product.f a2 a3).bind fun bt172 => ((fixed_exact_plus.f k bt168.1 bt168.2.1 bt168.2.2 (!bt172.1) bt172.2.1 bt172.2.2).bind fun bt176 => (if (bt176.2.1 == 0 && (bt176.2.2 == 0)) = true then (some 0) else (if bt176.1 = true then (some (-1)) else (some 1)))))
set_option maxHeartbeats 8000000 in
set_option maxRecDepth 100000 in
theorem fixed_Order.calls (k : Nat) (a0 : Int) (a1 : Int) (a2 : Int) (a3 : Int) (r : Int) (w : World) (h : fixed_Order.f k a0 a1 a2 a3 = some r) :
    Calls Try.prog 21 #[.int .i64 a0, .int .i64 a1, .int .i64 a2, .int .i64 a3] w fun e w' => e = .returned (.int .i64 r) ∧ Below w.heap.size w w' := by
  have hu60 := Try.underlying60
  have hu58 := Try.underlying58
  have HB := Aside0.mk (Below.refl w.heap.size w)
  have H : ((fixed_product.f a0 a1).bind fun bt168 => ((fixed_product.f a2 a3).bind fun bt172 => ((fixed_exact_plus.f k bt168.1 bt168.2.1 bt168.2.2 (!bt172.1) bt172.2.1 bt172.2.2).bind fun bt176 => (if (bt176.2.1 == 0 && (bt176.2.2 == 0)) = true then (some 0) else (if bt176.1 = true then (some (-1)) else (some 1)))))) = some r := h
  clear h
  replace H := Option.bind_eq_some_iff.mp H
  obtain ⟨⟨t168, t169, t170⟩, A50, H⟩ := H
  replace H : ((fixed_product.f a2 a3).bind fun bt172 => ((fixed_exact_plus.f k t168 t169 t170 (!bt172.1) bt172.2.1 bt172.2.2).bind fun bt176 => (if (bt176.2.1 == 0 && (bt176.2.2 == 0)) = true then (some 0) else (if bt176.1 = true then (some (-1)) else (some 1))))) = some r := H
  have A5 := Aside0.mk A50
  clear A50
  replace H := Option.bind_eq_some_iff.mp H
  obtain ⟨⟨t172, t173, t174⟩, A60, H⟩ := H
  replace H : ((fixed_exact_plus.f k t168 t169 t170 (!t172) t173 t174).bind fun bt176 => (if (bt176.2.1 == 0 && (bt176.2.2 == 0)) = true then (some 0) else (if bt176.1 = true then (some (-1)) else (some 1)))) = some r := H
  have A6 := Aside0.mk A60
  clear A60
  replace H := Option.bind_eq_some_iff.mp H
  obtain ⟨⟨t176, t177, t178⟩, A70, H⟩ := H
  replace H : (if (t177 == 0 && (t178 == 0)) = true then (some 0) else (if t176 = true then (some (-1)) else (some 1))) = some r := H
  have A7 := Aside0.mk A70
  clear A70
  by_cases c8 : (t177 == 0 && (t178 == 0)) = true
  · rw [if_pos c8] at H
    have c8b0 : (t177 == 0 && (t178 == 0)) = true := c8
    (try (have c8b1 : decide (t177 = 0 && (t178 == 0)) = true := by simpa using c8))
    (try (have c8b2 : (t177 == 0 && (t178 == 0)) = true := by simpa using c8))
    clear c8
    obtain rfl := Option.some.inj H
    go_enter Try.func21, Try.ntmps21
    go_wp2_with (first | ((with_reducible refine gate_callee (f := 74) rfl ?_); refine goesL_ (some 14) rfl rfl Try.func74 (by kernel_rfl) rfl #[.int .i64 a0, .int .i64 a1] rfl (by (try simp only [List.map_toArray, List.map_cons, List.map_nil]); first | done | rfl | (simp only [List.length_drop, List.length_take]; rfl)) ?_; (with_reducible refine (fixed_product.calls a0 a1 t168 t169 t170 _ A5.out).mono ?_); rintro e w9 ⟨rfl, hb⟩; refine ⟨_, rfl, ?_⟩; have n0_ := Aside0.mk (below_step (by repeat (first | (with_reducible first | exact HB.out | apply below_alloc | apply pw_below_drewN | apply below_drew1) | exact HB.out)) hb); clear HB; have HB := n0_; clear n0_; (try clear hb); (try clear hb2); (try clear hk); (try clear hi)) | ((with_reducible refine gate_dst (N := 9) rfl ?_); refine box_event ?hg (N := 9) ?hd (cs := #[.bool false, .int .u64 0, .int .u64 0]) (t := 60) ?hr ?_; (case hd => rfl); (case hg => rfl); (case hr => first | (go_simp; done) | (go_simp; rfl)); intro gb171 hg w10 hbox hb; have n0_ := Aside0.mk (below_step (by repeat (first | (with_reducible first | exact HB.out | apply below_alloc | apply pw_below_drewN | apply below_drew1) | exact HB.out)) hb); have n1_ := Aside0.mk (hbox); have n2_ := Aside0.mk ((by rw [hg]; exact (below_size (by repeat (first | (with_reducible first | exact HB.out | apply below_alloc | apply pw_below_drewN | apply below_drew1) | exact HB.out))) : w.heap.size ≤ gb171)); have n3_ := Aside0.mk ((by rw [hg]; exact (below_size (by repeat (first | (with_reducible first | exact HB.out | apply below_alloc | apply pw_below_drewN | apply below_drew1) | exact HB.out))) : w.heap.size ≤ gb171)); clear HB; have HB := n0_; have BK171 := n1_; have GW171 := n2_; have GE171 := n3_; clear n0_ n1_ n2_ n3_; clear hb hbox hg; have hcz11_0 : w10.cell? ⟨gb171, 0, none⟩ = some (.bool false) := (blk_cell BK171.out 0).trans rfl; have hcz11_1 : w10.cell? ⟨gb171, 1, none⟩ = some (.int .u64 0) := (blk_cell BK171.out 1).trans rfl; have hcz11_2 : w10.cell? ⟨gb171, 2, none⟩ = some (.int .u64 0) := (blk_cell BK171.out 2).trans rfl; have hfz11_0 := blk_frozen BK171.out 0; have hfz11_1 := blk_frozen BK171.out 1; have hfz11_2 := blk_frozen BK171.out 2) | ((with_reducible refine gate_callee (f := 74) rfl ?_); refine goesL_ (some 17) rfl rfl Try.func74 (by kernel_rfl) rfl #[.int .i64 a2, .int .i64 a3] rfl (by (try simp only [List.map_toArray, List.map_cons, List.map_nil]); first | done | rfl | (simp only [List.length_drop, List.length_take]; rfl)) ?_; (with_reducible refine (fixed_product.calls a2 a3 t172 t173 t174 _ A6.out).mono ?_); rintro e w12 ⟨rfl, hb⟩; refine ⟨_, rfl, ?_⟩; have n0_ := Aside0.mk (blk_below (g := gb171) (o := .cells #[.bool t168, .int .u64 t169, .int .u64 t170] 60 (0, 0)) (by (with_reducible repeat (first | refine blk_drewN ?_ _ | refine blk_drew ?_ | refine blk_alloc ?_ _)); refine blk_put (cs := #[.bool t168, .int .u64 t169, .int .u64 0]) ?_ 2 _ rfl; (with_reducible repeat (first | refine blk_drewN ?_ _ | refine blk_drew ?_ | refine blk_alloc ?_ _)); refine blk_put (cs := #[.bool t168, .int .u64 0, .int .u64 0]) ?_ 1 _ rfl; (with_reducible repeat (first | refine blk_drewN ?_ _ | refine blk_drew ?_ | refine blk_alloc ?_ _)); refine blk_put (cs := #[.bool false, .int .u64 0, .int .u64 0]) ?_ 0 _ rfl; (with_reducible repeat (first | refine blk_drewN ?_ _ | refine blk_drew ?_ | refine blk_alloc ?_ _)); exact BK171.out) hb); have n1_ := Aside0.mk (below_step (by repeat (first | (with_reducible first | exact HB.out | apply below_alloc | apply pw_below_drewN | apply below_drew1 | refine below_set ?_ GE171.out) | exact HB.out)) hb); clear BK171; clear HB; have BK171 := n0_; have HB := n1_; clear n0_ n1_; (try clear hb); (try clear hb2); (try clear hk); (try clear hi)) | ((with_reducible refine gate_dst (N := 10) rfl ?_); refine box_event ?hg (N := 10) ?hd (cs := #[.bool false, .int .u64 0, .int .u64 0]) (t := 60) ?hr ?_; (case hd => rfl); (case hg => rfl); (case hr => first | (go_simp; done) | (go_simp; rfl)); intro gb175 hg w13 hbox hb; have n0_ := Aside0.mk (blk_below (g := gb171) (o := .cells #[.bool t168, .int .u64 t169, .int .u64 t170] 60 (0, 0)) (by (with_reducible repeat (first | refine blk_drewN ?_ _ | refine blk_drew ?_ | refine blk_alloc ?_ _)); exact BK171.out) hb); have n1_ := Aside0.mk (below_step (by repeat (first | (with_reducible first | exact HB.out | apply below_alloc | apply pw_below_drewN | apply below_drew1 | refine below_set ?_ GE171.out) | exact HB.out)) hb); have n2_ := Aside0.mk (hbox); have n3_ := Aside0.mk ((by rw [hg]; exact (below_size (by repeat (first | (with_reducible first | exact HB.out | apply below_alloc | apply pw_below_drewN | apply below_drew1 | refine below_set ?_ GE171.out) | exact HB.out))) : w.heap.size ≤ gb175)); have n4_ := Aside0.mk ((by rw [hg]; exact (below_size (by repeat (first | (with_reducible first | exact HB.out | apply below_alloc | apply pw_below_drewN | apply below_drew1 | refine below_set ?_ GE171.out) | exact HB.out))) : w.heap.size ≤ gb175)); have n5_ := Aside0.mk ((by rw [hg]; exact Nat.ne_of_lt (blk_lt (g := gb171) (o := .cells #[.bool t168, .int .u64 t169, .int .u64 t170] 60 (0, 0)) (by (with_reducible repeat (first | refine blk_drewN ?_ _ | refine blk_drew ?_ | refine blk_alloc ?_ _)); exact BK171.out)) : gb171 ≠ gb175)); have n6_ := Aside0.mk ((by rw [hg]; exact Nat.ne_of_gt (blk_lt (g := gb171) (o := .cells #[.bool t168, .int .u64 t169, .int .u64 t170] 60 (0, 0)) (by (with_reducible repeat (first | refine blk_drewN ?_ _ | refine blk_drew ?_ | refine blk_alloc ?_ _)); exact BK171.out)) : gb175 ≠ gb171)); clear BK171; clear HB; have BK171 := n0_; have HB := n1_; have BK175 := n2_; have GW175 := n3_; have GE175 := n4_; have NB171_175 := n5_; have NB175_171 := n6_; clear n0_ n1_ n2_ n3_ n4_ n5_ n6_; clear hb hbox hg; have hnb14 := NB175_171.out; have hnc14 := NB171_175.out; have hcz15_0 : w13.cell? ⟨gb175, 0, none⟩ = some (.bool false) := (blk_cell BK175.out 0).trans rfl; have hcz15_1 : w13.cell? ⟨gb175, 1, none⟩ = some (.int .u64 0) := (blk_cell BK175.out 1).trans rfl; have hcz15_2 : w13.cell? ⟨gb175, 2, none⟩ = some (.int .u64 0) := (blk_cell BK175.out 2).trans rfl; have hfz15_0 := blk_frozen BK175.out 0; have hfz15_1 := blk_frozen BK175.out 1; have hfz15_2 := blk_frozen BK175.out 2; have hcz16_0 : w13.cell? ⟨gb171, 0, none⟩ = some (.bool t168) := (blk_cell BK171.out 0).trans rfl; have hcz16_1 : w13.cell? ⟨gb171, 1, none⟩ = some (.int .u64 t169) := (blk_cell BK171.out 1).trans rfl; have hcz16_2 : w13.cell? ⟨gb171, 2, none⟩ = some (.int .u64 t170) := (blk_cell BK171.out 2).trans rfl; have hfz16_0 := blk_frozen BK171.out 0; have hfz16_1 := blk_frozen BK171.out 1; have hfz16_2 := blk_frozen BK171.out 2) | ((with_reducible refine gate_callee (f := 75) rfl ?_); refine goesL_ (some 24) rfl rfl Try.func75 (by kernel_rfl) rfl #[.agg #[.bool t168, .int .u64 t169, .int .u64 t170], .agg #[.bool (!t172), .int .u64 t173, .int .u64 t174]] rfl (by (try simp only [List.map_toArray, List.map_cons, List.map_nil]); first | done | rfl | (simp only [List.length_drop, List.length_take]; rfl)) ?_; (with_reducible refine (fixed_exact_plus.calls k t168 t169 t170 (!t172) t173 t174 t176 t177 t178 _ A7.out).mono ?_); rintro e w17 ⟨rfl, hb⟩; refine ⟨_, rfl, ?_⟩; have n0_ := Aside0.mk (blk_below (g := gb171) (o := .cells #[.bool t168, .int .u64 t169, .int .u64 t170] 60 (0, 0)) (by (with_reducible repeat (first | refine blk_drewN ?_ _ | refine blk_drew ?_ | refine blk_alloc ?_ _)); refine blk_far ?_ NB171_175.out _; (with_reducible repeat (first | refine blk_drewN ?_ _ | refine blk_drew ?_ | refine blk_alloc ?_ _)); refine blk_far ?_ NB171_175.out _; (with_reducible repeat (first | refine blk_drewN ?_ _ | refine blk_drew ?_ | refine blk_alloc ?_ _)); refine blk_far ?_ NB171_175.out _; (with_reducible repeat (first | refine blk_drewN ?_ _ | refine blk_drew ?_ | refine blk_alloc ?_ _)); refine blk_far ?_ NB171_175.out _; (with_reducible repeat (first | refine blk_drewN ?_ _ | refine blk_drew ?_ | refine blk_alloc ?_ _)); exact BK171.out) hb); have n1_ := Aside0.mk (blk_below (g := gb175) (o := .cells #[.bool (!t172), .int .u64 t173, .int .u64 t174] 60 (0, 0)) (by (with_reducible repeat (first | refine blk_drewN ?_ _ | refine blk_drew ?_ | refine blk_alloc ?_ _)); refine blk_put (cs := #[.bool t172, .int .u64 t173, .int .u64 t174]) ?_ 0 _ rfl; (with_reducible repeat (first | refine blk_drewN ?_ _ | refine blk_drew ?_ | refine blk_alloc ?_ _)); refine blk_put (cs := #[.bool t172, .int .u64 t173, .int .u64 0]) ?_ 2 _ rfl; (with_reducible repeat (first | refine blk_drewN ?_ _ | refine blk_drew ?_ | refine blk_alloc ?_ _)); refine blk_put (cs := #[.bool t172, .int .u64 0, .int .u64 0]) ?_ 1 _ rfl; (with_reducible repeat (first | refine blk_drewN ?_ _ | refine blk_drew ?_ | refine blk_alloc ?_ _)); refine blk_put (cs := #[.bool false, .int .u64 0, .int .u64 0]) ?_ 0 _ rfl; (with_reducible repeat (first | refine blk_drewN ?_ _ | refine blk_drew ?_ | refine blk_alloc ?_ _)); exact BK175.out) hb); have n2_ := Aside0.mk (below_step (by repeat (first | (with_reducible first | exact HB.out | apply below_alloc | apply pw_below_drewN | apply below_drew1 | refine below_set ?_ GE171.out | refine below_set ?_ GE175.out) | exact HB.out)) hb); clear BK171; clear BK175; clear HB; have BK171 := n0_; have BK175 := n1_; have HB := n2_; clear n0_ n1_ n2_; (try clear hb); (try clear hb2); (try clear hk); (try clear hi)) | ((with_reducible refine gate_dst (N := 11) rfl ?_); refine box_event ?hg (N := 11) ?hd (cs := #[.bool false, .int .u64 0, .int .u64 0]) (t := 60) ?hr ?_; (case hd => rfl); (case hg => rfl); (case hr => first | (go_simp; done) | (go_simp; rfl)); intro gb179 hg w18 hbox hb; have n0_ := Aside0.mk (blk_below (g := gb171) (o := .cells #[.bool t168, .int .u64 t169, .int .u64 t170] 60 (0, 0)) (by (with_reducible repeat (first | refine blk_drewN ?_ _ | refine blk_drew ?_ | refine blk_alloc ?_ _)); exact BK171.out) hb); have n1_ := Aside0.mk (blk_below (g := gb175) (o := .cells #[.bool (!t172), .int .u64 t173, .int .u64 t174] 60 (0, 0)) (by (with_reducible repeat (first | refine blk_drewN ?_ _ | refine blk_drew ?_ | refine blk_alloc ?_ _)); exact BK175.out) hb); have n2_ := Aside0.mk (below_step (by repeat (first | (with_reducible first | exact HB.out | apply below_alloc | apply pw_below_drewN | apply below_drew1 | refine below_set ?_ GE171.out | refine below_set ?_ GE175.out) | exact HB.out)) hb); have n3_ := Aside0.mk (hbox); have n4_ := Aside0.mk ((by rw [hg]; exact (below_size (by repeat (first | (with_reducible first | exact HB.out | apply below_alloc | apply pw_below_drewN | apply below_drew1 | refine below_set ?_ GE171.out | refine below_set ?_ GE175.out) | exact HB.out))) : w.heap.size ≤ gb179)); have n5_ := Aside0.mk ((by rw [hg]; exact (below_size (by repeat (first | (with_reducible first | exact HB.out | apply below_alloc | apply pw_below_drewN | apply below_drew1 | refine below_set ?_ GE171.out | refine below_set ?_ GE175.out) | exact HB.out))) : w.heap.size ≤ gb179)); have n6_ := Aside0.mk ((by rw [hg]; exact Nat.ne_of_lt (blk_lt (g := gb171) (o := .cells #[.bool t168, .int .u64 t169, .int .u64 t170] 60 (0, 0)) (by (with_reducible repeat (first | refine blk_drewN ?_ _ | refine blk_drew ?_ | refine blk_alloc ?_ _)); exact BK171.out)) : gb171 ≠ gb179)); have n7_ := Aside0.mk ((by rw [hg]; exact Nat.ne_of_gt (blk_lt (g := gb171) (o := .cells #[.bool t168, .int .u64 t169, .int .u64 t170] 60 (0, 0)) (by (with_reducible repeat (first | refine blk_drewN ?_ _ | refine blk_drew ?_ | refine blk_alloc ?_ _)); exact BK171.out)) : gb179 ≠ gb171)); have n8_ := Aside0.mk ((by rw [hg]; exact Nat.ne_of_lt (blk_lt (g := gb175) (o := .cells #[.bool (!t172), .int .u64 t173, .int .u64 t174] 60 (0, 0)) (by (with_reducible repeat (first | refine blk_drewN ?_ _ | refine blk_drew ?_ | refine blk_alloc ?_ _)); exact BK175.out)) : gb175 ≠ gb179)); have n9_ := Aside0.mk ((by rw [hg]; exact Nat.ne_of_gt (blk_lt (g := gb175) (o := .cells #[.bool (!t172), .int .u64 t173, .int .u64 t174] 60 (0, 0)) (by (with_reducible repeat (first | refine blk_drewN ?_ _ | refine blk_drew ?_ | refine blk_alloc ?_ _)); exact BK175.out)) : gb179 ≠ gb175)); clear BK171; clear BK175; clear HB; have BK171 := n0_; have BK175 := n1_; have HB := n2_; have BK179 := n3_; have GW179 := n4_; have GE179 := n5_; have NB171_179 := n6_; have NB179_171 := n7_; have NB175_179 := n8_; have NB179_175 := n9_; clear n0_ n1_ n2_ n3_ n4_ n5_ n6_ n7_ n8_ n9_; clear hb hbox hg; have hnb19 := NB179_171.out; have hnc19 := NB171_179.out; have hnb20 := NB179_175.out; have hnc20 := NB175_179.out; have hcz21_0 : w18.cell? ⟨gb179, 0, none⟩ = some (.bool false) := (blk_cell BK179.out 0).trans rfl; have hcz21_1 : w18.cell? ⟨gb179, 1, none⟩ = some (.int .u64 0) := (blk_cell BK179.out 1).trans rfl; have hcz21_2 : w18.cell? ⟨gb179, 2, none⟩ = some (.int .u64 0) := (blk_cell BK179.out 2).trans rfl; have hfz21_0 := blk_frozen BK179.out 0; have hfz21_1 := blk_frozen BK179.out 1; have hfz21_2 := blk_frozen BK179.out 2))
    go_ret
    exact ⟨by first | rfl | (simp [errW_none, errW_some] <;> rfl) | (simp [*, errW_none, errW_some] <;> rfl), by repeat (first | (with_reducible first | exact HB.out | apply below_alloc | apply pw_below_drewN | apply below_drew1 | refine below_set ?_ GE171.out | refine below_set ?_ GE175.out | refine below_set ?_ GE179.out) | exact HB.out)⟩
  · rw [if_neg c8] at H
    have c8b0 : (t177 == 0 && (t178 == 0)) = false := by simpa using c8
    (try (have c8b1 : decide (t177 = 0 && (t178 == 0)) = false := by simpa using c8))
    (try (have c8b2 : (t177 == 0 && (t178 == 0)) = false := by simpa using c8))
    (try (have c8b3 : ¬ (t177 = 0 && (t178 == 0)) := by simpa using c8))
    clear c8
    by_cases c22 : t176 = true
    · subst c22
      have H1 : (some (-1)) = some r := by rw [if_pos rfl] at H; exact H
      clear H
      have H := H1
      clear H1
      obtain rfl := Option.some.inj H
      go_enter Try.func21, Try.ntmps21
      go_wp2_with (first | ((with_reducible refine gate_callee (f := 74) rfl ?_); refine goesL_ (some 14) rfl rfl Try.func74 (by kernel_rfl) rfl #[.int .i64 a0, .int .i64 a1] rfl (by (try simp only [List.map_toArray, List.map_cons, List.map_nil]); first | done | rfl | (simp only [List.length_drop, List.length_take]; rfl)) ?_; (with_reducible refine (fixed_product.calls a0 a1 t168 t169 t170 _ A5.out).mono ?_); rintro e w23 ⟨rfl, hb⟩; refine ⟨_, rfl, ?_⟩; have n0_ := Aside0.mk (below_step (by repeat (first | (with_reducible first | exact HB.out | apply below_alloc | apply pw_below_drewN | apply below_drew1) | exact HB.out)) hb); clear HB; have HB := n0_; clear n0_; (try clear hb); (try clear hb2); (try clear hk); (try clear hi)) | ((with_reducible refine gate_dst (N := 9) rfl ?_); refine box_event ?hg (N := 9) ?hd (cs := #[.bool false, .int .u64 0, .int .u64 0]) (t := 60) ?hr ?_; (case hd => rfl); (case hg => rfl); (case hr => first | (go_simp; done) | (go_simp; rfl)); intro gb171 hg w24 hbox hb; have n0_ := Aside0.mk (below_step (by repeat (first | (with_reducible first | exact HB.out | apply below_alloc | apply pw_below_drewN | apply below_drew1) | exact HB.out)) hb); have n1_ := Aside0.mk (hbox); have n2_ := Aside0.mk ((by rw [hg]; exact (below_size (by repeat (first | (with_reducible first | exact HB.out | apply below_alloc | apply pw_below_drewN | apply below_drew1) | exact HB.out))) : w.heap.size ≤ gb171)); have n3_ := Aside0.mk ((by rw [hg]; exact (below_size (by repeat (first | (with_reducible first | exact HB.out | apply below_alloc | apply pw_below_drewN | apply below_drew1) | exact HB.out))) : w.heap.size ≤ gb171)); clear HB; have HB := n0_; have BK171 := n1_; have GW171 := n2_; have GE171 := n3_; clear n0_ n1_ n2_ n3_; clear hb hbox hg; have hcz25_0 : w24.cell? ⟨gb171, 0, none⟩ = some (.bool false) := (blk_cell BK171.out 0).trans rfl; have hcz25_1 : w24.cell? ⟨gb171, 1, none⟩ = some (.int .u64 0) := (blk_cell BK171.out 1).trans rfl; have hcz25_2 : w24.cell? ⟨gb171, 2, none⟩ = some (.int .u64 0) := (blk_cell BK171.out 2).trans rfl; have hfz25_0 := blk_frozen BK171.out 0; have hfz25_1 := blk_frozen BK171.out 1; have hfz25_2 := blk_frozen BK171.out 2) | ((with_reducible refine gate_callee (f := 74) rfl ?_); refine goesL_ (some 17) rfl rfl Try.func74 (by kernel_rfl) rfl #[.int .i64 a2, .int .i64 a3] rfl (by (try simp only [List.map_toArray, List.map_cons, List.map_nil]); first | done | rfl | (simp only [List.length_drop, List.length_take]; rfl)) ?_; (with_reducible refine (fixed_product.calls a2 a3 t172 t173 t174 _ A6.out).mono ?_); rintro e w26 ⟨rfl, hb⟩; refine ⟨_, rfl, ?_⟩; have n0_ := Aside0.mk (blk_below (g := gb171) (o := .cells #[.bool t168, .int .u64 t169, .int .u64 t170] 60 (0, 0)) (by (with_reducible repeat (first | refine blk_drewN ?_ _ | refine blk_drew ?_ | refine blk_alloc ?_ _)); refine blk_put (cs := #[.bool t168, .int .u64 t169, .int .u64 0]) ?_ 2 _ rfl; (with_reducible repeat (first | refine blk_drewN ?_ _ | refine blk_drew ?_ | refine blk_alloc ?_ _)); refine blk_put (cs := #[.bool t168, .int .u64 0, .int .u64 0]) ?_ 1 _ rfl; (with_reducible repeat (first | refine blk_drewN ?_ _ | refine blk_drew ?_ | refine blk_alloc ?_ _)); refine blk_put (cs := #[.bool false, .int .u64 0, .int .u64 0]) ?_ 0 _ rfl; (with_reducible repeat (first | refine blk_drewN ?_ _ | refine blk_drew ?_ | refine blk_alloc ?_ _)); exact BK171.out) hb); have n1_ := Aside0.mk (below_step (by repeat (first | (with_reducible first | exact HB.out | apply below_alloc | apply pw_below_drewN | apply below_drew1 | refine below_set ?_ GE171.out) | exact HB.out)) hb); clear BK171; clear HB; have BK171 := n0_; have HB := n1_; clear n0_ n1_; (try clear hb); (try clear hb2); (try clear hk); (try clear hi)) | ((with_reducible refine gate_dst (N := 10) rfl ?_); refine box_event ?hg (N := 10) ?hd (cs := #[.bool false, .int .u64 0, .int .u64 0]) (t := 60) ?hr ?_; (case hd => rfl); (case hg => rfl); (case hr => first | (go_simp; done) | (go_simp; rfl)); intro gb175 hg w27 hbox hb; have n0_ := Aside0.mk (blk_below (g := gb171) (o := .cells #[.bool t168, .int .u64 t169, .int .u64 t170] 60 (0, 0)) (by (with_reducible repeat (first | refine blk_drewN ?_ _ | refine blk_drew ?_ | refine blk_alloc ?_ _)); exact BK171.out) hb); have n1_ := Aside0.mk (below_step (by repeat (first | (with_reducible first | exact HB.out | apply below_alloc | apply pw_below_drewN | apply below_drew1 | refine below_set ?_ GE171.out) | exact HB.out)) hb); have n2_ := Aside0.mk (hbox); have n3_ := Aside0.mk ((by rw [hg]; exact (below_size (by repeat (first | (with_reducible first | exact HB.out | apply below_alloc | apply pw_below_drewN | apply below_drew1 | refine below_set ?_ GE171.out) | exact HB.out))) : w.heap.size ≤ gb175)); have n4_ := Aside0.mk ((by rw [hg]; exact (below_size (by repeat (first | (with_reducible first | exact HB.out | apply below_alloc | apply pw_below_drewN | apply below_drew1 | refine below_set ?_ GE171.out) | exact HB.out))) : w.heap.size ≤ gb175)); have n5_ := Aside0.mk ((by rw [hg]; exact Nat.ne_of_lt (blk_lt (g := gb171) (o := .cells #[.bool t168, .int .u64 t169, .int .u64 t170] 60 (0, 0)) (by (with_reducible repeat (first | refine blk_drewN ?_ _ | refine blk_drew ?_ | refine blk_alloc ?_ _)); exact BK171.out)) : gb171 ≠ gb175)); have n6_ := Aside0.mk ((by rw [hg]; exact Nat.ne_of_gt (blk_lt (g := gb171) (o := .cells #[.bool t168, .int .u64 t169, .int .u64 t170] 60 (0, 0)) (by (with_reducible repeat (first | refine blk_drewN ?_ _ | refine blk_drew ?_ | refine blk_alloc ?_ _)); exact BK171.out)) : gb175 ≠ gb171)); clear BK171; clear HB; have BK171 := n0_; have HB := n1_; have BK175 := n2_; have GW175 := n3_; have GE175 := n4_; have NB171_175 := n5_; have NB175_171 := n6_; clear n0_ n1_ n2_ n3_ n4_ n5_ n6_; clear hb hbox hg; have hnb28 := NB175_171.out; have hnc28 := NB171_175.out; have hcz29_0 : w27.cell? ⟨gb175, 0, none⟩ = some (.bool false) := (blk_cell BK175.out 0).trans rfl; have hcz29_1 : w27.cell? ⟨gb175, 1, none⟩ = some (.int .u64 0) := (blk_cell BK175.out 1).trans rfl; have hcz29_2 : w27.cell? ⟨gb175, 2, none⟩ = some (.int .u64 0) := (blk_cell BK175.out 2).trans rfl; have hfz29_0 := blk_frozen BK175.out 0; have hfz29_1 := blk_frozen BK175.out 1; have hfz29_2 := blk_frozen BK175.out 2; have hcz30_0 : w27.cell? ⟨gb171, 0, none⟩ = some (.bool t168) := (blk_cell BK171.out 0).trans rfl; have hcz30_1 : w27.cell? ⟨gb171, 1, none⟩ = some (.int .u64 t169) := (blk_cell BK171.out 1).trans rfl; have hcz30_2 : w27.cell? ⟨gb171, 2, none⟩ = some (.int .u64 t170) := (blk_cell BK171.out 2).trans rfl; have hfz30_0 := blk_frozen BK171.out 0; have hfz30_1 := blk_frozen BK171.out 1; have hfz30_2 := blk_frozen BK171.out 2) | ((with_reducible refine gate_callee (f := 75) rfl ?_); refine goesL_ (some 24) rfl rfl Try.func75 (by kernel_rfl) rfl #[.agg #[.bool t168, .int .u64 t169, .int .u64 t170], .agg #[.bool (!t172), .int .u64 t173, .int .u64 t174]] rfl (by (try simp only [List.map_toArray, List.map_cons, List.map_nil]); first | done | rfl | (simp only [List.length_drop, List.length_take]; rfl)) ?_; (with_reducible refine (fixed_exact_plus.calls k t168 t169 t170 (!t172) t173 t174 true t177 t178 _ A7.out).mono ?_); rintro e w31 ⟨rfl, hb⟩; refine ⟨_, rfl, ?_⟩; have n0_ := Aside0.mk (blk_below (g := gb171) (o := .cells #[.bool t168, .int .u64 t169, .int .u64 t170] 60 (0, 0)) (by (with_reducible repeat (first | refine blk_drewN ?_ _ | refine blk_drew ?_ | refine blk_alloc ?_ _)); refine blk_far ?_ NB171_175.out _; (with_reducible repeat (first | refine blk_drewN ?_ _ | refine blk_drew ?_ | refine blk_alloc ?_ _)); refine blk_far ?_ NB171_175.out _; (with_reducible repeat (first | refine blk_drewN ?_ _ | refine blk_drew ?_ | refine blk_alloc ?_ _)); refine blk_far ?_ NB171_175.out _; (with_reducible repeat (first | refine blk_drewN ?_ _ | refine blk_drew ?_ | refine blk_alloc ?_ _)); refine blk_far ?_ NB171_175.out _; (with_reducible repeat (first | refine blk_drewN ?_ _ | refine blk_drew ?_ | refine blk_alloc ?_ _)); exact BK171.out) hb); have n1_ := Aside0.mk (blk_below (g := gb175) (o := .cells #[.bool (!t172), .int .u64 t173, .int .u64 t174] 60 (0, 0)) (by (with_reducible repeat (first | refine blk_drewN ?_ _ | refine blk_drew ?_ | refine blk_alloc ?_ _)); refine blk_put (cs := #[.bool t172, .int .u64 t173, .int .u64 t174]) ?_ 0 _ rfl; (with_reducible repeat (first | refine blk_drewN ?_ _ | refine blk_drew ?_ | refine blk_alloc ?_ _)); refine blk_put (cs := #[.bool t172, .int .u64 t173, .int .u64 0]) ?_ 2 _ rfl; (with_reducible repeat (first | refine blk_drewN ?_ _ | refine blk_drew ?_ | refine blk_alloc ?_ _)); refine blk_put (cs := #[.bool t172, .int .u64 0, .int .u64 0]) ?_ 1 _ rfl; (with_reducible repeat (first | refine blk_drewN ?_ _ | refine blk_drew ?_ | refine blk_alloc ?_ _)); refine blk_put (cs := #[.bool false, .int .u64 0, .int .u64 0]) ?_ 0 _ rfl; (with_reducible repeat (first | refine blk_drewN ?_ _ | refine blk_drew ?_ | refine blk_alloc ?_ _)); exact BK175.out) hb); have n2_ := Aside0.mk (below_step (by repeat (first | (with_reducible first | exact HB.out | apply below_alloc | apply pw_below_drewN | apply below_drew1 | refine below_set ?_ GE171.out | refine below_set ?_ GE175.out) | exact HB.out)) hb); clear BK171; clear BK175; clear HB; have BK171 := n0_; have BK175 := n1_; have HB := n2_; clear n0_ n1_ n2_; (try clear hb); (try clear hb2); (try clear hk); (try clear hi)) | ((with_reducible refine gate_dst (N := 11) rfl ?_); refine box_event ?hg (N := 11) ?hd (cs := #[.bool false, .int .u64 0, .int .u64 0]) (t := 60) ?hr ?_; (case hd => rfl); (case hg => rfl); (case hr => first | (go_simp; done) | (go_simp; rfl)); intro gb179 hg w32 hbox hb; have n0_ := Aside0.mk (blk_below (g := gb171) (o := .cells #[.bool t168, .int .u64 t169, .int .u64 t170] 60 (0, 0)) (by (with_reducible repeat (first | refine blk_drewN ?_ _ | refine blk_drew ?_ | refine blk_alloc ?_ _)); exact BK171.out) hb); have n1_ := Aside0.mk (blk_below (g := gb175) (o := .cells #[.bool (!t172), .int .u64 t173, .int .u64 t174] 60 (0, 0)) (by (with_reducible repeat (first | refine blk_drewN ?_ _ | refine blk_drew ?_ | refine blk_alloc ?_ _)); exact BK175.out) hb); have n2_ := Aside0.mk (below_step (by repeat (first | (with_reducible first | exact HB.out | apply below_alloc | apply pw_below_drewN | apply below_drew1 | refine below_set ?_ GE171.out | refine below_set ?_ GE175.out) | exact HB.out)) hb); have n3_ := Aside0.mk (hbox); have n4_ := Aside0.mk ((by rw [hg]; exact (below_size (by repeat (first | (with_reducible first | exact HB.out | apply below_alloc | apply pw_below_drewN | apply below_drew1 | refine below_set ?_ GE171.out | refine below_set ?_ GE175.out) | exact HB.out))) : w.heap.size ≤ gb179)); have n5_ := Aside0.mk ((by rw [hg]; exact (below_size (by repeat (first | (with_reducible first | exact HB.out | apply below_alloc | apply pw_below_drewN | apply below_drew1 | refine below_set ?_ GE171.out | refine below_set ?_ GE175.out) | exact HB.out))) : w.heap.size ≤ gb179)); have n6_ := Aside0.mk ((by rw [hg]; exact Nat.ne_of_lt (blk_lt (g := gb171) (o := .cells #[.bool t168, .int .u64 t169, .int .u64 t170] 60 (0, 0)) (by (with_reducible repeat (first | refine blk_drewN ?_ _ | refine blk_drew ?_ | refine blk_alloc ?_ _)); exact BK171.out)) : gb171 ≠ gb179)); have n7_ := Aside0.mk ((by rw [hg]; exact Nat.ne_of_gt (blk_lt (g := gb171) (o := .cells #[.bool t168, .int .u64 t169, .int .u64 t170] 60 (0, 0)) (by (with_reducible repeat (first | refine blk_drewN ?_ _ | refine blk_drew ?_ | refine blk_alloc ?_ _)); exact BK171.out)) : gb179 ≠ gb171)); have n8_ := Aside0.mk ((by rw [hg]; exact Nat.ne_of_lt (blk_lt (g := gb175) (o := .cells #[.bool (!t172), .int .u64 t173, .int .u64 t174] 60 (0, 0)) (by (with_reducible repeat (first | refine blk_drewN ?_ _ | refine blk_drew ?_ | refine blk_alloc ?_ _)); exact BK175.out)) : gb175 ≠ gb179)); have n9_ := Aside0.mk ((by rw [hg]; exact Nat.ne_of_gt (blk_lt (g := gb175) (o := .cells #[.bool (!t172), .int .u64 t173, .int .u64 t174] 60 (0, 0)) (by (with_reducible repeat (first | refine blk_drewN ?_ _ | refine blk_drew ?_ | refine blk_alloc ?_ _)); exact BK175.out)) : gb179 ≠ gb175)); clear BK171; clear BK175; clear HB; have BK171 := n0_; have BK175 := n1_; have HB := n2_; have BK179 := n3_; have GW179 := n4_; have GE179 := n5_; have NB171_179 := n6_; have NB179_171 := n7_; have NB175_179 := n8_; have NB179_175 := n9_; clear n0_ n1_ n2_ n3_ n4_ n5_ n6_ n7_ n8_ n9_; clear hb hbox hg; have hnb33 := NB179_171.out; have hnc33 := NB171_179.out; have hnb34 := NB179_175.out; have hnc34 := NB175_179.out; have hcz35_0 : w32.cell? ⟨gb179, 0, none⟩ = some (.bool false) := (blk_cell BK179.out 0).trans rfl; have hcz35_1 : w32.cell? ⟨gb179, 1, none⟩ = some (.int .u64 0) := (blk_cell BK179.out 1).trans rfl; have hcz35_2 : w32.cell? ⟨gb179, 2, none⟩ = some (.int .u64 0) := (blk_cell BK179.out 2).trans rfl; have hfz35_0 := blk_frozen BK179.out 0; have hfz35_1 := blk_frozen BK179.out 1; have hfz35_2 := blk_frozen BK179.out 2))
      go_ret
      exact ⟨by first | rfl | (simp [errW_none, errW_some] <;> rfl) | (simp [*, errW_none, errW_some] <;> rfl), by repeat (first | (with_reducible first | exact HB.out | apply below_alloc | apply pw_below_drewN | apply below_drew1 | refine below_set ?_ GE171.out | refine below_set ?_ GE175.out | refine below_set ?_ GE179.out) | exact HB.out)⟩
    · replace c22 := Bool.eq_false_iff.mpr c22
      subst c22
      have H1 : (some 1) = some r := by rw [if_neg (show ¬ (false = true) by decide)] at H; exact H
      clear H
      have H := H1
      clear H1
      obtain rfl := Option.some.inj H
      go_enter Try.func21, Try.ntmps21
      go_wp2_with (first | ((with_reducible refine gate_callee (f := 74) rfl ?_); refine goesL_ (some 14) rfl rfl Try.func74 (by kernel_rfl) rfl #[.int .i64 a0, .int .i64 a1] rfl (by (try simp only [List.map_toArray, List.map_cons, List.map_nil]); first | done | rfl | (simp only [List.length_drop, List.length_take]; rfl)) ?_; (with_reducible refine (fixed_product.calls a0 a1 t168 t169 t170 _ A5.out).mono ?_); rintro e w36 ⟨rfl, hb⟩; refine ⟨_, rfl, ?_⟩; have n0_ := Aside0.mk (below_step (by repeat (first | (with_reducible first | exact HB.out | apply below_alloc | apply pw_below_drewN | apply below_drew1) | exact HB.out)) hb); clear HB; have HB := n0_; clear n0_; (try clear hb); (try clear hb2); (try clear hk); (try clear hi)) | ((with_reducible refine gate_dst (N := 9) rfl ?_); refine box_event ?hg (N := 9) ?hd (cs := #[.bool false, .int .u64 0, .int .u64 0]) (t := 60) ?hr ?_; (case hd => rfl); (case hg => rfl); (case hr => first | (go_simp; done) | (go_simp; rfl)); intro gb171 hg w37 hbox hb; have n0_ := Aside0.mk (below_step (by repeat (first | (with_reducible first | exact HB.out | apply below_alloc | apply pw_below_drewN | apply below_drew1) | exact HB.out)) hb); have n1_ := Aside0.mk (hbox); have n2_ := Aside0.mk ((by rw [hg]; exact (below_size (by repeat (first | (with_reducible first | exact HB.out | apply below_alloc | apply pw_below_drewN | apply below_drew1) | exact HB.out))) : w.heap.size ≤ gb171)); have n3_ := Aside0.mk ((by rw [hg]; exact (below_size (by repeat (first | (with_reducible first | exact HB.out | apply below_alloc | apply pw_below_drewN | apply below_drew1) | exact HB.out))) : w.heap.size ≤ gb171)); clear HB; have HB := n0_; have BK171 := n1_; have GW171 := n2_; have GE171 := n3_; clear n0_ n1_ n2_ n3_; clear hb hbox hg; have hcz38_0 : w37.cell? ⟨gb171, 0, none⟩ = some (.bool false) := (blk_cell BK171.out 0).trans rfl; have hcz38_1 : w37.cell? ⟨gb171, 1, none⟩ = some (.int .u64 0) := (blk_cell BK171.out 1).trans rfl; have hcz38_2 : w37.cell? ⟨gb171, 2, none⟩ = some (.int .u64 0) := (blk_cell BK171.out 2).trans rfl; have hfz38_0 := blk_frozen BK171.out 0; have hfz38_1 := blk_frozen BK171.out 1; have hfz38_2 := blk_frozen BK171.out 2) | ((with_reducible refine gate_callee (f := 74) rfl ?_); refine goesL_ (some 17) rfl rfl Try.func74 (by kernel_rfl) rfl #[.int .i64 a2, .int .i64 a3] rfl (by (try simp only [List.map_toArray, List.map_cons, List.map_nil]); first | done | rfl | (simp only [List.length_drop, List.length_take]; rfl)) ?_; (with_reducible refine (fixed_product.calls a2 a3 t172 t173 t174 _ A6.out).mono ?_); rintro e w39 ⟨rfl, hb⟩; refine ⟨_, rfl, ?_⟩; have n0_ := Aside0.mk (blk_below (g := gb171) (o := .cells #[.bool t168, .int .u64 t169, .int .u64 t170] 60 (0, 0)) (by (with_reducible repeat (first | refine blk_drewN ?_ _ | refine blk_drew ?_ | refine blk_alloc ?_ _)); refine blk_put (cs := #[.bool t168, .int .u64 t169, .int .u64 0]) ?_ 2 _ rfl; (with_reducible repeat (first | refine blk_drewN ?_ _ | refine blk_drew ?_ | refine blk_alloc ?_ _)); refine blk_put (cs := #[.bool t168, .int .u64 0, .int .u64 0]) ?_ 1 _ rfl; (with_reducible repeat (first | refine blk_drewN ?_ _ | refine blk_drew ?_ | refine blk_alloc ?_ _)); refine blk_put (cs := #[.bool false, .int .u64 0, .int .u64 0]) ?_ 0 _ rfl; (with_reducible repeat (first | refine blk_drewN ?_ _ | refine blk_drew ?_ | refine blk_alloc ?_ _)); exact BK171.out) hb); have n1_ := Aside0.mk (below_step (by repeat (first | (with_reducible first | exact HB.out | apply below_alloc | apply pw_below_drewN | apply below_drew1 | refine below_set ?_ GE171.out) | exact HB.out)) hb); clear BK171; clear HB; have BK171 := n0_; have HB := n1_; clear n0_ n1_; (try clear hb); (try clear hb2); (try clear hk); (try clear hi)) | ((with_reducible refine gate_dst (N := 10) rfl ?_); refine box_event ?hg (N := 10) ?hd (cs := #[.bool false, .int .u64 0, .int .u64 0]) (t := 60) ?hr ?_; (case hd => rfl); (case hg => rfl); (case hr => first | (go_simp; done) | (go_simp; rfl)); intro gb175 hg w40 hbox hb; have n0_ := Aside0.mk (blk_below (g := gb171) (o := .cells #[.bool t168, .int .u64 t169, .int .u64 t170] 60 (0, 0)) (by (with_reducible repeat (first | refine blk_drewN ?_ _ | refine blk_drew ?_ | refine blk_alloc ?_ _)); exact BK171.out) hb); have n1_ := Aside0.mk (below_step (by repeat (first | (with_reducible first | exact HB.out | apply below_alloc | apply pw_below_drewN | apply below_drew1 | refine below_set ?_ GE171.out) | exact HB.out)) hb); have n2_ := Aside0.mk (hbox); have n3_ := Aside0.mk ((by rw [hg]; exact (below_size (by repeat (first | (with_reducible first | exact HB.out | apply below_alloc | apply pw_below_drewN | apply below_drew1 | refine below_set ?_ GE171.out) | exact HB.out))) : w.heap.size ≤ gb175)); have n4_ := Aside0.mk ((by rw [hg]; exact (below_size (by repeat (first | (with_reducible first | exact HB.out | apply below_alloc | apply pw_below_drewN | apply below_drew1 | refine below_set ?_ GE171.out) | exact HB.out))) : w.heap.size ≤ gb175)); have n5_ := Aside0.mk ((by rw [hg]; exact Nat.ne_of_lt (blk_lt (g := gb171) (o := .cells #[.bool t168, .int .u64 t169, .int .u64 t170] 60 (0, 0)) (by (with_reducible repeat (first | refine blk_drewN ?_ _ | refine blk_drew ?_ | refine blk_alloc ?_ _)); exact BK171.out)) : gb171 ≠ gb175)); have n6_ := Aside0.mk ((by rw [hg]; exact Nat.ne_of_gt (blk_lt (g := gb171) (o := .cells #[.bool t168, .int .u64 t169, .int .u64 t170] 60 (0, 0)) (by (with_reducible repeat (first | refine blk_drewN ?_ _ | refine blk_drew ?_ | refine blk_alloc ?_ _)); exact BK171.out)) : gb175 ≠ gb171)); clear BK171; clear HB; have BK171 := n0_; have HB := n1_; have BK175 := n2_; have GW175 := n3_; have GE175 := n4_; have NB171_175 := n5_; have NB175_171 := n6_; clear n0_ n1_ n2_ n3_ n4_ n5_ n6_; clear hb hbox hg; have hnb41 := NB175_171.out; have hnc41 := NB171_175.out; have hcz42_0 : w40.cell? ⟨gb175, 0, none⟩ = some (.bool false) := (blk_cell BK175.out 0).trans rfl; have hcz42_1 : w40.cell? ⟨gb175, 1, none⟩ = some (.int .u64 0) := (blk_cell BK175.out 1).trans rfl; have hcz42_2 : w40.cell? ⟨gb175, 2, none⟩ = some (.int .u64 0) := (blk_cell BK175.out 2).trans rfl; have hfz42_0 := blk_frozen BK175.out 0; have hfz42_1 := blk_frozen BK175.out 1; have hfz42_2 := blk_frozen BK175.out 2; have hcz43_0 : w40.cell? ⟨gb171, 0, none⟩ = some (.bool t168) := (blk_cell BK171.out 0).trans rfl; have hcz43_1 : w40.cell? ⟨gb171, 1, none⟩ = some (.int .u64 t169) := (blk_cell BK171.out 1).trans rfl; have hcz43_2 : w40.cell? ⟨gb171, 2, none⟩ = some (.int .u64 t170) := (blk_cell BK171.out 2).trans rfl; have hfz43_0 := blk_frozen BK171.out 0; have hfz43_1 := blk_frozen BK171.out 1; have hfz43_2 := blk_frozen BK171.out 2) | ((with_reducible refine gate_callee (f := 75) rfl ?_); refine goesL_ (some 24) rfl rfl Try.func75 (by kernel_rfl) rfl #[.agg #[.bool t168, .int .u64 t169, .int .u64 t170], .agg #[.bool (!t172), .int .u64 t173, .int .u64 t174]] rfl (by (try simp only [List.map_toArray, List.map_cons, List.map_nil]); first | done | rfl | (simp only [List.length_drop, List.length_take]; rfl)) ?_; (with_reducible refine (fixed_exact_plus.calls k t168 t169 t170 (!t172) t173 t174 false t177 t178 _ A7.out).mono ?_); rintro e w44 ⟨rfl, hb⟩; refine ⟨_, rfl, ?_⟩; have n0_ := Aside0.mk (blk_below (g := gb171) (o := .cells #[.bool t168, .int .u64 t169, .int .u64 t170] 60 (0, 0)) (by (with_reducible repeat (first | refine blk_drewN ?_ _ | refine blk_drew ?_ | refine blk_alloc ?_ _)); refine blk_far ?_ NB171_175.out _; (with_reducible repeat (first | refine blk_drewN ?_ _ | refine blk_drew ?_ | refine blk_alloc ?_ _)); refine blk_far ?_ NB171_175.out _; (with_reducible repeat (first | refine blk_drewN ?_ _ | refine blk_drew ?_ | refine blk_alloc ?_ _)); refine blk_far ?_ NB171_175.out _; (with_reducible repeat (first | refine blk_drewN ?_ _ | refine blk_drew ?_ | refine blk_alloc ?_ _)); refine blk_far ?_ NB171_175.out _; (with_reducible repeat (first | refine blk_drewN ?_ _ | refine blk_drew ?_ | refine blk_alloc ?_ _)); exact BK171.out) hb); have n1_ := Aside0.mk (blk_below (g := gb175) (o := .cells #[.bool (!t172), .int .u64 t173, .int .u64 t174] 60 (0, 0)) (by (with_reducible repeat (first | refine blk_drewN ?_ _ | refine blk_drew ?_ | refine blk_alloc ?_ _)); refine blk_put (cs := #[.bool t172, .int .u64 t173, .int .u64 t174]) ?_ 0 _ rfl; (with_reducible repeat (first | refine blk_drewN ?_ _ | refine blk_drew ?_ | refine blk_alloc ?_ _)); refine blk_put (cs := #[.bool t172, .int .u64 t173, .int .u64 0]) ?_ 2 _ rfl; (with_reducible repeat (first | refine blk_drewN ?_ _ | refine blk_drew ?_ | refine blk_alloc ?_ _)); refine blk_put (cs := #[.bool t172, .int .u64 0, .int .u64 0]) ?_ 1 _ rfl; (with_reducible repeat (first | refine blk_drewN ?_ _ | refine blk_drew ?_ | refine blk_alloc ?_ _)); refine blk_put (cs := #[.bool false, .int .u64 0, .int .u64 0]) ?_ 0 _ rfl; (with_reducible repeat (first | refine blk_drewN ?_ _ | refine blk_drew ?_ | refine blk_alloc ?_ _)); exact BK175.out) hb); have n2_ := Aside0.mk (below_step (by repeat (first | (with_reducible first | exact HB.out | apply below_alloc | apply pw_below_drewN | apply below_drew1 | refine below_set ?_ GE171.out | refine below_set ?_ GE175.out) | exact HB.out)) hb); clear BK171; clear BK175; clear HB; have BK171 := n0_; have BK175 := n1_; have HB := n2_; clear n0_ n1_ n2_; (try clear hb); (try clear hb2); (try clear hk); (try clear hi)) | ((with_reducible refine gate_dst (N := 11) rfl ?_); refine box_event ?hg (N := 11) ?hd (cs := #[.bool false, .int .u64 0, .int .u64 0]) (t := 60) ?hr ?_; (case hd => rfl); (case hg => rfl); (case hr => first | (go_simp; done) | (go_simp; rfl)); intro gb179 hg w45 hbox hb; have n0_ := Aside0.mk (blk_below (g := gb171) (o := .cells #[.bool t168, .int .u64 t169, .int .u64 t170] 60 (0, 0)) (by (with_reducible repeat (first | refine blk_drewN ?_ _ | refine blk_drew ?_ | refine blk_alloc ?_ _)); exact BK171.out) hb); have n1_ := Aside0.mk (blk_below (g := gb175) (o := .cells #[.bool (!t172), .int .u64 t173, .int .u64 t174] 60 (0, 0)) (by (with_reducible repeat (first | refine blk_drewN ?_ _ | refine blk_drew ?_ | refine blk_alloc ?_ _)); exact BK175.out) hb); have n2_ := Aside0.mk (below_step (by repeat (first | (with_reducible first | exact HB.out | apply below_alloc | apply pw_below_drewN | apply below_drew1 | refine below_set ?_ GE171.out | refine below_set ?_ GE175.out) | exact HB.out)) hb); have n3_ := Aside0.mk (hbox); have n4_ := Aside0.mk ((by rw [hg]; exact (below_size (by repeat (first | (with_reducible first | exact HB.out | apply below_alloc | apply pw_below_drewN | apply below_drew1 | refine below_set ?_ GE171.out | refine below_set ?_ GE175.out) | exact HB.out))) : w.heap.size ≤ gb179)); have n5_ := Aside0.mk ((by rw [hg]; exact (below_size (by repeat (first | (with_reducible first | exact HB.out | apply below_alloc | apply pw_below_drewN | apply below_drew1 | refine below_set ?_ GE171.out | refine below_set ?_ GE175.out) | exact HB.out))) : w.heap.size ≤ gb179)); have n6_ := Aside0.mk ((by rw [hg]; exact Nat.ne_of_lt (blk_lt (g := gb171) (o := .cells #[.bool t168, .int .u64 t169, .int .u64 t170] 60 (0, 0)) (by (with_reducible repeat (first | refine blk_drewN ?_ _ | refine blk_drew ?_ | refine blk_alloc ?_ _)); exact BK171.out)) : gb171 ≠ gb179)); have n7_ := Aside0.mk ((by rw [hg]; exact Nat.ne_of_gt (blk_lt (g := gb171) (o := .cells #[.bool t168, .int .u64 t169, .int .u64 t170] 60 (0, 0)) (by (with_reducible repeat (first | refine blk_drewN ?_ _ | refine blk_drew ?_ | refine blk_alloc ?_ _)); exact BK171.out)) : gb179 ≠ gb171)); have n8_ := Aside0.mk ((by rw [hg]; exact Nat.ne_of_lt (blk_lt (g := gb175) (o := .cells #[.bool (!t172), .int .u64 t173, .int .u64 t174] 60 (0, 0)) (by (with_reducible repeat (first | refine blk_drewN ?_ _ | refine blk_drew ?_ | refine blk_alloc ?_ _)); exact BK175.out)) : gb175 ≠ gb179)); have n9_ := Aside0.mk ((by rw [hg]; exact Nat.ne_of_gt (blk_lt (g := gb175) (o := .cells #[.bool (!t172), .int .u64 t173, .int .u64 t174] 60 (0, 0)) (by (with_reducible repeat (first | refine blk_drewN ?_ _ | refine blk_drew ?_ | refine blk_alloc ?_ _)); exact BK175.out)) : gb179 ≠ gb175)); clear BK171; clear BK175; clear HB; have BK171 := n0_; have BK175 := n1_; have HB := n2_; have BK179 := n3_; have GW179 := n4_; have GE179 := n5_; have NB171_179 := n6_; have NB179_171 := n7_; have NB175_179 := n8_; have NB179_175 := n9_; clear n0_ n1_ n2_ n3_ n4_ n5_ n6_ n7_ n8_ n9_; clear hb hbox hg; have hnb46 := NB179_171.out; have hnc46 := NB171_179.out; have hnb47 := NB179_175.out; have hnc47 := NB175_179.out; have hcz48_0 : w45.cell? ⟨gb179, 0, none⟩ = some (.bool false) := (blk_cell BK179.out 0).trans rfl; have hcz48_1 : w45.cell? ⟨gb179, 1, none⟩ = some (.int .u64 0) := (blk_cell BK179.out 1).trans rfl; have hcz48_2 : w45.cell? ⟨gb179, 2, none⟩ = some (.int .u64 0) := (blk_cell BK179.out 2).trans rfl; have hfz48_0 := blk_frozen BK179.out 0; have hfz48_1 := blk_frozen BK179.out 1; have hfz48_2 := blk_frozen BK179.out 2))
      go_ret
      exact ⟨by first | rfl | (simp [errW_none, errW_some] <;> rfl) | (simp [*, errW_none, errW_some] <;> rfl), by repeat (first | (with_reducible first | exact HB.out | apply below_alloc | apply pw_below_drewN | apply below_drew1 | refine below_set ?_ GE171.out | refine below_set ?_ GE175.out | refine below_set ?_ GE179.out) | exact HB.out)⟩
def fixed_Floor.f (a0_0 : Int) (a0_1 : Bool) : Option (Int) := (fixed_sound.f a0_0 a0_1).bind fun bt181 => (some (bt181.1 / 4294967296))
set_option maxHeartbeats 8000000 in
set_option maxRecDepth 100000 in
theorem fixed_Floor.calls (a0_0 : Int) (a0_1 : Bool) (r : Int) (w : World) (h : fixed_Floor.f a0_0 a0_1 = some r) :
    Calls Try.prog 17 #[.agg #[.int .i64 a0_0, .bool a0_1]] w fun e w' => e = .returned (.int .i64 r) ∧ Below w.heap.size w w' := by
  have hu23 := Try.underlying23
  have hfld23_0 := @fld23_0
  have HB := Aside0.mk (Below.refl w.heap.size w)
  have H : ((fixed_sound.f a0_0 a0_1).bind fun bt181 => (some (bt181.1 / 4294967296))) = some r := h
  clear h
  replace H := Option.bind_eq_some_iff.mp H
  obtain ⟨⟨t181, t182⟩, A20, H⟩ := H
  replace H : (some (t181 / 4294967296)) = some r := H
  have A2 := Aside0.mk A20
  clear A20
  obtain rfl := Option.some.inj H
  go_enter Try.func17, Try.ntmps17
  go_wp2_with (first | ((with_reducible refine gate_dst (N := 1) rfl ?_); refine box_event ?hg (N := 1) ?hd (cs := #[.int .i64 a0_0, .bool a0_1]) (t := 23) ?hr ?_; (case hd => rfl); (case hg => rfl); (case hr => first | (go_simp; done) | (go_simp; rfl)); intro gb180 hg w3 hbox hb; have n0_ := Aside0.mk (below_step (by repeat (first | (with_reducible first | exact HB.out | apply below_alloc | apply pw_below_drewN | apply below_drew1) | exact HB.out)) hb); have n1_ := Aside0.mk (hbox); have n2_ := Aside0.mk ((by rw [hg]; exact (below_size (by repeat (first | (with_reducible first | exact HB.out | apply below_alloc | apply pw_below_drewN | apply below_drew1) | exact HB.out))) : w.heap.size ≤ gb180)); have n3_ := Aside0.mk ((by rw [hg]; exact (below_size (by repeat (first | (with_reducible first | exact HB.out | apply below_alloc | apply pw_below_drewN | apply below_drew1) | exact HB.out))) : w.heap.size ≤ gb180)); clear HB; have HB := n0_; have BK180 := n1_; have GW180 := n2_; have GE180 := n3_; clear n0_ n1_ n2_ n3_; clear hb hbox hg; have hcz4_0 : w3.cell? ⟨gb180, 0, none⟩ = some (.int .i64 a0_0) := (blk_cell BK180.out 0).trans rfl; have hcz4_1 : w3.cell? ⟨gb180, 1, none⟩ = some (.bool a0_1) := (blk_cell BK180.out 1).trans rfl; have hfz4_0 := blk_frozen BK180.out 0; have hfz4_1 := blk_frozen BK180.out 1) | ((with_reducible refine gate_callee (f := 72) rfl ?_); refine goesL_ (some 4) rfl rfl Try.func72 (by kernel_rfl) rfl #[.agg #[.int .i64 a0_0, .bool a0_1]] rfl (by (try simp only [List.map_toArray, List.map_cons, List.map_nil]); first | done | rfl | (simp only [List.length_drop, List.length_take]; rfl)) ?_; (with_reducible refine (fixed_sound.calls a0_0 a0_1 t181 t182 _ A2.out).mono ?_); rintro e w5 ⟨rfl, hb⟩; refine ⟨_, rfl, ?_⟩; have n0_ := Aside0.mk (blk_below (g := gb180) (o := .cells #[.int .i64 a0_0, .bool a0_1] 23 (0, 0)) (by (with_reducible repeat (first | refine blk_drewN ?_ _ | refine blk_drew ?_ | refine blk_alloc ?_ _)); exact BK180.out) hb); have n1_ := Aside0.mk (below_step (by repeat (first | (with_reducible first | exact HB.out | apply below_alloc | apply pw_below_drewN | apply below_drew1 | refine below_set ?_ GE180.out) | exact HB.out)) hb); clear BK180; clear HB; have BK180 := n0_; have HB := n1_; clear n0_ n1_; (try clear hb); (try clear hb2); (try clear hk); (try clear hi)))
  go_ret
  exact ⟨by first | rfl | (simp [errW_none, errW_some] <;> rfl) | (simp [*, errW_none, errW_some] <;> rfl), by repeat (first | (with_reducible first | exact HB.out | apply below_alloc | apply pw_below_drewN | apply below_drew1 | refine below_set ?_ GE180.out) | exact HB.out)⟩
def fixed_Round.f (a0_0 : Int) (a0_1 : Bool) : Option (Int) := (fixed_sound.f a0_0 a0_1).bind fun bt184 => (if ((bt184.1) % 4294967296) ≥ 2147483648 then (some (wrap64 ((bt184.1 / 4294967296) + 1))) else (some (bt184.1 / 4294967296)))
set_option maxHeartbeats 8000000 in
set_option maxRecDepth 100000 in
theorem fixed_Round.calls (a0_0 : Int) (a0_1 : Bool) (r : Int) (w : World) (h : fixed_Round.f a0_0 a0_1 = some r) :
    Calls Try.prog 19 #[.agg #[.int .i64 a0_0, .bool a0_1]] w fun e w' => e = .returned (.int .i64 r) ∧ Below w.heap.size w w' := by
  have hu23 := Try.underlying23
  have hfld23_0 := @fld23_0
  have HB := Aside0.mk (Below.refl w.heap.size w)
  have H : ((fixed_sound.f a0_0 a0_1).bind fun bt184 => (if ((bt184.1) % 4294967296) ≥ 2147483648 then (some (wrap64 ((bt184.1 / 4294967296) + 1))) else (some (bt184.1 / 4294967296)))) = some r := h
  clear h
  replace H := Option.bind_eq_some_iff.mp H
  obtain ⟨⟨t184, t185⟩, A20, H⟩ := H
  replace H : (if ((t184) % 4294967296) ≥ 2147483648 then (some (wrap64 ((t184 / 4294967296) + 1))) else (some (t184 / 4294967296))) = some r := H
  have A2 := Aside0.mk A20
  clear A20
  by_cases c3 : ((t184) % 4294967296) ≥ 2147483648
  · rw [if_pos c3] at H
    have c3b0 : decide (2147483648 ≤ ((t184) % 4294967296)) = true := decide_eq_true c3
    clear c3
    obtain rfl := Option.some.inj H
    go_enter Try.func19, Try.ntmps19
    go_wp2_with (first | ((with_reducible refine gate_dst (N := 1) rfl ?_); refine box_event ?hg (N := 1) ?hd (cs := #[.int .i64 a0_0, .bool a0_1]) (t := 23) ?hr ?_; (case hd => rfl); (case hg => rfl); (case hr => first | (go_simp; done) | (go_simp; rfl)); intro gb183 hg w4 hbox hb; have n0_ := Aside0.mk (below_step (by repeat (first | (with_reducible first | exact HB.out | apply below_alloc | apply pw_below_drewN | apply below_drew1) | exact HB.out)) hb); have n1_ := Aside0.mk (hbox); have n2_ := Aside0.mk ((by rw [hg]; exact (below_size (by repeat (first | (with_reducible first | exact HB.out | apply below_alloc | apply pw_below_drewN | apply below_drew1) | exact HB.out))) : w.heap.size ≤ gb183)); have n3_ := Aside0.mk ((by rw [hg]; exact (below_size (by repeat (first | (with_reducible first | exact HB.out | apply below_alloc | apply pw_below_drewN | apply below_drew1) | exact HB.out))) : w.heap.size ≤ gb183)); clear HB; have HB := n0_; have BK183 := n1_; have GW183 := n2_; have GE183 := n3_; clear n0_ n1_ n2_ n3_; clear hb hbox hg; have hcz5_0 : w4.cell? ⟨gb183, 0, none⟩ = some (.int .i64 a0_0) := (blk_cell BK183.out 0).trans rfl; have hcz5_1 : w4.cell? ⟨gb183, 1, none⟩ = some (.bool a0_1) := (blk_cell BK183.out 1).trans rfl; have hfz5_0 := blk_frozen BK183.out 0; have hfz5_1 := blk_frozen BK183.out 1) | ((with_reducible refine gate_callee (f := 72) rfl ?_); refine goesL_ (some 6) rfl rfl Try.func72 (by kernel_rfl) rfl #[.agg #[.int .i64 a0_0, .bool a0_1]] rfl (by (try simp only [List.map_toArray, List.map_cons, List.map_nil]); first | done | rfl | (simp only [List.length_drop, List.length_take]; rfl)) ?_; (with_reducible refine (fixed_sound.calls a0_0 a0_1 t184 t185 _ A2.out).mono ?_); rintro e w6 ⟨rfl, hb⟩; refine ⟨_, rfl, ?_⟩; have n0_ := Aside0.mk (blk_below (g := gb183) (o := .cells #[.int .i64 a0_0, .bool a0_1] 23 (0, 0)) (by (with_reducible repeat (first | refine blk_drewN ?_ _ | refine blk_drew ?_ | refine blk_alloc ?_ _)); exact BK183.out) hb); have n1_ := Aside0.mk (below_step (by repeat (first | (with_reducible first | exact HB.out | apply below_alloc | apply pw_below_drewN | apply below_drew1 | refine below_set ?_ GE183.out) | exact HB.out)) hb); clear BK183; clear HB; have BK183 := n0_; have HB := n1_; clear n0_ n1_; (try clear hb); (try clear hb2); (try clear hk); (try clear hi)))
    go_ret
    exact ⟨by first | rfl | (simp [errW_none, errW_some] <;> rfl) | (simp [*, errW_none, errW_some] <;> rfl), by repeat (first | (with_reducible first | exact HB.out | apply below_alloc | apply pw_below_drewN | apply below_drew1 | refine below_set ?_ GE183.out) | exact HB.out)⟩
  · rw [if_neg c3] at H
    have c3b0 : decide (2147483648 ≤ ((t184) % 4294967296)) = false := decide_eq_false c3
    clear c3
    obtain rfl := Option.some.inj H
    go_enter Try.func19, Try.ntmps19
    go_wp2_with (first | ((with_reducible refine gate_dst (N := 1) rfl ?_); refine box_event ?hg (N := 1) ?hd (cs := #[.int .i64 a0_0, .bool a0_1]) (t := 23) ?hr ?_; (case hd => rfl); (case hg => rfl); (case hr => first | (go_simp; done) | (go_simp; rfl)); intro gb183 hg w7 hbox hb; have n0_ := Aside0.mk (below_step (by repeat (first | (with_reducible first | exact HB.out | apply below_alloc | apply pw_below_drewN | apply below_drew1) | exact HB.out)) hb); have n1_ := Aside0.mk (hbox); have n2_ := Aside0.mk ((by rw [hg]; exact (below_size (by repeat (first | (with_reducible first | exact HB.out | apply below_alloc | apply pw_below_drewN | apply below_drew1) | exact HB.out))) : w.heap.size ≤ gb183)); have n3_ := Aside0.mk ((by rw [hg]; exact (below_size (by repeat (first | (with_reducible first | exact HB.out | apply below_alloc | apply pw_below_drewN | apply below_drew1) | exact HB.out))) : w.heap.size ≤ gb183)); clear HB; have HB := n0_; have BK183 := n1_; have GW183 := n2_; have GE183 := n3_; clear n0_ n1_ n2_ n3_; clear hb hbox hg; have hcz8_0 : w7.cell? ⟨gb183, 0, none⟩ = some (.int .i64 a0_0) := (blk_cell BK183.out 0).trans rfl; have hcz8_1 : w7.cell? ⟨gb183, 1, none⟩ = some (.bool a0_1) := (blk_cell BK183.out 1).trans rfl; have hfz8_0 := blk_frozen BK183.out 0; have hfz8_1 := blk_frozen BK183.out 1) | ((with_reducible refine gate_callee (f := 72) rfl ?_); refine goesL_ (some 6) rfl rfl Try.func72 (by kernel_rfl) rfl #[.agg #[.int .i64 a0_0, .bool a0_1]] rfl (by (try simp only [List.map_toArray, List.map_cons, List.map_nil]); first | done | rfl | (simp only [List.length_drop, List.length_take]; rfl)) ?_; (with_reducible refine (fixed_sound.calls a0_0 a0_1 t184 t185 _ A2.out).mono ?_); rintro e w9 ⟨rfl, hb⟩; refine ⟨_, rfl, ?_⟩; have n0_ := Aside0.mk (blk_below (g := gb183) (o := .cells #[.int .i64 a0_0, .bool a0_1] 23 (0, 0)) (by (with_reducible repeat (first | refine blk_drewN ?_ _ | refine blk_drew ?_ | refine blk_alloc ?_ _)); exact BK183.out) hb); have n1_ := Aside0.mk (below_step (by repeat (first | (with_reducible first | exact HB.out | apply below_alloc | apply pw_below_drewN | apply below_drew1 | refine below_set ?_ GE183.out) | exact HB.out)) hb); clear BK183; clear HB; have BK183 := n0_; have HB := n1_; clear n0_ n1_; (try clear hb); (try clear hb2); (try clear hk); (try clear hi)))
    go_ret
    exact ⟨by first | rfl | (simp [errW_none, errW_some] <;> rfl) | (simp [*, errW_none, errW_some] <;> rfl), by repeat (first | (with_reducible first | exact HB.out | apply below_alloc | apply pw_below_drewN | apply below_drew1 | refine below_set ?_ GE183.out) | exact HB.out)⟩
def fixed_Neg.f (a0_0 : Int) (a0_1 : Bool) : Option (Int × Bool) := (fixed_sound.f a0_0 a0_1).bind fun bt195 => (some (wrap64 (-bt195.1), bt195.2))
set_option maxHeartbeats 8000000 in
set_option maxRecDepth 100000 in
theorem fixed_Neg.calls (a0_0 : Int) (a0_1 : Bool) (r1 : Int) (r2 : Bool) (w : World) (h : fixed_Neg.f a0_0 a0_1 = some (r1, r2)) :
    Calls Try.prog 41 #[.agg #[.int .i64 a0_0, .bool a0_1]] w fun e w' => e = .returned (.agg #[.int .i64 r1, .bool r2]) ∧ Below w.heap.size w w' := by
  have hu23 := Try.underlying23
  have HB := Aside0.mk (Below.refl w.heap.size w)
  have H : ((fixed_sound.f a0_0 a0_1).bind fun bt195 => (some (wrap64 (-bt195.1), bt195.2))) = some (r1, r2) := h
  clear h
  replace H := Option.bind_eq_some_iff.mp H
  obtain ⟨⟨t195, t196⟩, A20, H⟩ := H
  replace H : (some (wrap64 (-t195), t196)) = some (r1, r2) := H
  have A2 := Aside0.mk A20
  clear A20
  simp only [Option.some.injEq, Prod.mk.injEq] at H
  obtain ⟨rfl, rfl⟩ := H
  go_enter Try.func41, Try.ntmps41
  go_wp2_with (first | ((with_reducible refine gate_dst (N := 1) rfl ?_); refine box_event ?hg (N := 1) ?hd (cs := #[.int .i64 a0_0, .bool a0_1]) (t := 23) ?hr ?_; (case hd => rfl); (case hg => rfl); (case hr => first | (go_simp; done) | (go_simp; rfl)); intro gb193 hg w3 hbox hb; have n0_ := Aside0.mk (below_step (by repeat (first | (with_reducible first | exact HB.out | apply below_alloc | apply pw_below_drewN | apply below_drew1) | exact HB.out)) hb); have n1_ := Aside0.mk (hbox); have n2_ := Aside0.mk ((by rw [hg]; exact (below_size (by repeat (first | (with_reducible first | exact HB.out | apply below_alloc | apply pw_below_drewN | apply below_drew1) | exact HB.out))) : w.heap.size ≤ gb193)); have n3_ := Aside0.mk ((by rw [hg]; exact (below_size (by repeat (first | (with_reducible first | exact HB.out | apply below_alloc | apply pw_below_drewN | apply below_drew1) | exact HB.out))) : w.heap.size ≤ gb193)); clear HB; have HB := n0_; have BK193 := n1_; have GW193 := n2_; have GE193 := n3_; clear n0_ n1_ n2_ n3_; clear hb hbox hg) | ((with_reducible refine gate_dst (N := 2) rfl ?_); refine box_event ?hg (N := 2) ?hd (cs := #[.int .i64 0, .bool false]) (t := 23) ?hr ?_; (case hd => rfl); (case hg => rfl); (case hr => first | (go_simp; done) | (go_simp; rfl)); intro gb194 hg w4 hbox hb; have n0_ := Aside0.mk (blk_below (g := gb193) (o := .cells #[.int .i64 a0_0, .bool a0_1] 23 (0, 0)) (by (with_reducible repeat (first | refine blk_drewN ?_ _ | refine blk_drew ?_ | refine blk_alloc ?_ _)); exact BK193.out) hb); have n1_ := Aside0.mk (below_step (by repeat (first | (with_reducible first | exact HB.out | apply below_alloc | apply pw_below_drewN | apply below_drew1 | refine below_set ?_ GE193.out) | exact HB.out)) hb); have n2_ := Aside0.mk (hbox); have n3_ := Aside0.mk ((by rw [hg]; exact (below_size (by repeat (first | (with_reducible first | exact HB.out | apply below_alloc | apply pw_below_drewN | apply below_drew1 | refine below_set ?_ GE193.out) | exact HB.out))) : w.heap.size ≤ gb194)); have n4_ := Aside0.mk ((by rw [hg]; exact (below_size (by repeat (first | (with_reducible first | exact HB.out | apply below_alloc | apply pw_below_drewN | apply below_drew1 | refine below_set ?_ GE193.out) | exact HB.out))) : w.heap.size ≤ gb194)); have n5_ := Aside0.mk ((by rw [hg]; exact Nat.ne_of_lt (blk_lt (g := gb193) (o := .cells #[.int .i64 a0_0, .bool a0_1] 23 (0, 0)) (by (with_reducible repeat (first | refine blk_drewN ?_ _ | refine blk_drew ?_ | refine blk_alloc ?_ _)); exact BK193.out)) : gb193 ≠ gb194)); have n6_ := Aside0.mk ((by rw [hg]; exact Nat.ne_of_gt (blk_lt (g := gb193) (o := .cells #[.int .i64 a0_0, .bool a0_1] 23 (0, 0)) (by (with_reducible repeat (first | refine blk_drewN ?_ _ | refine blk_drew ?_ | refine blk_alloc ?_ _)); exact BK193.out)) : gb194 ≠ gb193)); clear BK193; clear HB; have BK193 := n0_; have HB := n1_; have BK194 := n2_; have GW194 := n3_; have GE194 := n4_; have NB193_194 := n5_; have NB194_193 := n6_; clear n0_ n1_ n2_ n3_ n4_ n5_ n6_; clear hb hbox hg; have hnb5 := NB193_194.out; have hnc5 := NB194_193.out; have hcz6_0 : w4.cell? ⟨gb193, 0, none⟩ = some (.int .i64 a0_0) := (blk_cell BK193.out 0).trans rfl; have hcz6_1 : w4.cell? ⟨gb193, 1, none⟩ = some (.bool a0_1) := (blk_cell BK193.out 1).trans rfl; have hfz6_0 := blk_frozen BK193.out 0; have hfz6_1 := blk_frozen BK193.out 1) | ((with_reducible refine gate_callee (f := 72) rfl ?_); refine goesL_ (some 4) rfl rfl Try.func72 (by kernel_rfl) rfl #[.agg #[.int .i64 a0_0, .bool a0_1]] rfl (by (try simp only [List.map_toArray, List.map_cons, List.map_nil]); first | done | rfl | (simp only [List.length_drop, List.length_take]; rfl)) ?_; (with_reducible refine (fixed_sound.calls a0_0 a0_1 t195 t196 _ A2.out).mono ?_); rintro e w7 ⟨rfl, hb⟩; refine ⟨_, rfl, ?_⟩; have n0_ := Aside0.mk (blk_below (g := gb193) (o := .cells #[.int .i64 a0_0, .bool a0_1] 23 (0, 0)) (by (with_reducible repeat (first | refine blk_drewN ?_ _ | refine blk_drew ?_ | refine blk_alloc ?_ _)); exact BK193.out) hb); have n1_ := Aside0.mk (blk_below (g := gb194) (o := .cells #[.int .i64 0, .bool false] 23 (0, 0)) (by (with_reducible repeat (first | refine blk_drewN ?_ _ | refine blk_drew ?_ | refine blk_alloc ?_ _)); exact BK194.out) hb); have n2_ := Aside0.mk (below_step (by repeat (first | (with_reducible first | exact HB.out | apply below_alloc | apply pw_below_drewN | apply below_drew1 | refine below_set ?_ GE193.out | refine below_set ?_ GE194.out) | exact HB.out)) hb); clear BK193; clear BK194; clear HB; have BK193 := n0_; have BK194 := n1_; have HB := n2_; clear n0_ n1_ n2_; (try clear hb); (try clear hb2); (try clear hk); (try clear hi); have hcz8_0 : w7.cell? ⟨gb193, 0, none⟩ = some (.int .i64 a0_0) := (blk_cell BK193.out 0).trans rfl; have hcz8_1 : w7.cell? ⟨gb193, 1, none⟩ = some (.bool a0_1) := (blk_cell BK193.out 1).trans rfl; have hfz8_0 := blk_frozen BK193.out 0; have hfz8_1 := blk_frozen BK193.out 1; have hcz9_0 : w7.cell? ⟨gb194, 0, none⟩ = some (.int .i64 0) := (blk_cell BK194.out 0).trans rfl; have hcz9_1 : w7.cell? ⟨gb194, 1, none⟩ = some (.bool false) := (blk_cell BK194.out 1).trans rfl; have hfz9_0 := blk_frozen BK194.out 0; have hfz9_1 := blk_frozen BK194.out 1))
  refine bodyPost_ret (results_cell_row rfl _ _ gb194 23 #[.int .i64 (wrap64 (-t195)), .bool t196] (0, 0) _ rfl (by (with_reducible repeat (first | refine blk_drewN ?_ _ | refine blk_drew ?_ | refine blk_alloc ?_ _)); refine blk_put (cs := #[.int .i64 (wrap64 (-t195)), .bool false]) ?_ 1 _ rfl; (with_reducible repeat (first | refine blk_drewN ?_ _ | refine blk_drew ?_ | refine blk_alloc ?_ _)); refine blk_put (cs := #[.int .i64 0, .bool false]) ?_ 0 _ rfl; (with_reducible repeat (first | refine blk_drewN ?_ _ | refine blk_drew ?_ | refine blk_alloc ?_ _)); refine blk_far ?_ NB194_193.out _; (with_reducible repeat (first | refine blk_drewN ?_ _ | refine blk_drew ?_ | refine blk_alloc ?_ _)); refine blk_far ?_ NB194_193.out _; (with_reducible repeat (first | refine blk_drewN ?_ _ | refine blk_drew ?_ | refine blk_alloc ?_ _)); refine blk_far ?_ NB194_193.out _; (with_reducible repeat (first | refine blk_drewN ?_ _ | refine blk_drew ?_ | refine blk_alloc ?_ _)); exact BK194.out) Try.underlying23 rfl (by kernel_rfl)) rfl ?_
  exact ⟨by first | rfl | (simp [errW_none, errW_some] <;> rfl) | (simp [*, errW_none, errW_some] <;> rfl), by repeat (first | (with_reducible first | exact HB.out | apply below_alloc | apply pw_below_drewN | apply below_drew1 | refine below_set ?_ GE193.out | refine below_set ?_ GE194.out) | exact HB.out)⟩
end Go.Proofs.Ytenpiaafkmfjfaa.B

end
section
namespace Go.Proofs.Ytenpiaafkmfjfaa.B
open Go.RowKit Go.Proofs.YtenpiaafkmfjfaaW.PrintWords Go.Proofs.YtenpiaafkmfjfaaW.PrintLast Go.Proofs.YtenpiaafkmfjfaaW.PrintMore
attribute [local go_sem] max2_int min2_int max_two min_two max_three min_three max_four min_four
set_option linter.unusedVariables false
set_option linter.unusedSimpArgs false
theorem eqA23 (d : Nat) (w : World) (x0 y0 : Int) (x1 y1 : Bool) :
    (Op.equalIn (d + 2) 23 (.agg #[.int .i64 x0, .bool x1]) (.agg #[.int .i64 y0, .bool y1])).run Try.prog w = .ok (x0 == y0 && (x1 == y1)) w := by
  refine eqA_of Try.underlying23 (by kernel_rfl) ?_
  refine eqf_cons (by rfl) (by go_simp; rfl) (by go_simp; rfl) (by go_simp) ?_
  exact eqf_last (by rfl) (by go_simp; rfl) (by go_simp; rfl) (by go_simp)
end Go.Proofs.Ytenpiaafkmfjfaa.B

end
section
namespace Go.Proofs.Ytenpiaafkmfjfaa.B
def sv (v : Int) : Int := if v = -9223372036854775808 then -9223372036854775807 else v
def sf (v : Int) (f : Bool) : Bool := if v = -9223372036854775808 then true else f
theorem sound_f (v : Int) (f : Bool) : fixed_sound.f v f = some (sv v, sf v f) := by
  unfold fixed_sound.f sv sf; split <;> rfl
end Go.Proofs.Ytenpiaafkmfjfaa.B

end
section
namespace Go.Proofs.Ytenpiaafkmfjfaa.B
set_option linter.unusedVariables false
open Go.RowKit Go.Proofs.YtenpiaafkmfjfaaW.PrintWords Go.Proofs.YtenpiaafkmfjfaaW.PrintLast Go.Proofs.YtenpiaafkmfjfaaW.PrintMore
def vals (l : List S23) : List Int := l.map fun x => sv x.f0
def anyF (l : List S23) : Bool := l.any fun x => sf x.f0 x.f1
def fixed_values.f (l0 : List S23) : Option (List Int × Bool) := if l0.length ≤ 1000000 then some (vals l0, anyF l0) else none
def rowA (l : List S23) (k : Nat) : Array Value := (((vals (l.take k)).map (Value.int .i64)) ++ List.replicate (l.length - k) (Value.int .i64 0)).toArray
theorem rowA_zero (l : List S23) : madeCells #[.int .i64 0] l.length = rowA l 0 := by
  unfold madeCells rowA vals
  apply Array.ext'
  simp
  apply List.ext_getElem
  · simp
  · intro i h1 h2
    simp [Nat.mod_one]
theorem take_get (l : List S23) (k : Nat) (h : k < l.length) : l.take (k + 1) = l.take k ++ [rd_T23 l (k : Int)] := by
  rw [List.take_succ_eq_append_getElem h]
  unfold rd_T23
  simp [List.getD_eq_getElem?_getD, h]
theorem rowA_put (l : List S23) (k : Nat) (h : k < l.length) : (rowA l k).setIfInBounds k (.int .i64 (sv (rd_T23 l (k : Int)).f0)) = rowA l (k + 1) := by
  have e := take_get l k h
  have h2 : l.length - k = (l.length - (k + 1)) + 1 := by omega
  have hl : ((vals (l.take k)).map (Value.int .i64)).length = k := by simp [vals]; omega
  unfold rowA
  rw [e, h2, List.replicate_succ]
  apply Array.ext'
  simp only [Array.toList_setIfInBounds, vals, List.map_append, List.map_map, List.map_cons, List.map_nil]
  simp only [vals, List.map_map] at hl
  rw [List.set_append_right _ _ (by omega), hl, Nat.sub_self]
  simp
theorem anyF_succ (l : List S23) (k : Nat) (h : k < l.length) : anyF (l.take (k + 1)) = (anyF (l.take k) || sf (rd_T23 l (k : Int)).f0 (rd_T23 l (k : Int)).f1) := by
  rw [take_get l k h]; simp [anyF]
theorem own_row (base g : Nat) (l : List S23) (w : World) (hn : l.length ≤ 1000000) (hb : w.heap[g]? = some (.cells (rowA l l.length) 2 (0, 0))) (hg : base ≤ g) :
    Kd.R (Kd.int .i64) 2 w base (fun _ => True) (.slice (some ⟨g, 0, none⟩) l.length l.length) (vals l) := by
  have hv : (vals l).length = l.length := by simp [vals]
  refine ⟨fun _ _ => trivial, (vals l).map (Value.int .i64), ⟨by simp [Kd.int, Kd.scalar], .inr ⟨g, l.length, _, ?_, hg, hb, ?_, ?_, ?_, ?_⟩⟩, ?_⟩
  · rw [hv]
  · omega
  · unfold maxLen; omega
  · simp [rowA, vals, Kd.int, Kd.scalar]
  · simp [rowA, vals, Kd.int, Kd.scalar]
    rw [List.take_of_length_le (by simp)]
  · refine ⟨by simp [Kd.int, Kd.scalar], fun j p hj => ?_⟩
    simp only [Kd.int, Kd.scalar, Nat.mul_one]
    have : j < (vals l).length := (List.getElem?_eq_some_iff.1 hj).1
    apply List.ext_getElem?
    intro i
    cases i with
    | zero => simp [hj]
    | succ i => simp [List.getElem?_take]
set_option maxHeartbeats 2000000 in
set_option maxRecDepth 100000 in
theorem fixed_values.calls (A0 : Option Addr) (c0 : Nat) (l0 : List S23) (r1 : List Int) (r2 : Bool) (w : World) (hr0 : Kd.C k23 w A0 l0.length l0) (hc0 : l0.length ≤ c0) (h : fixed_values.f l0 = some (r1, r2)) :
    Calls Try.prog 81 #[.slice A0 l0.length c0] w fun e w' => ∃ v0_ : Value, e = .returned (.tuple #[v0_, .bool r2]) ∧ Kd.R (Kd.int .i64) 2 w' w.heap.size (fun _ => True) v0_ r1 ∧ Below w.heap.size w w' := by
  unfold fixed_values.f at h
  by_cases hn : l0.length ≤ 1000000
  · rw [if_pos hn] at h
    simp only [Option.some.injEq, Prod.mk.injEq] at h
    obtain ⟨rfl, rfl⟩ := h
    have hu23 := Try.underlying23
    have hmk := run_make_row' (P := Try.prog) 70 2 (.int .i64 0) 8 Try.underlying70 info2 rfl .i64 .i64 l0.length (by omega) (by omega) w
    rw [rowA_zero] at hmk
    have HR : Hid (Kd.C k23 w A0 l0.length l0) := hr0
    clear hr0
    go_enter Try.func81, Try.ntmps81
    go_wp2
    have hG : (w.alloc (.cells (rowA l0 0) 2)).heap[w.heap.size]? = some (.cells (rowA l0 0) 2 (0, 0)) := blk_new w _
    have hB : Below w.heap.size w (w.alloc (.cells (rowA l0 0) 2)) := below_alloc (Below.refl _ _) _
    clear hmk
    go_loopw [5, 13] (fun f i wr => ∃ k : Nat, k ≤ l0.length ∧ i = .int .i64 k ∧ f = .bool (anyF (l0.take k)) ∧ Hid (wr.heap[w.heap.size]? = some (.cells (rowA l0 k) 2 (0, 0))) ∧ Hid (Below w.heap.size w wr)) (fun _ i _ => l0.length - (intOf i).toNat)
    case atStart => exact ⟨0, by omega, rfl, rfl, hG, hB⟩
    case round =>
      clear hG hB
      obtain ⟨k, hk, rfl, rfl, hG, hB⟩ := hrel
      by_cases hlt : k < l0.length
      · obtain ⟨ad, he, hc0', hc1'⟩ := at_T23 (Kd.C_below HR.out hB.out) (k : Int) (by omega) (by omega)
        subst he
        generalize hx : rd_T23 l0 (k : Int) = x at hc0' hc1'
        have HX : Hid (rd_T23 l0 (k : Int) = x) := hx
        clear hx
        simp only [Int.toNat_natCast] at hc0' hc1'
        go_wp2_with fail
        refine (fixed_sound.calls x.f0 x.f1 _ _ _ (sound_f _ _)).mono ?_
        rintro e w1 ⟨rfl, hb⟩
        have hltG : w.heap.size < wr.heap.size := blk_lt hG.out
        have hbox : w1.heap[wr.heap.size]? = some (.cells #[.int .i64 x.f0, .bool x.f1] 23 (0, 0)) := blk_below (blk_new wr _) hb
        have hG1 : Hid (w1.heap[w.heap.size]? = some (.cells (rowA l0 k) 2 (0, 0))) := blk_below (blk_alloc hG.out _) hb
        have hB1 : Hid (Below w.heap.size w w1) := below_step (below_alloc hB.out _) hb
        have q0 : w1.cell? ⟨wr.heap.size, 0, none⟩ = some (.int .i64 x.f0) := (blk_cell hbox 0).trans rfl
        have q1 : w1.cell? ⟨wr.heap.size, 1, none⟩ = some (.bool x.f1) := (blk_cell hbox 1).trans rfl
        have z0 := blk_frozen hbox 0
        have z1 := blk_frozen hbox 1
        have HBX : Hid (w1.heap[wr.heap.size]? = some (.cells #[.int .i64 x.f0, .bool x.f1] 23 (0, 0))) := hbox
        clear hbox hb hc0' hc1'
        go_wp2_with fail
        have hneG : w.heap.size ≠ wr.heap.size := Nat.ne_of_lt hltG
        have hneG' : wr.heap.size ≠ w.heap.size := Nat.ne_of_gt hltG
        have hbox2 : Hid (((w1.setCell ⟨wr.heap.size, 0, none⟩ (.int .i64 (sv x.f0))).setCell ⟨wr.heap.size, 1, none⟩ (.bool (sf x.f0 x.f1))).heap[wr.heap.size]? = some (.cells #[.int .i64 (sv x.f0), .bool (sf x.f0 x.f1)] 23 (0, 0))) := blk_put (cs := #[.int .i64 (sv x.f0), .bool x.f1]) (blk_put (cs := #[.int .i64 x.f0, .bool x.f1]) HBX.out 0 _ rfl) 1 _ rfl
        have hG2 : Hid (((w1.setCell ⟨wr.heap.size, 0, none⟩ (.int .i64 (sv x.f0))).setCell ⟨wr.heap.size, 1, none⟩ (.bool (sf x.f0 x.f1))).heap[w.heap.size]? = some (.cells (rowA l0 k) 2 (0, 0))) := blk_far (blk_far hG1.out hneG _) hneG _
        have hB2 : Hid (Below w.heap.size w ((w1.setCell ⟨wr.heap.size, 0, none⟩ (.int .i64 (sv x.f0))).setCell ⟨wr.heap.size, 1, none⟩ (.bool (sf x.f0 x.f1)))) := below_set (below_set hB1.out (by omega)) (by omega)
        clear hG1 hB1 q0 q1 z0 z1 HBX
        generalize (w1.setCell ⟨wr.heap.size, 0, none⟩ (.int .i64 (sv x.f0))).setCell ⟨wr.heap.size, 1, none⟩ (.bool (sf x.f0 x.f1)) = W at hbox2 hG2 hB2 ⊢
        have q0 : W.cell? ⟨wr.heap.size, 0, none⟩ = some (.int .i64 (sv x.f0)) := (blk_cell hbox2.out 0).trans rfl
        have q1 : W.cell? ⟨wr.heap.size, 1, none⟩ = some (.bool (sf x.f0 x.f1)) := (blk_cell hbox2.out 1).trans rfl
        have hsz : k < (rowA l0 k).size := by simp [rowA, vals]; omega
        have q2 : W.cell? ⟨w.heap.size, k, none⟩ = some ((rowA l0 k)[k]'hsz) := (blk_cell hG2.out k).trans (Array.getElem?_eq_getElem hsz)
        have z2 := blk_frozen hG2.out k
        generalize (rowA l0 k)[k]'hsz = old at q2
        have q3 : (W.setCell ⟨w.heap.size, k, none⟩ (.int .i64 (sv x.f0))).cell? ⟨wr.heap.size, 1, none⟩ = some (.bool (sf x.f0 x.f1)) := by rw [World.cell?_setCell_other _ _ _ _ (fun e => hneG (congrArg Addr.block e))]; exact q1
        have hG3 : Hid ((W.setCell ⟨w.heap.size, k, none⟩ (.int .i64 (sv x.f0))).heap[w.heap.size]? = some (.cells (rowA l0 (k + 1)) 2 (0, 0))) := blk_put hG2.out k _ (by rw [← HX.out]; exact rowA_put l0 k hlt)
        have hB3 : Hid (Below w.heap.size w (W.setCell ⟨w.heap.size, k, none⟩ (.int .i64 (sv x.f0)))) := below_set hB2.out (Nat.le_refl _)
        have hfl : Hid (anyF (l0.take (k + 1)) = (anyF (l0.take k) || sf x.f0 x.f1)) := by rw [← HX.out]; exact anyF_succ l0 k hlt
        clear hbox2 hG2 hB2 hsz
        generalize anyF (l0.take k) = fl at hfl
        cases fl
        all_goals
          go_region
          go_wp2
          go_roundw
          case rel => exact ⟨k + 1, by omega, by go_num, by rw [hfl.out]; rfl, hG3.out, below_drew1 hB3.out⟩
          case measure => simp [intOf]; omega
      · obtain rfl : k = l0.length := by omega
        go_wp2
        refine bodyPost_ret (v := .tuple #[.slice (some ⟨w.heap.size, 0, none⟩) l0.length l0.length, .bool (anyF (l0.take l0.length))]) (by simp [results, Try.results81, go_sem]) rfl ?_
        exact ⟨_, by rw [List.take_length], own_row _ _ l0 _ hn hG.out (Nat.le_refl _), hB.out⟩
  · rw [if_neg hn] at h
    cases h
end Go.Proofs.Ytenpiaafkmfjfaa.B

end
section
set_option linter.unusedVariables false
namespace Go.Proofs.Ytenpiaafkmfjfaa.B
open Go.RowKit Go.Proofs
theorem sizeBuilder : (Try.prog.info? 96).map (·.size) = some 2 := by kernel_rfl
theorem liesBuilder : liesAt Try.prog Try.prog.depth 96 (2 / Try.prog.cellsOf 96) 0 96 1 = true := by kernel_rfl
theorem infoByte : (Try.prog.info? 5).map (fun i => (i.zero, i.size, i.bytes)) = some (some (.int .u8 0), 1, 1) := by kernel_rfl
set_option maxHeartbeats 1000000 in
set_option maxRecDepth 100000 in
theorem copyCheck_used (b : Nat) (w : World) (h0 : w.cell? ⟨b, 0, none⟩ = some (.pointer (some ⟨b, 0, none⟩))) :
    Calls Try.prog 116 #[.pointer (some ⟨b, 0, none⟩)] w fun e w' => e = .returned (.tuple #[]) ∧ w' = w := by
  obtain ⟨j, hj, _⟩ := Option.map_eq_some_iff.1 sizeBuilder
  go_enter Try.func116, Try.ntmps116
  go_wp2
  rw [Lib.run_neq_ptr_same w _ Try.underlying93 hj]
  go_wp2
  go_end0
  exact ⟨rfl, rfl⟩
set_option maxHeartbeats 1000000 in
set_option maxRecDepth 100000 in
theorem copyCheck_fresh (b : Nat) (w : World) (h0 : w.cell? ⟨b, 0, none⟩ = some (.pointer none)) (hsh : w.shape? b = some (96, 2)) (hfz : w.frozen? ⟨b, 0, none⟩ = false) :
    Calls Try.prog 116 #[.pointer (some ⟨b, 0, none⟩)] w fun e w' => e = .returned (.tuple #[]) ∧ w' = w.setCell ⟨b, 0, none⟩ (.pointer (some ⟨b, 0, none⟩)) := by
  obtain ⟨j, hj, hjs⟩ := Option.map_eq_some_iff.1 sizeBuilder
  go_enter Try.func116, Try.ntmps116
  go_wp2
  rw [Lib.run_to_unsafe w ⟨b, 0, none⟩ Try.underlying93 Try.underlying115 hj (by rw [hjs]; decide) hsh (Nat.zero_lt_succ 1)]
  simp only [Result.andThen]
  rw [Oper.upon_value]
  go_wp2
  rw [run_callFunc_extern Try.func120 (by kernel_rfl) (by kernel_rfl) (by kernel_rfl) (e := Extern.AbiNoEscape.same) (by kernel_rfl)]
  rw [Lib.run_noEscape]
  simp only [Result.andThen]
  rw [Oper.upon_value]
  go_wp2
  rw [Lib.run_from_unsafe w ⟨b, 0, none⟩ Try.underlying115 Try.underlying93 hj hsh liesBuilder]
  simp only [Result.andThen]
  rw [Oper.upon_value]
  go_wp2
  go_end0
  exact ⟨rfl, rfl⟩
theorem copyCheckK (B b : Nat) (bs : List Value) (w : World) (h : Lib.IsBuilder 96 5 B b bs w) :
    Calls Try.prog 116 #[.pointer (some ⟨b, 0, none⟩)] w fun e w' => e = .returned (.tuple #[]) ∧ (Lib.BuilderAt 96 5 B b (.pointer (some ⟨b, 0, none⟩)) bs w' ∧ Below B w w' ∧ ∀ p : Addr, p.block ≠ b → w'.cell? p = w.cell? p) := by
  rcases h with h | h
  · refine (copyCheck_fresh b w h.cell0 h.shape h.frozen0).mono ?_
    rintro e w' ⟨rfl, rfl⟩
    exact ⟨rfl, h.used _, (Below.refl B w).setCell (p := ⟨b, 0, none⟩) h.1 _, fun p hp => World.cell?_setCell_other _ _ _ _ (fun e => hp (by rw [← e]))⟩
  · refine (copyCheck_used b w h.cell0).mono ?_
    rintro e w' ⟨rfl, rfl⟩
    exact ⟨rfl, h, Below.refl B _, fun p _ => rfl⟩
theorem copyCheck (B b : Nat) (bs : List Value) (w : World) (h : Lib.IsBuilder 96 5 B b bs w) :
    Calls Try.prog 116 #[.pointer (some ⟨b, 0, none⟩)] w fun e w' => e = .returned (.tuple #[]) ∧ (Lib.BuilderAt 96 5 B b (.pointer (some ⟨b, 0, none⟩)) bs w' ∧ Below B w w') := by
  rcases h with h | h
  · refine (copyCheck_fresh b w h.cell0 h.shape h.frozen0).mono ?_
    rintro e w' ⟨rfl, rfl⟩
    exact ⟨rfl, h.used _, (Below.refl B w).setCell (p := ⟨b, 0, none⟩) h.1 _⟩
  · refine (copyCheck_used b w h.cell0).mono ?_
    rintro e w' ⟨rfl, rfl⟩
    exact ⟨rfl, h, Below.refl B _⟩
set_option maxHeartbeats 2000000 in
set_option maxRecDepth 100000 in
theorem writeByte (B b : Nat) (bs : List Value) (c : Int) (w : World) (h : Lib.IsBuilder 96 5 B b bs w) (hlen : bs.length + 1 ≤ 140737488355328) (hBw : B ≤ w.heap.size) :
    Calls Try.prog 102 #[.pointer (some ⟨b, 0, none⟩), .int .u8 c] w fun e w' => e = .returned .nilIface ∧ (Lib.BuilderAt 96 5 B b (.pointer (some ⟨b, 0, none⟩)) (bs ++ [.int .u8 c]) w' ∧ Below B w w') := by
  obtain ⟨i0, hi, hz0, hz1, hz2⟩ := info_parts infoByte
  go_enter Try.func102, Try.ntmps102
  go_wp2_with (go_at_call 116; refine (copyCheck B b bs _ h).mono ?_)
  rintro e w1 ⟨rfl, h1, hb1⟩
  obtain ⟨hB, v, hbk, hown, hne⟩ := h1
  have c0 : w1.cell? ⟨b, 0, none⟩ = some (.pointer (some ⟨b, 0, none⟩)) := by rw [Lib.cell_of_heap hbk]; rfl
  have c1 : w1.cell? ⟨b, 1, none⟩ = some v := by rw [Lib.cell_of_heap hbk]; rfl
  go_wp2_with (at_builtin; refine wpList_append_own _ rfl _ _ 94 rfl B 5 i0 (.int .u8 0) 1 1 Try.underlying94 hi hz0 hz1 hz2 rfl (by decide) _ _ _ rfl (hown.alloc _) ⟨w1.heap.size, 0, none⟩ 1 1 [.int .u8 c] rfl rfl ?c1 ?c2 ?c3 ?c4 ?c5 ?_)
  case c1 =>
    intro j u hj
    match j, hj with
    | 0, hj => simp at hj; subst hj; simp [Addr.add]
  case c2 => intro u hu; simp at hu; subst hu; rfl
  case c3 => unfold maxLen; omega
  case c4 => omega
  case c5 => have := hb1.size; simp; omega
  intro v' w2 hown' hgrow _
  have hlt : b < w1.heap.size := by
    rcases Nat.lt_or_ge b w1.heap.size with h' | h'
    · exact h'
    · simp [Array.getElem?_eq_none h'] at hbk
  have hb2 : w2.heap[b]? = some (.cells #[.pointer (some ⟨b, 0, none⟩), v] 96 (0, 0)) := by
    rw [hgrow.block b (by simp; omega) (fun e => hne e.symm), Lib.alloc_old w1 _ b hlt]
    exact hbk
  have d0 : w2.cell? ⟨b, 0, none⟩ = some (.pointer (some ⟨b, 0, none⟩)) := by rw [Lib.cell_of_heap hb2]; rfl
  have d1 : w2.cell? ⟨b, 1, none⟩ = some v := by rw [Lib.cell_of_heap hb2]; rfl
  have f1 : w2.frozen? ⟨b, 1, none⟩ = false := Lib.frozen_of_heap hb2 1
  obtain ⟨g, cap, rfl⟩ : ∃ g cap, v' = .slice (some ⟨g, 0, none⟩) (bs.length + 1) cap := by
    rcases hown'.2 with ⟨_, h0⟩ | ⟨g, cap, cur, hv, _⟩
    · omega
    · exact ⟨g, cap, hv⟩
  go_wp2
  go_ret
  refine ⟨rfl, ?_, ?_⟩
  · exact Lib.BuilderAt.put (T := 96) (e := 5) hB hb2 (bs' := bs ++ [.int .u8 c]) (by simpa using hown') (by decide)
  · exact ((hb1.alloc (by have := hb1.size; omega) _).grown hgrow (by have := hb1.size; simp; omega) (fun k hk => (hown.lt k hk).1)).setCell (p := ⟨b, 1, none⟩) hB _
set_option maxHeartbeats 2000000 in
set_option maxRecDepth 100000 in
theorem writeBytes (B b : Nat) (bs : List Value) (ad : Addr) (m c : Nat) (news : List Value) (w : World) (h : Lib.IsBuilder 96 5 B b bs w)
    (hl : news.length = m) (hnews : ∀ j u, news[j]? = some u → w.cell? (ad.add j) = some u) (hne0 : ad.block ≠ b) (h1 : ∀ u ∈ news, u.oneCell' = true)
    (hlen : bs.length + m ≤ 140737488355328) (hBw : B ≤ w.heap.size) :
    Calls Try.prog 103 #[.pointer (some ⟨b, 0, none⟩), .slice (some ad) m c] w fun e w' => e = .returned (.tuple #[.int .i64 m, .nilIface]) ∧ (Lib.BuilderAt 96 5 B b (.pointer (some ⟨b, 0, none⟩)) (bs ++ news) w' ∧ Below B w w') := by
  obtain ⟨i0, hi, hz0, hz1, hz2⟩ := info_parts infoByte
  have hadd : ∀ j, (ad.add j).block = ad.block := fun j => by unfold Addr.add; split <;> rfl
  have HN : Hid (∀ j u, news[j]? = some u → w.cell? (ad.add j) = some u) := hnews
  have HA : Hid (∀ j, (ad.add j).block = ad.block) := hadd
  clear hnews hadd
  go_enter Try.func103, Try.ntmps103
  go_wp2_with (go_at_call 116; refine (copyCheckK B b bs _ h).mono ?_)
  rintro e w1 ⟨rfl, h1', hb1, hcs⟩
  have hnews1 : Hid (∀ j u, news[j]? = some u → w1.cell? (ad.add j) = some u) := fun j u hj => by rw [hcs _ (by rw [HA.out j]; exact hne0)]; exact HN.out j u hj
  clear hcs
  obtain ⟨hB, v, hbk, hown, hne⟩ := h1'
  have c0 : w1.cell? ⟨b, 0, none⟩ = some (.pointer (some ⟨b, 0, none⟩)) := by rw [Lib.cell_of_heap hbk]; rfl
  have c1 : w1.cell? ⟨b, 1, none⟩ = some v := by rw [Lib.cell_of_heap hbk]; rfl
  go_wp2_with (at_builtin; refine wpList_append_own _ rfl _ _ 94 rfl B 5 i0 (.int .u8 0) 1 1 Try.underlying94 hi hz0 hz1 hz2 rfl (by decide) _ _ _ rfl hown ad m c news rfl (by omega) hnews1.out h1 ?c3 ?c4 ?c5 ?_)
  case c3 => unfold maxLen; omega
  case c4 => omega
  case c5 => have := hb1.size; omega
  intro v' w2 hown' hgrow _
  have hlt : b < w1.heap.size := by
    rcases Nat.lt_or_ge b w1.heap.size with h' | h'
    · exact h'
    · simp [Array.getElem?_eq_none h'] at hbk
  have hb2 : w2.heap[b]? = some (.cells #[.pointer (some ⟨b, 0, none⟩), v] 96 (0, 0)) := by
    rw [hgrow.block b hlt (fun e => hne e.symm)]
    exact hbk
  have d0 : w2.cell? ⟨b, 0, none⟩ = some (.pointer (some ⟨b, 0, none⟩)) := by rw [Lib.cell_of_heap hb2]; rfl
  have d1 : w2.cell? ⟨b, 1, none⟩ = some v := by rw [Lib.cell_of_heap hb2]; rfl
  have f1 : w2.frozen? ⟨b, 1, none⟩ = false := Lib.frozen_of_heap hb2 1
  obtain ⟨ao, n', cap, rfl⟩ : ∃ ao n' cap, v' = .slice ao n' cap := by
    rcases hown'.2 with ⟨hv, _⟩ | ⟨g, cap, cur, hv, _⟩
    · exact ⟨_, _, _, hv⟩
    · exact ⟨_, _, _, hv⟩
  go_wp2
  go_ret2
  refine ⟨rfl, ?_, ?_⟩
  · exact Lib.BuilderAt.put (T := 96) (e := 5) hB hb2 (bs' := bs ++ news) (by simpa [hl] using hown') (by decide)
  · exact (hb1.grown hgrow (by have := hb1.size; omega) (fun k hk => (hown.lt k hk).1)).setCell (p := ⟨b, 1, none⟩) hB _
end Go.Proofs.Ytenpiaafkmfjfaa.B

end
section
namespace Go.Proofs.Ytenpiaafkmfjfaa.B
open Go.Shelf Go.RowKit
def lays169_ren : Go.Shelf.Ren := ⟨fun | 169 => 105 | n => n, fun | 70 => 93 | 9 => 9 | 0 => 0 | 72 => 96 | 37 => 94 | 127 => 111 | 3 => 3 | 5 => 5 | n => n, fun | n => n⟩
theorem lays169 : Go.Proofs.Lays.n169 Try.prog lays169_ren := {
  mixed := by kernel_rfl
  f169 := Try.func105.trans (congrArg some (by kernel_rfl))
  t0 := Try.underlying0
  a0 := Try.isAgg0
  z0 := Try.sizeOf0
  v0 := Try.zeroValue0
  t3 := Try.underlying3
  a3 := Try.isAgg3
  z3 := Try.sizeOf3
  v3 := Try.zeroValue3
  t9 := Try.underlying9
  a9 := Try.isAgg9
  z9 := Try.sizeOf9
  v9 := Try.zeroValue9
  t37 := Try.underlying94
  a37 := Try.isAgg94
  z37 := Try.sizeOf94
  v37 := Try.zeroValue94
  t70 := Try.underlying93
  a70 := Try.isAgg93
  z70 := Try.sizeOf93
  v70 := Try.zeroValue93
  t72 := Try.underlying96
  a72 := Try.isAgg96
  z72 := Try.sizeOf96
  v72 := Try.zeroValue96
  t127 := Try.underlying111
  a127 := Try.isAgg111
  z127 := Try.sizeOf111
  v127 := Try.zeroValue111 }
theorem Builder_Extra_169 : Builder.Extra Try.prog lays169_ren := {
  sizeBuilder := by kernel_rfl
  liesBuilder := by kernel_rfl
  t5 := Try.underlying5
  a5 := Try.isAgg5
  z5 := Try.sizeOf5
  v5 := Try.zeroValue5
  infoByte := by kernel_rfl
  cellsByte := by kernel_rfl
  sizeByte := by kernel_rfl
  neB5 := by decide }
theorem Builder_String_any (B b : Nat) (l : List UInt8) (w : World) (h : Lib.IsBuilder 96 5 B b (Lib.byteCells l) w) (hBw : B ≤ w.heap.size) :
    Calls Try.prog 105 #[.pointer (some ⟨b, 0, none⟩)] w fun e w' => e = .returned (.string ⟨l.toArray⟩) ∧ Below B w w' := Any.Builder_String_any lays169 Builder_Extra_169 B b l w h hBw
end Go.Proofs.Ytenpiaafkmfjfaa.B

end
section
namespace Go.Proofs.Ytenpiaafkmfjfaa.B
def dblR : List Nat → List Nat × Nat
  | [] => ([], 0)
  | d :: ds => ((2 * d + (dblR ds).2) % 10 :: (dblR ds).1, (2 * d + (dblR ds).2) / 10)
def frac : Nat → List Nat → Nat → Nat
  | 0, _, out => out
  | r + 1, l, out => frac r (dblR l).1 (2 * out + (dblR l).2)
def ninth (l : List Nat) : Prop := ∀ d ∈ l, d ≤ 9
theorem dblR_len : ∀ l : List Nat, (dblR l).1.length = l.length
  | [] => rfl
  | d :: ds => by simp [dblR, dblR_len ds]
theorem dblR_nine : ∀ l : List Nat, ninth (dblR l).1
  | [] => by simp [dblR, ninth]
  | d :: ds => by
    intro x hx
    simp only [dblR, List.mem_cons] at hx
    rcases hx with rfl | hx
    · omega
    · exact dblR_nine ds x hx
theorem dblR_carry : ∀ l : List Nat, ninth l → (dblR l).2 ≤ 1
  | [], _ => by simp [dblR]
  | d :: ds, h => by
    have h1 := dblR_carry ds (fun x hx => h x (by simp [hx]))
    have h2 := h d (by simp)
    simp only [dblR]
    omega
def mid (l : List Nat) (p : Nat) : List Nat := l.take p ++ (dblR (l.drop p)).1
def midC (l : List Nat) (p : Nat) : Nat := (dblR (l.drop p)).2
theorem mid_len (l : List Nat) (p : Nat) : (mid l p).length = l.length := by
  unfold mid; rw [List.length_append, dblR_len, List.length_take, List.length_drop]; omega
theorem mid_all (l : List Nat) : mid l l.length = l ∧ midC l l.length = 0 := by
  unfold mid midC; simp [dblR]
theorem mid_zero (l : List Nat) : mid l 0 = (dblR l).1 ∧ midC l 0 = (dblR l).2 := by
  unfold mid midC; simp
theorem mid_at (l : List Nat) (p : Nat) (h : p < l.length) : (mid l (p + 1))[p]? = some l[p] := by
  unfold mid
  rw [List.getElem?_append_left (by rw [List.length_take]; omega), List.getElem?_take_of_lt (by omega), List.getElem?_eq_getElem h]
theorem mid_step (l : List Nat) (p : Nat) (h : p < l.length) :
    mid l p = (mid l (p + 1)).set p ((2 * l[p] + midC l (p + 1)) % 10) ∧ midC l p = (2 * l[p] + midC l (p + 1)) / 10 := by
  have e : l.drop p = l[p] :: l.drop (p + 1) := (List.getElem_cons_drop (h := h)).symm
  constructor
  · unfold mid midC
    rw [e, List.take_succ_eq_append_getElem h]
    simp only [dblR]
    rw [List.set_append_left _ _ (by simp; omega), List.set_append_right _ _ (by rw [List.length_take]; omega), List.length_take, Nat.min_eq_left (by omega), Nat.sub_self]
    simp
  · unfold midC
    rw [e]
    simp only [dblR]
theorem midC_le (l : List Nat) (p : Nat) (h : ninth l) : midC l p ≤ 1 := dblR_carry _ (fun x hx => h x (List.mem_of_mem_drop hx))
theorem frac_step (r : Nat) (l : List Nat) (out : Nat) : frac (r + 1) l out = frac r (dblR l).1 (2 * out + (dblR l).2) := rfl
theorem or_bit (a b : Nat) (hb : b ≤ 1) (ha : 2 * a + 1 < 18446744073709551616) : bits .or .u64 ((2 * a : Nat) : Int) (b : Int) = ((2 * a + b : Nat) : Int) := by
  rw [bits_or_u64_nat _ _ (by omega) (by omega)]
  have := Nat.two_pow_add_eq_or_of_lt (i := 1) (b := b) (by omega) a
  simp only [Nat.pow_one] at this
  rw [← this]
end Go.Proofs.Ytenpiaafkmfjfaa.B

end
section
namespace Go.Proofs.Ytenpiaafkmfjfaa.B
def decA : Nat → Nat → List Nat → List Nat
  | 0, _, acc => acc
  | f + 1, n, acc => if n / 10 = 0 then n % 10 :: acc else decA f (n / 10) (n % 10 :: acc)
def decs (n : Nat) : List Nat := decA 20 n []
def fd : Nat → Nat → List Nat
  | 0, _ => []
  | k + 1, p => if p = 0 then [] else p * 10 / 4294967296 :: fd k (p * 10 % 4294967296)
def dig (d : Nat) : UInt8 := UInt8.ofNat (48 + d)
def textN (neg : Bool) (n : Nat) (f : Bool) : List UInt8 :=
  (((if neg then [45] else []) ++ (decs (n / 4294967296)).map dig) ++ (if n % 4294967296 = 0 then [] else 46 :: (fd 32 (n % 4294967296)).map dig)) ++ (if f then [33] else [])
theorem decA_nine : ∀ (f n : Nat) (acc : List Nat), ninth acc → ninth (decA f n acc)
  | 0, _, acc, h => h
  | f + 1, n, acc, h => by
    have hc : ninth (n % 10 :: acc) := by
      intro x hx
      rcases List.mem_cons.1 hx with rfl | hx
      · omega
      · exact h x hx
    rw [decA]
    split
    · exact hc
    · exact decA_nine f (n / 10) _ hc
theorem decs_nine (n : Nat) : ninth (decs n) := decA_nine 20 n [] (fun x hx => by cases hx)
theorem decA_len : ∀ (f n : Nat) (acc : List Nat), (decA f n acc).length ≤ f + acc.length
  | 0, _, acc => by simp [decA]
  | f + 1, n, acc => by
    rw [decA]
    split
    · simp; omega
    · have := decA_len f (n / 10) (n % 10 :: acc); simp at this; omega
theorem decs_len (n : Nat) : (decs n).length ≤ 20 := (by simpa using decA_len 20 n [] : (decA 20 n []).length ≤ 20)
theorem dig_toNat (d : Nat) (h : d ≤ 9) : (dig d).toNat = 48 + d := by
  unfold dig
  rw [UInt8.toNat_ofNat']
  omega
theorem fd_stable : ∀ (j p : Nat), j ≤ 32 → p < 4294967296 → 2 ^ (32 - j) ∣ p → ∀ k, j ≤ k → fd k p = fd j p
  | 0, p, _, hp, hd, k, _ => by
    have : p = 0 := by
      obtain ⟨c, rfl⟩ := hd
      simp at hp ⊢
      omega
    subst this
    cases k with
    | zero => rfl
    | succ k => simp [fd]
  | j + 1, p, hj, hp, hd, k, hk => by
    obtain ⟨k, rfl⟩ : ∃ m, k = m + 1 := ⟨k - 1, by omega⟩
    rw [fd, fd]
    by_cases h0 : p = 0
    · rw [if_pos h0, if_pos h0]
    · rw [if_neg h0, if_neg h0, fd_stable j (p * 10 % 4294967296) (by omega) (Nat.mod_lt _ (by decide)) ?_ k (by omega)]
      have e : 32 - j = (32 - (j + 1)) + 1 := by omega
      have h1 : 2 ^ (32 - j) ∣ p * 10 := by
        obtain ⟨c, rfl⟩ := hd
        refine ⟨c * 5, ?_⟩
        rw [e, Nat.pow_succ]
        simp only [Nat.mul_assoc, Nat.mul_left_comm, Nat.mul_comm]
        congr 1
        omega
      have h2 : 2 ^ (32 - j) ∣ 4294967296 := ⟨2 ^ j, by rw [← Nat.pow_add, show 32 - j + j = 32 by omega]⟩
      exact (Nat.dvd_mod_iff h2).2 h1
theorem fd_step (p : Nat) (h0 : p ≠ 0) (hp : p < 4294967296) : fd 32 p = p * 10 / 4294967296 :: fd 32 (p * 10 % 4294967296) := by
  have h := fd_stable 32 p (by omega) hp (by simp) 33 (by omega)
  rw [← h, fd, if_neg h0]
theorem fd_len : ∀ (k p : Nat), (fd k p).length ≤ k
  | 0, _ => by simp [fd]
  | k + 1, p => by
    rw [fd]
    split
    · simp
    · have := fd_len k (p * 10 % 4294967296); simp; omega
end Go.Proofs.Ytenpiaafkmfjfaa.B

end
section
namespace Go.Proofs.Ytenpiaafkmfjfaa.B
open Go.RowKit Go.Proofs.YtenpiaafkmfjfaaW.PrintWords Go.Proofs.YtenpiaafkmfjfaaW.PrintLast Go.Proofs.YtenpiaafkmfjfaaW.PrintMore
def ch (d : Nat) : Value := .int .u8 ((48 + d : Nat) : Int)
def rowT (k : Nat) (acc : List Nat) : Array Value := (List.replicate (20 - k) (Value.int .u8 0) ++ acc.map ch).toArray
theorem rowT_put (k : Nat) (acc : List Nat) (d : Nat) (hk : k < 20) : (rowT k acc).setIfInBounds (19 - k) (.int .u8 ((48 + d : Nat) : Int)) = rowT (k + 1) (d :: acc) := by
  unfold rowT
  apply Array.ext'
  rw [Array.toList_setIfInBounds]
  simp only
  rw [List.set_append_left _ _ (by simp; omega), show 20 - k = (19 - k) + 1 by omega, List.replicate_succ', List.set_append_right _ _ (by simp)]
  simp [ch, show 20 - (k + 1) = 19 - k by omega]
theorem decA_go (k : Nat) (hk : k < 20) (n : Nat) (acc : List Nat) (h : ¬ n / 10 = 0) : decA (20 - k) n acc = decA (20 - (k + 1)) (n / 10) (n % 10 :: acc) := by
  rw [show 20 - k = (20 - (k + 1)) + 1 by omega, decA, if_neg h]
theorem decA_end (k : Nat) (hk : k < 20) (n : Nat) (acc : List Nat) (h : n / 10 = 0) : decA (20 - k) n acc = n % 10 :: acc := by
  rw [show 20 - k = (20 - (k + 1)) + 1 by omega, decA, if_pos h]
set_option maxRecDepth 10000 in
theorem slice110 (b y : Nat) (hy : y < 20) (W : World) : (Instr.sliceAt 110 (.pointer (some ⟨b, 0, none⟩)) (some (.int .i64 (y : Int))) none none).run Try.prog W = .ok (.slice (some ⟨b, y, none⟩) (20 - y) (20 - y)) W := by
  have h := run_sliceAt_array_l (P := Try.prog) W 110 ⟨b, 0, none⟩ (by kernel_rfl) .i64 (y : Int) (by omega) (by show (y : Int) ≤ ((20 : Nat) : Int); omega)
  rw [h]
  have e1 : (sizeOf (Try.prog.elem 110)).run Try.prog W = .ok 1 W := by kernel_rfl
  have e2 : Try.prog.arrayLen 110 = 20 := by kernel_rfl
  rw [e1, e2]
  have e3 : ¬ 20 = y := by omega
  simp [slicedAt, Addr.add, e3]
  omega
theorem rowT_drop (y : Nat) (acc : List Nat) (h : y + acc.length = 20) (j : Nat) (u : Value) (hu : (acc.map ch)[j]? = some u) : (rowT acc.length acc)[y + j]? = some u := by
  unfold rowT
  rw [List.getElem?_toArray, List.getElem?_append_right (by simp; omega), List.length_replicate, show y + j - (20 - acc.length) = j by omega]
  exact hu
theorem add_off (b o j : Nat) : (⟨b, o, none⟩ : Addr).add j = ⟨b, o + j, none⟩ := by simp [Addr.add]
theorem retS {a : Option Addr} {m n : Nat} (h : n = m) : Ending.returned (Value.slice a m m) = .returned (Value.slice a n n) := by rw [h]
theorem splice_all (k : Nat) (cs : List Value) (h : cs.length = k) : splice (madeCells #[.int .u8 0] k).toList 0 cs = cs := by
  subst h
  simp [splice, madeCells]
set_option maxHeartbeats 2000000 in
set_option maxRecDepth 100000 in
theorem decimal_calls (n : Nat) (hn : n < 18446744073709551616) (w : World) :
    Calls Try.prog 104 #[.int .u64 n] w fun e w' => ∃ g, e = .returned (.slice (some ⟨g, 0, none⟩) (decs n).length (decs n).length) ∧ w.heap.size ≤ g ∧ w'.heap[g]? = some (.cells ((decs n).map ch).toArray 5 (0, 0)) ∧ Below w.heap.size w w' := by
  generalize hD : decs n = D
  have HD : Hid (decs n = D) := hD
  clear hD
  go_enter Try.func104, Try.ntmps104
  go_wp2
  have hA : Hid (_ = some (Obj.cells (rowT 0 []) 110 (0, 0))) := blk_new w (.cells (rowT 0 []) 110 (0, 0))
  have hB : Hid (Below w.heap.size w (w.alloc (.cells (rowT 0 []) 110 (0, 0)))) := below_alloc (Below.refl _ _) _
  go_loopw [0, 4, 6] (fun m at_ i wr => ∃ (k y m' : Nat) (acc : List Nat), k ≤ 20 ∧ i = .int .i64 k ∧ at_ = .int .i64 y ∧ Hid (y + k = 20) ∧ m = .int .u64 m' ∧ m' < 18446744073709551616 ∧ Hid (acc.length = k) ∧ Hid (decA (20 - k) m' acc = D) ∧ Hid (wr.heap[w.heap.size]? = some (.cells (rowT k acc) 110 (0, 0))) ∧ Hid (Below w.heap.size w wr)) (fun _ _ i _ => 20 - (intOf i).toNat)
  case atStart => exact ⟨0, 20, n, [], by omega, rfl, rfl, (rfl : 20 + 0 = 20), rfl, hn, (rfl : [].length = 0), HD, hA, hB⟩
  case round =>
    clear hA hB hn HD
    obtain ⟨k, y, m, acc, hk, rfl, rfl, hy, rfl, hm, hl, hD, hA, hB⟩ := hrel
    by_cases hlt : k < 20
    · have hltB : decide ((k : Int) < 20) = true := by simp; omega
      have hyy := hy.out
      cases y with
      | zero => omega
      | succ y =>
        have hz0 := blk_frozen hA.out y
        have hsz : y < (rowT k acc).size := by have := hl.out; simp [rowT]; omega
        have hc0 := (blk_cell hA.out y).trans (Array.getElem?_eq_getElem hsz)
        generalize (rowT k acc)[y]'hsz = old at hc0
        have e48 : ((48 + m % 10 : Nat) : Int) = 48 + (m : Int) % 10 := by omega
        have hA2 : Hid ((wr.setCell ⟨w.heap.size, y, none⟩ (.int .u8 (48 + (m : Int) % 10))).heap[w.heap.size]? = some (.cells (rowT (k + 1) (m % 10 :: acc)) 110 (0, 0))) := by
          obtain rfl : y = 19 - k := by omega
          rw [← e48]
          exact blk_put hA.out (19 - k) _ (rowT_put k acc (m % 10) hlt)
        have hB2 : Hid (Below w.heap.size w (wr.setCell ⟨w.heap.size, y, none⟩ (.int .u8 (48 + (m : Int) % 10)))) := below_set hB.out (Nat.le_refl _)
        clear e48
        have hy20 : y < 20 := by omega
        have hBs : w.heap.size ≤ wr.heap.size := hB.out.size
        clear hA hB hyy hsz
        by_cases h10 : m / 10 = 0
        · have hD2 : Hid (m % 10 :: acc = D) := by rw [← hD.out]; exact (decA_end k hlt m acc h10).symm
          have hl2 : Hid ((m % 10 :: acc).length = k + 1) := by have := hl.out; simp [Hid, this]
          have h10' : (((m : Int) / 10) == 0) = true := by simp; omega
          clear h10 hD hl
          have hmk : ∀ W, (Instr.makeSlice 94 (.int .i64 (20 - (y : Int))) (.int .i64 (20 - (y : Int)))).run Try.prog W = .ok (.slice (some ⟨W.heap.size, 0, none⟩) (k + 1) (k + 1)) (W.alloc (.cells (madeCells #[.int .u8 0] (k + 1)) 5)) := fun W => by
            have := hy.out
            rw [show (20 - (y : Int)) = ((k + 1 : Nat) : Int) by omega]
            exact run_make_row' (P := Try.prog) 94 5 (.int .u8 0) 1 Try.underlying94 info5 rfl .i64 .i64 (k + 1) (by omega) (by omega) W
          have hsl := fun W => slice110 w.heap.size y hy20 W
          obtain ⟨cs, hcs⟩ : ∃ cs, cs = (m % 10 :: acc).map ch := ⟨_, rfl⟩
          have HCS : Hid (cs = (m % 10 :: acc).map ch) := hcs
          have HDL : Hid (D.length = k + 1) := by show _ = _; rw [← hD2.out]; exact hl2.out
          have HDC : Hid (cs = D.map ch) := by show _ = _; rw [← hD2.out]; exact hcs
          have Hlen : Hid (cs.length = k + 1) := by show _ = _; rw [hcs, List.length_map]; exact hl2.out
          have Hone : Hid (∀ v ∈ cs, v.oneCell' = true) := by rw [hcs]; intro v hv; obtain ⟨d, _, rfl⟩ := List.mem_map.1 hv; rfl
          have Hsrc : Hid (∀ j v, cs[j]? = some v → (rowT (k + 1) (m % 10 :: acc))[y + j]? = some v) := by
            intro j v hj
            have h1 := hl2.out
            have h2 := hy.out
            have := rowT_drop y (m % 10 :: acc) (by omega) j v (by rw [← hcs]; exact hj)
            rwa [h1] at this
          clear hcs
          go_wp2_with (refine wpList_copy_splice rfl (.tmp 24) (.tmp 26) 94 94 rfl 5 Try.underlying94 (by kernel_rfl) (some ⟨wr.heap.size, 0, none⟩) (some ⟨w.heap.size, y, none⟩) (k + 1) (k + 1) (20 - y) (20 - y) rfl rfl wr.heap.size 0 (madeCells #[.int .u8 0] (k + 1)).toList 5 (by have := blk_new (wr.setCell ⟨w.heap.size, y, none⟩ (.int .u8 (48 + (m : Int) % 10))) (.cells (madeCells #[.int .u8 0] (k + 1)) 5); simpa using this) cs (by have h1 := Hlen.out; have h2 := hy.out; rw [h1]; show _ = min _ _; omega) (fun _ => ⟨rfl, ⟨w.heap.size, y, none⟩, rfl, fun j v hj => by rw [add_off]; exact (blk_cell (blk_alloc hA2.out _) (y + j)).trans (Hsrc.out j v hj)⟩) (by rw [Hlen.out]; simp [madeCells]) Hone.out w.heap.size w (below_alloc hB2.out _) hBs ?_)
          intro w' hg' hb'
          have hg2 : Hid (w'.heap[wr.heap.size]? = some (.cells (D.map ch).toArray 5 (0, 0))) := by
            have := hg'.out
            rw [splice_all (k + 1) _ Hlen.out, HDC.out] at this
            exact this
          clear hg'
          go_wp2
          go_ret
          exact ⟨wr.heap.size, retS HDL.out, hBs, hg2.out, hb'⟩
        · have hD2 : Hid (decA (20 - (k + 1)) (m / 10) (m % 10 :: acc) = D) := by rw [← hD.out]; exact (decA_go k hlt m acc h10).symm
          have h10' : (((m : Int) / 10) == 0) = false := by simp; omega
          have hl2 : Hid ((m % 10 :: acc).length = k + 1) := by have := hl.out; simp [Hid, this]
          clear h10 hD hl
          go_wp2
          go_roundw
          case rel =>
            refine ⟨k + 1, y, m / 10, m % 10 :: acc, by omega, by go_num, rfl, ?_, by go_num, by omega, hl2, hD2, ?_, ?_⟩
            · have := hy.out; show _ = _; omega
            · exact hA2.out
            · exact hB2.out
          case measure => first | (simp [intOf]; done) | (simp [intOf]; omega)
    · obtain rfl : k = 20 := by omega
      obtain rfl : y = 0 := by have := hy.out; omega
      have hlt2 : decide ((20 : Int) < 20) = false := by decide
      have hBs : w.heap.size ≤ wr.heap.size := hB.out.size
      have hD2 : Hid (acc = D) := hD.out
      clear hD
      have hmk : ∀ W, (Instr.makeSlice 94 (.int .i64 20) (.int .i64 20)).run Try.prog W = .ok (.slice (some ⟨W.heap.size, 0, none⟩) 20 20) (W.alloc (.cells (madeCells #[.int .u8 0] 20) 5)) := fun W => run_make_row' (P := Try.prog) 94 5 (.int .u8 0) 1 Try.underlying94 info5 rfl .i64 .i64 20 (by omega) (by omega) W
      have hsl : ∀ W, (Instr.sliceAt 110 (.pointer (some ⟨w.heap.size, 0, none⟩)) (some (.int .i64 0)) none none).run Try.prog W = .ok (.slice (some ⟨w.heap.size, 0, none⟩) 20 20) W := fun W => slice110 w.heap.size 0 (by omega) W
      obtain ⟨cs, hcs⟩ : ∃ cs, cs = acc.map ch := ⟨_, rfl⟩
      have HDL : Hid (D.length = 20) := by show _ = _; rw [← hD2.out]; exact hl.out
      have HDC : Hid (cs = D.map ch) := by show _ = _; rw [← hD2.out]; exact hcs
      have Hlen : Hid (cs.length = 20) := by show _ = _; rw [hcs, List.length_map]; exact hl.out
      have Hone : Hid (∀ v ∈ cs, v.oneCell' = true) := by rw [hcs]; intro v hv; obtain ⟨d, _, rfl⟩ := List.mem_map.1 hv; rfl
      have Hsrc : Hid (∀ j v, cs[j]? = some v → (rowT 20 acc)[0 + j]? = some v) := by
        intro j v hj
        have h1 := hl.out
        have := rowT_drop 0 acc (by omega) j v (by rw [← hcs]; exact hj)
        rwa [h1] at this
      clear hcs
      go_wp2_with (refine wpList_copy_splice rfl (.tmp 24) (.tmp 26) 94 94 rfl 5 Try.underlying94 (by kernel_rfl) (some ⟨wr.heap.size, 0, none⟩) (some ⟨w.heap.size, 0, none⟩) 20 20 20 20 rfl rfl wr.heap.size 0 (madeCells #[.int .u8 0] 20).toList 5 (by have := blk_new wr (.cells (madeCells #[.int .u8 0] 20) 5); simpa using this) cs (by have h1 := Hlen.out; rw [h1]; rfl) (fun _ => ⟨rfl, ⟨w.heap.size, 0, none⟩, rfl, fun j v hj => by rw [add_off]; exact (blk_cell (blk_alloc hA.out _) (0 + j)).trans (Hsrc.out j v hj)⟩) (by rw [Hlen.out]; simp [madeCells]) Hone.out w.heap.size w (below_alloc hB.out _) hBs ?_)
      intro w' hg' hb'
      have hg2 : Hid (w'.heap[wr.heap.size]? = some (.cells (D.map ch).toArray 5 (0, 0))) := by
        have := hg'.out
        rw [splice_all 20 _ Hlen.out, HDC.out] at this
        exact this
      clear hg'
      go_wp2
      go_ret
      exact ⟨wr.heap.size, retS HDL.out, hBs, hg2.out, hb'⟩
end Go.Proofs.Ytenpiaafkmfjfaa.B

end
section
namespace Go.Proofs.Ytenpiaafkmfjfaa.B
open Go.RowKit Go.Proofs.YtenpiaafkmfjfaaW.PrintWords Go.Proofs.YtenpiaafkmfjfaaW.PrintLast Go.Proofs.YtenpiaafkmfjfaaW.PrintMore
def IsB (b : Nat) (l : List UInt8) (w : World) : Prop := Lib.IsBuilder 96 5 b b (Lib.byteCells l) w
theorem IsB.below {b : Nat} {l : List UInt8} {w w1 : World} (h : IsB b l w) (hb : Below w.heap.size w w1) : IsB b l w1 := by
  have k : ∀ p, Lib.BuilderAt 96 5 b b p (Lib.byteCells l) w → Lib.BuilderAt 96 5 b b p (Lib.byteCells l) w1 := by
    rintro p ⟨hB, v, hbk, hown, hne⟩
    exact ⟨hB, v, blk_below hbk hb, own_move hown (fun k hk => by obtain ⟨cells, hc⟩ := own_typed hown k hk; exact hb.block k (blk_lt hc)), hne⟩
  rcases h with h | h
  · exact .inl (k _ h)
  · exact .inr (k _ h)
theorem IsB.lt {b : Nat} {l : List UInt8} {w : World} (h : IsB b l w) : b < w.heap.size := by
  rcases h with h | h
  · exact h.lt
  · exact h.lt
theorem isB_new (w : World) : IsB w.heap.size [] (w.alloc (.cells #[.pointer none, .slice none 0 0] 96)) := Lib.fresh_isBuilder 96 5 w
theorem writeB (b : Nat) (l : List UInt8) (c : UInt8) (ci : Int) (hc : ci = (c.toNat : Int)) (w : World) (h : IsB b l w) (hl : l.length ≤ 1000) :
    Calls Try.prog 102 #[.pointer (some ⟨b, 0, none⟩), .int .u8 ci] w fun e w' => e = .returned .nilIface ∧ IsB b (l ++ [c]) w' ∧ Below b w w' := by
  subst hc
  refine (writeByte b b _ (c.toNat : Int) w h (by rw [Lib.byteCells_length]; omega) (Nat.le_of_lt h.lt)).mono ?_
  rintro e w' ⟨rfl, h1, h2⟩
  refine ⟨rfl, .inr ?_, h2⟩
  have e : Lib.byteCells l ++ [.int .u8 (c.toNat : Int)] = Lib.byteCells (l ++ [c]) := by simp [Lib.byteCells]
  rwa [e] at h1
theorem writeL (b : Nat) (l news : List UInt8) (g m : Nat) (w : World) (h : IsB b l w) (hl : l.length ≤ 1000) (hm : news.length = m) (hm2 : m ≤ 1000)
    (hg : w.heap[g]? = some (.cells (Lib.byteCells news).toArray 5 (0, 0))) (hne : g ≠ b) :
    Calls Try.prog 103 #[.pointer (some ⟨b, 0, none⟩), .slice (some ⟨g, 0, none⟩) m m] w fun e w' => e = .returned (.tuple #[.int .i64 m, .nilIface]) ∧ IsB b (l ++ news) w' ∧ Below b w w' := by
  refine (writeBytes b b _ ⟨g, 0, none⟩ m m (Lib.byteCells news) w h (by rw [Lib.byteCells_length]; exact hm) (fun j u hj => ?_) hne ?_ (by rw [Lib.byteCells_length]; omega) (Nat.le_of_lt h.lt)).mono ?_
  · rw [add_off, Nat.zero_add]
    exact (blk_cell hg j).trans (by simpa using hj)
  · intro u hu
    obtain ⟨x, _, rfl⟩ := List.mem_map.1 hu
    rfl
  · rintro e w' ⟨rfl, h1, h2⟩
    refine ⟨rfl, .inr ?_, h2⟩
    have e : Lib.byteCells l ++ Lib.byteCells news = Lib.byteCells (l ++ news) := by simp [Lib.byteCells]
    rwa [e] at h1
theorem ch_bytes (l : List Nat) (h : ninth l) : l.map ch = Lib.byteCells (l.map dig) := by
  unfold Lib.byteCells
  rw [List.map_map]
  apply List.map_congr_left
  intro d hd
  unfold ch
  simp only [Function.comp]
  rw [dig_toNat d (h d hd)]
theorem and_mask (n : Nat) (hn : n < 18446744073709551616) : bits .and .u64 (n : Int) 4294967295 = ((n % 4294967296 : Nat) : Int) := by
  have h := bits_and_u64_nat n 4294967295 hn (by omega)
  have e : n &&& 4294967295 = n % 4294967296 := Nat.and_two_pow_sub_one_eq_mod n 32
  rw [e] at h
  exact h
theorem Lib_hid {p : Prop} (h : p) : Hid p := h
structure StT (w : World) (x b : Nat) (v : Int) (f : Bool) (l : List UInt8) (W : World) : Prop where
  box : W.heap[x]? = some (.cells #[.int .i64 v, .bool f] 23 (0, 0))
  isB : IsB b l W
  bel : Below w.heap.size w W
  xb : x < b
  wx : w.heap.size ≤ x
theorem StT.below {w : World} {x b : Nat} {v : Int} {f : Bool} {l : List UInt8} {W W' : World} (h : StT w x b v f l W) (hb : Below W.heap.size W W') : StT w x b v f l W' :=
  ⟨blk_below h.box hb, h.isB.below hb, below_step h.bel hb, h.xb, h.wx⟩
theorem StT.last {w : World} {x b : Nat} {v : Int} {f : Bool} {l : List UInt8} {W W' : World} (h : StT w x b v f l W) (hb : Below b W W') : Below w.heap.size w W' :=
  h.bel.trans (hb.mono (Nat.le_trans h.wx (Nat.le_of_lt h.xb)))
theorem StT.write {w : World} {x b : Nat} {v : Int} {f : Bool} {l l' : List UInt8} {W W' : World} (h : StT w x b v f l W) (hB : IsB b l' W') (hb : Below b W W') : StT w x b v f l' W' :=
  ⟨(hb.block x h.xb).trans h.box, hB, h.last hb, h.xb, h.wx⟩
theorem StT.q0 {w : World} {x b : Nat} {v : Int} {f : Bool} {l : List UInt8} {W : World} (h : StT w x b v f l W) : W.cell? ⟨x, 0, none⟩ = some (.int .i64 v) := (blk_cell h.box 0).trans rfl
theorem StT.q1 {w : World} {x b : Nat} {v : Int} {f : Bool} {l : List UInt8} {W : World} (h : StT w x b v f l W) : W.cell? ⟨x, 1, none⟩ = some (.bool f) := (blk_cell h.box 1).trans rfl
theorem stT_new (w w1 : World) (v v1 : Int) (f f1 : Bool) (hbox : w1.heap[w.heap.size]? = some (.cells #[.int .i64 v, .bool f] 23 (0, 0))) (hB : Below w.heap.size w w1) :
    StT w w.heap.size w1.heap.size v1 f1 [] (((w1.setCell ⟨w.heap.size, 0, none⟩ (.int .i64 v1)).setCell ⟨w.heap.size, 1, none⟩ (.bool f1)).alloc (.cells #[.pointer none, .slice none 0 0] 96)) := by
  refine ⟨blk_alloc (blk_put (cs := #[.int .i64 v1, .bool f]) (blk_put (cs := #[.int .i64 v, .bool f]) hbox 0 _ rfl) 1 _ rfl) _, ?_, below_alloc (below_set (below_set hB (Nat.le_refl _)) (Nat.le_refl _)) _, blk_lt hbox, Nat.le_refl _⟩
  have h := isB_new ((w1.setCell ⟨w.heap.size, 0, none⟩ (.int .i64 v1)).setCell ⟨w.heap.size, 1, none⟩ (.bool f1))
  have e : ((w1.setCell ⟨w.heap.size, 0, none⟩ (.int .i64 v1)).setCell ⟨w.heap.size, 1, none⟩ (.bool f1)).heap.size = w1.heap.size := by simp
  rw [e] at h
  exact h
theorem strB (b : Nat) (l : List UInt8) (w : World) (h : IsB b l w) :
    Calls Try.prog 105 #[.pointer (some ⟨b, 0, none⟩)] w fun e w' => e = .returned (.string ⟨l.toArray⟩) ∧ Below b w w' := Builder_String_any b b l w h (Nat.le_of_lt h.lt)
theorem retT {a b : List UInt8} (h : a = b) : Ending.returned (Value.string ⟨a.toArray⟩) = .returned (Value.string ⟨b.toArray⟩) := by rw [h]
theorem c10 (q : Nat) : ((q * 10 % 4294967296 : Nat) : Int) = (q : Int) * 10 % 4294967296 := by omega
theorem tn10 (q m : Nat) (h : q * 10 % 4294967296 = m) : ((q : Int) * 10 % 4294967296).toNat = m := by
  rw [← c10, h, Int.toNat_natCast]
theorem meas_dec (q : Nat) (h : (fd 32 q).length = (fd 32 (q * 10 % 4294967296)).length + 1) : (fd 32 ((q : Int) * 10 % 4294967296).toNat).length < (fd 32 (q : Int).toNat).length := by
  generalize hm : q * 10 % 4294967296 = m at h
  have e := tn10 q m hm
  generalize ((q : Int) * 10 % 4294967296).toNat = z at e ⊢
  subst e
  rw [Int.toNat_natCast, h]
  exact Nat.lt_succ_self _
set_option maxHeartbeats 800000 in
set_option maxRecDepth 100000 in
theorem text_000 (v : Int) (f : Bool) (v1 : Int) (n p : Nat) (w : World) (hs : fixed_sound.f v f = some (v1, false)) (hof : fixed_of.f v1 = some (false, (n : Int), 0)) (hneg : ¬ v1 < 0) (hn : n < 18446744073709551616) (hp : n % 4294967296 = p) (hp0 : p = 0) :
    Calls Try.prog 67 #[.agg #[.int .i64 v, .bool f]] w fun e w' => e = .returned (.string ⟨(textN false n false).toArray⟩) ∧ Below w.heap.size w w' := by
  have HS : Hid (fixed_sound.f v f = some (v1, false)) := hs
  have HOF : Hid (fixed_of.f v1 = some (false, (n : Int), 0)) := hof
  have hidx := idx58_0
  have hfld := fld60_1
  have HP : Hid (n % 4294967296 = p) := hp
  have hp32 : p < 4294967296 := by omega
  have HD : Hid (∀ W, Calls Try.prog 104 #[.int .u64 ((n : Int) / 4294967296)] W fun e w' => ∃ g, e = .returned (.slice (some ⟨g, 0, none⟩) (decs (n / 4294967296)).length (decs (n / 4294967296)).length) ∧ W.heap.size ≤ g ∧ w'.heap[g]? = some (.cells (Lib.byteCells ((decs (n / 4294967296)).map dig)).toArray 5 (0, 0)) ∧ Below W.heap.size W w') := fun W => by
    have h := decimal_calls (n / 4294967296) (by omega) W
    rw [show ((n / 4294967296 : Nat) : Int) = (n : Int) / 4294967296 by omega, ch_bytes _ (decs_nine _)] at h
    exact h
  have hmask : bits .and .u64 (n : Int) 4294967295 = (p : Int) := by rw [and_mask n hn, hp]
  clear hs hof hp
  subst hp0
  generalize hT : textN false n false = T
  have HT : Hid (textN false n false = T) := hT
  clear hT
  go_enter Try.func67, Try.ntmps67
  go_wp2_with fail
  refine (fixed_sound.calls v f v1 false _ HS.out).mono ?_
  rintro e w1 ⟨rfl, hb⟩
  have hbox : w1.heap[w.heap.size]? = some (.cells #[.int .i64 v, .bool f] 23 (0, 0)) := blk_below (blk_new w _) hb
  have hB : Hid (Below w.heap.size w w1) := below_step (below_alloc (Below.refl _ _) _) hb
  have q0 : w1.cell? ⟨w.heap.size, 0, none⟩ = some (.int .i64 v) := (blk_cell hbox 0).trans rfl
  have q1 : w1.cell? ⟨w.heap.size, 1, none⟩ = some (.bool f) := (blk_cell hbox 1).trans rfl
  have z0 := blk_frozen hbox 0
  have z1 := blk_frozen hbox 1
  have hlt : w.heap.size < w1.heap.size := blk_lt hbox
  have hst : Hid (StT w w.heap.size w1.heap.size v1 false [] _) := stT_new w w1 v v1 f false hbox hB.out
  have hne1 : w.heap.size ≠ w1.heap.size := Nat.ne_of_lt hlt
  have hne2 : w1.heap.size ≠ w.heap.size := Nat.ne_of_gt hlt
  clear hbox hb hB
  go_wp2_with fail
  clear q0 q1 z0 z1
  refine (fixed_of.calls v1 false n 0 _ HOF.out).mono ?_
  rintro e w2 ⟨rfl, hb⟩
  replace hst := Lib_hid (hst.out.below hb)
  clear hb
  have q0 := hst.out.q0
  have q1 := hst.out.q1
  go_wp2_with fail
  clear q0 q1
  refine (HD.out _).mono ?_
  rintro e w3 ⟨g, rfl, hg, hgb, hb⟩
  have hgn : g ≠ w1.heap.size := by have := hst.out.isB.lt; omega
  have HGB := Lib_hid hgb
  replace hst := Lib_hid (hst.out.below hb)
  clear hb hgb hg
  have q0 := hst.out.q0
  have q1 := hst.out.q1
  go_wp2_with fail
  clear q0 q1
  have hlen := decs_len (n / 4294967296)
  refine (writeL _ _ _ g _ _ hst.out.isB (by simp) (by rw [List.length_map]) (by omega) HGB.out hgn).mono ?_
  clear HGB
  rintro e w4 ⟨rfl, hB, hb⟩
  replace hst := Lib_hid (hst.out.write hB hb)
  clear hB  hb
  have q0 := hst.out.q0
  have q1 := hst.out.q1
  go_wp2_with fail
  clear q0 q1
  refine (strB _ _ _ hst.out.isB).mono ?_
  rintro e w5 ⟨rfl, hb⟩
  have hfin := Lib_hid (hst.out.last hb)
  clear hb hst
  go_wp2
  go_ret
  exact ⟨retT (by rw [← HT.out]; simp [textN, HP.out]), hfin.out⟩
set_option maxHeartbeats 800000 in
set_option maxRecDepth 100000 in
theorem text_001 (v : Int) (f : Bool) (v1 : Int) (n p : Nat) (w : World) (hs : fixed_sound.f v f = some (v1, true)) (hof : fixed_of.f v1 = some (false, (n : Int), 0)) (hneg : ¬ v1 < 0) (hn : n < 18446744073709551616) (hp : n % 4294967296 = p) (hp0 : p = 0) :
    Calls Try.prog 67 #[.agg #[.int .i64 v, .bool f]] w fun e w' => e = .returned (.string ⟨(textN false n true).toArray⟩) ∧ Below w.heap.size w w' := by
  have HS : Hid (fixed_sound.f v f = some (v1, true)) := hs
  have HOF : Hid (fixed_of.f v1 = some (false, (n : Int), 0)) := hof
  have hidx := idx58_0
  have hfld := fld60_1
  have HP : Hid (n % 4294967296 = p) := hp
  have hp32 : p < 4294967296 := by omega
  have HD : Hid (∀ W, Calls Try.prog 104 #[.int .u64 ((n : Int) / 4294967296)] W fun e w' => ∃ g, e = .returned (.slice (some ⟨g, 0, none⟩) (decs (n / 4294967296)).length (decs (n / 4294967296)).length) ∧ W.heap.size ≤ g ∧ w'.heap[g]? = some (.cells (Lib.byteCells ((decs (n / 4294967296)).map dig)).toArray 5 (0, 0)) ∧ Below W.heap.size W w') := fun W => by
    have h := decimal_calls (n / 4294967296) (by omega) W
    rw [show ((n / 4294967296 : Nat) : Int) = (n : Int) / 4294967296 by omega, ch_bytes _ (decs_nine _)] at h
    exact h
  have hmask : bits .and .u64 (n : Int) 4294967295 = (p : Int) := by rw [and_mask n hn, hp]
  clear hs hof hp
  subst hp0
  generalize hT : textN false n true = T
  have HT : Hid (textN false n true = T) := hT
  clear hT
  go_enter Try.func67, Try.ntmps67
  go_wp2_with fail
  refine (fixed_sound.calls v f v1 true _ HS.out).mono ?_
  rintro e w1 ⟨rfl, hb⟩
  have hbox : w1.heap[w.heap.size]? = some (.cells #[.int .i64 v, .bool f] 23 (0, 0)) := blk_below (blk_new w _) hb
  have hB : Hid (Below w.heap.size w w1) := below_step (below_alloc (Below.refl _ _) _) hb
  have q0 : w1.cell? ⟨w.heap.size, 0, none⟩ = some (.int .i64 v) := (blk_cell hbox 0).trans rfl
  have q1 : w1.cell? ⟨w.heap.size, 1, none⟩ = some (.bool f) := (blk_cell hbox 1).trans rfl
  have z0 := blk_frozen hbox 0
  have z1 := blk_frozen hbox 1
  have hlt : w.heap.size < w1.heap.size := blk_lt hbox
  have hst : Hid (StT w w.heap.size w1.heap.size v1 true [] _) := stT_new w w1 v v1 f true hbox hB.out
  have hne1 : w.heap.size ≠ w1.heap.size := Nat.ne_of_lt hlt
  have hne2 : w1.heap.size ≠ w.heap.size := Nat.ne_of_gt hlt
  clear hbox hb hB
  go_wp2_with fail
  clear q0 q1 z0 z1
  refine (fixed_of.calls v1 false n 0 _ HOF.out).mono ?_
  rintro e w2 ⟨rfl, hb⟩
  replace hst := Lib_hid (hst.out.below hb)
  clear hb
  have q0 := hst.out.q0
  have q1 := hst.out.q1
  go_wp2_with fail
  clear q0 q1
  refine (HD.out _).mono ?_
  rintro e w3 ⟨g, rfl, hg, hgb, hb⟩
  have hgn : g ≠ w1.heap.size := by have := hst.out.isB.lt; omega
  have HGB := Lib_hid hgb
  replace hst := Lib_hid (hst.out.below hb)
  clear hb hgb hg
  have q0 := hst.out.q0
  have q1 := hst.out.q1
  go_wp2_with fail
  clear q0 q1
  have hlen := decs_len (n / 4294967296)
  refine (writeL _ _ _ g _ _ hst.out.isB (by simp) (by rw [List.length_map]) (by omega) HGB.out hgn).mono ?_
  clear HGB
  rintro e w4 ⟨rfl, hB, hb⟩
  replace hst := Lib_hid (hst.out.write hB hb)
  clear hB  hb
  have q0 := hst.out.q0
  have q1 := hst.out.q1
  go_wp2_with fail
  clear q0 q1
  refine (writeB _ _ 33 _ rfl _ hst.out.isB (by simp; omega)).mono ?_
  rintro e w5 ⟨rfl, hB, hb⟩
  replace hst := Lib_hid (hst.out.write hB hb)
  clear hB hb
  have q0 := hst.out.q0
  have q1 := hst.out.q1
  go_wp2_with fail
  clear q0 q1
  refine (strB _ _ _ hst.out.isB).mono ?_
  rintro e w6 ⟨rfl, hb⟩
  have hfin := Lib_hid (hst.out.last hb)
  clear hb hst
  go_wp2
  go_ret
  exact ⟨retT (by rw [← HT.out]; simp [textN, HP.out]), hfin.out⟩
set_option maxHeartbeats 800000 in
set_option maxRecDepth 100000 in
theorem text_010 (v : Int) (f : Bool) (v1 : Int) (n p : Nat) (w : World) (hs : fixed_sound.f v f = some (v1, false)) (hof : fixed_of.f v1 = some (false, (n : Int), 0)) (hneg : ¬ v1 < 0) (hn : n < 18446744073709551616) (hp : n % 4294967296 = p) (hp0 : ¬ p = 0) :
    Calls Try.prog 67 #[.agg #[.int .i64 v, .bool f]] w fun e w' => e = .returned (.string ⟨(textN false n false).toArray⟩) ∧ Below w.heap.size w w' := by
  have HS : Hid (fixed_sound.f v f = some (v1, false)) := hs
  have HOF : Hid (fixed_of.f v1 = some (false, (n : Int), 0)) := hof
  have hidx := idx58_0
  have hfld := fld60_1
  have HP : Hid (n % 4294967296 = p) := hp
  have hp32 : p < 4294967296 := by omega
  have HD : Hid (∀ W, Calls Try.prog 104 #[.int .u64 ((n : Int) / 4294967296)] W fun e w' => ∃ g, e = .returned (.slice (some ⟨g, 0, none⟩) (decs (n / 4294967296)).length (decs (n / 4294967296)).length) ∧ W.heap.size ≤ g ∧ w'.heap[g]? = some (.cells (Lib.byteCells ((decs (n / 4294967296)).map dig)).toArray 5 (0, 0)) ∧ Below W.heap.size W w') := fun W => by
    have h := decimal_calls (n / 4294967296) (by omega) W
    rw [show ((n / 4294967296 : Nat) : Int) = (n : Int) / 4294967296 by omega, ch_bytes _ (decs_nine _)] at h
    exact h
  have hmask : bits .and .u64 (n : Int) 4294967295 = (p : Int) := by rw [and_mask n hn, hp]
  clear hs hof hp
  have hpB : ((p : Int) != 0) = true := by simp; omega
  generalize hT : textN false n false = T
  have HT : Hid (textN false n false = T) := hT
  clear hT
  go_enter Try.func67, Try.ntmps67
  go_wp2_with fail
  refine (fixed_sound.calls v f v1 false _ HS.out).mono ?_
  rintro e w1 ⟨rfl, hb⟩
  have hbox : w1.heap[w.heap.size]? = some (.cells #[.int .i64 v, .bool f] 23 (0, 0)) := blk_below (blk_new w _) hb
  have hB : Hid (Below w.heap.size w w1) := below_step (below_alloc (Below.refl _ _) _) hb
  have q0 : w1.cell? ⟨w.heap.size, 0, none⟩ = some (.int .i64 v) := (blk_cell hbox 0).trans rfl
  have q1 : w1.cell? ⟨w.heap.size, 1, none⟩ = some (.bool f) := (blk_cell hbox 1).trans rfl
  have z0 := blk_frozen hbox 0
  have z1 := blk_frozen hbox 1
  have hlt : w.heap.size < w1.heap.size := blk_lt hbox
  have hst : Hid (StT w w.heap.size w1.heap.size v1 false [] _) := stT_new w w1 v v1 f false hbox hB.out
  have hne1 : w.heap.size ≠ w1.heap.size := Nat.ne_of_lt hlt
  have hne2 : w1.heap.size ≠ w.heap.size := Nat.ne_of_gt hlt
  clear hbox hb hB
  go_wp2_with fail
  clear q0 q1 z0 z1
  refine (fixed_of.calls v1 false n 0 _ HOF.out).mono ?_
  rintro e w2 ⟨rfl, hb⟩
  replace hst := Lib_hid (hst.out.below hb)
  clear hb
  have q0 := hst.out.q0
  have q1 := hst.out.q1
  go_wp2_with fail
  clear q0 q1
  refine (HD.out _).mono ?_
  rintro e w3 ⟨g, rfl, hg, hgb, hb⟩
  have hgn : g ≠ w1.heap.size := by have := hst.out.isB.lt; omega
  have HGB := Lib_hid hgb
  replace hst := Lib_hid (hst.out.below hb)
  clear hb hgb hg
  have q0 := hst.out.q0
  have q1 := hst.out.q1
  go_wp2_with fail
  clear q0 q1
  have hlen := decs_len (n / 4294967296)
  refine (writeL _ _ _ g _ _ hst.out.isB (by simp) (by rw [List.length_map]) (by omega) HGB.out hgn).mono ?_
  clear HGB
  rintro e w4 ⟨rfl, hB, hb⟩
  replace hst := Lib_hid (hst.out.write hB hb)
  clear hB  hb
  have q0 := hst.out.q0
  have q1 := hst.out.q1
  go_wp2_with fail
  clear q0 q1
  refine (writeB _ _ 46 _ rfl _ hst.out.isB (by simp; omega)).mono ?_
  rintro e w5 ⟨rfl, hB, hb⟩
  replace hst := Lib_hid (hst.out.write hB hb)
  clear hB hb
  have q0 := hst.out.q0
  have q1 := hst.out.q1
  go_wp2_with fail
  clear q0 q1
  obtain ⟨L, hL⟩ : ∃ L : List UInt8, L = [] ++ (decs (n / 4294967296)).map dig ++ [46] := ⟨_, rfl⟩
  have HL := Lib_hid hL
  have hst2 : Hid (StT w w.heap.size w1.heap.size v1 false (L ++ ([] : List Nat).map dig) w5) := by rw [hL]; simpa [Hid] using hst.out
  have hLl : L.length ≤ 30 := by rw [hL]; simp; omega
  clear hst hL
  go_loopw [5] (fun r wr => ∃ (q : Nat) (acc : List Nat), r = .int .u64 q ∧ q < 4294967296 ∧ Hid (acc ++ fd 32 q = fd 32 p) ∧ Hid (StT w w.heap.size w1.heap.size v1 false (L ++ acc.map dig) wr)) (fun r _ => (fd 32 (intOf r).toNat).length)
  case atStart => exact ⟨p, [], rfl, hp32, (rfl : [] ++ fd 32 p = fd 32 p), hst2⟩
  case round =>
    clear hst2
    obtain ⟨q, acc, rfl, hq, hacc, hst⟩ := hrel
    have hal : Hid (acc.length ≤ 32) := by have h1 := fd_len 32 p; rw [← hacc.out, List.length_append] at h1; show _ ≤ _; omega
    by_cases hq0 : q = 0
    · subst hq0
      have hacc2 : Hid (acc = fd 32 p) := by have := hacc.out; simpa [fd, Hid] using this
      clear hacc
      have q0 := hst.out.q0
      have q1 := hst.out.q1
      go_wp2_with fail
      clear q0 q1
      refine (strB _ _ _ hst.out.isB).mono ?_
      rintro e w6 ⟨rfl, hb⟩
      have hfin := Lib_hid (hst.out.last hb)
      clear hb hst
      go_wp2
      go_ret
      exact ⟨retT (by rw [← HT.out, hacc2.out, HL.out]; simp [textN, HP.out, hp0]), hfin.out⟩
    · have hqB : ((q : Int) != 0) = true := by simp; omega
      have hst' := fd_step q hq0 hq
      have hacc2 : Hid ((acc ++ [q * 10 / 4294967296]) ++ fd 32 (q * 10 % 4294967296) = fd 32 p) := by show _ = _; rw [← hacc.out, hst']; simp
      have hmeas : Hid ((fd 32 q).length = (fd 32 (q * 10 % 4294967296)).length + 1) := by show _ = _; rw [hst']; simp
      have hdig : Hid (48 + (q : Int) * 10 / 4294967296 = ((dig (q * 10 / 4294967296)).toNat : Int)) := by show _ = _; rw [dig_toNat _ (by omega)]; omega
      have hmask2 : bits .and .u64 ((q : Int) * 10) 4294967295 = ((q * 10 % 4294967296 : Nat) : Int) := by
        rw [show (q : Int) * 10 = ((q * 10 : Nat) : Int) by omega]; exact and_mask (q * 10) (by omega)
      have HMK := Lib_hid hmask2
      clear hst' hacc hmask hmask2
      have q0 := hst.out.q0
      have q1 := hst.out.q1
      go_wp2_with fail
      clear q0 q1
      refine (writeB _ _ (dig (q * 10 / 4294967296)) _ hdig.out _ hst.out.isB (by have h1 := hal.out; simp; omega)).mono ?_
      rintro e wz ⟨rfl, hB, hb⟩
      replace hst := Lib_hid (hst.out.write hB hb)
      clear hB hb
      have hmask2 := HMK.out
      clear HMK
      have q0 := hst.out.q0
      have q1 := hst.out.q1
      go_wp2
      go_roundw
      case rel => exact ⟨q * 10 % 4294967296, acc ++ [q * 10 / 4294967296], rfl, Nat.mod_lt _ (by decide), hacc2, (by have := hst.out; rw [List.append_assoc] at this; simpa [Hid] using this)⟩
      case measure =>
        have hmm := meas_dec q hmeas.out
        simp only [intOf]
        exact hmm
set_option maxHeartbeats 800000 in
set_option maxRecDepth 100000 in
theorem text_011 (v : Int) (f : Bool) (v1 : Int) (n p : Nat) (w : World) (hs : fixed_sound.f v f = some (v1, true)) (hof : fixed_of.f v1 = some (false, (n : Int), 0)) (hneg : ¬ v1 < 0) (hn : n < 18446744073709551616) (hp : n % 4294967296 = p) (hp0 : ¬ p = 0) :
    Calls Try.prog 67 #[.agg #[.int .i64 v, .bool f]] w fun e w' => e = .returned (.string ⟨(textN false n true).toArray⟩) ∧ Below w.heap.size w w' := by
  have HS : Hid (fixed_sound.f v f = some (v1, true)) := hs
  have HOF : Hid (fixed_of.f v1 = some (false, (n : Int), 0)) := hof
  have hidx := idx58_0
  have hfld := fld60_1
  have HP : Hid (n % 4294967296 = p) := hp
  have hp32 : p < 4294967296 := by omega
  have HD : Hid (∀ W, Calls Try.prog 104 #[.int .u64 ((n : Int) / 4294967296)] W fun e w' => ∃ g, e = .returned (.slice (some ⟨g, 0, none⟩) (decs (n / 4294967296)).length (decs (n / 4294967296)).length) ∧ W.heap.size ≤ g ∧ w'.heap[g]? = some (.cells (Lib.byteCells ((decs (n / 4294967296)).map dig)).toArray 5 (0, 0)) ∧ Below W.heap.size W w') := fun W => by
    have h := decimal_calls (n / 4294967296) (by omega) W
    rw [show ((n / 4294967296 : Nat) : Int) = (n : Int) / 4294967296 by omega, ch_bytes _ (decs_nine _)] at h
    exact h
  have hmask : bits .and .u64 (n : Int) 4294967295 = (p : Int) := by rw [and_mask n hn, hp]
  clear hs hof hp
  have hpB : ((p : Int) != 0) = true := by simp; omega
  generalize hT : textN false n true = T
  have HT : Hid (textN false n true = T) := hT
  clear hT
  go_enter Try.func67, Try.ntmps67
  go_wp2_with fail
  refine (fixed_sound.calls v f v1 true _ HS.out).mono ?_
  rintro e w1 ⟨rfl, hb⟩
  have hbox : w1.heap[w.heap.size]? = some (.cells #[.int .i64 v, .bool f] 23 (0, 0)) := blk_below (blk_new w _) hb
  have hB : Hid (Below w.heap.size w w1) := below_step (below_alloc (Below.refl _ _) _) hb
  have q0 : w1.cell? ⟨w.heap.size, 0, none⟩ = some (.int .i64 v) := (blk_cell hbox 0).trans rfl
  have q1 : w1.cell? ⟨w.heap.size, 1, none⟩ = some (.bool f) := (blk_cell hbox 1).trans rfl
  have z0 := blk_frozen hbox 0
  have z1 := blk_frozen hbox 1
  have hlt : w.heap.size < w1.heap.size := blk_lt hbox
  have hst : Hid (StT w w.heap.size w1.heap.size v1 true [] _) := stT_new w w1 v v1 f true hbox hB.out
  have hne1 : w.heap.size ≠ w1.heap.size := Nat.ne_of_lt hlt
  have hne2 : w1.heap.size ≠ w.heap.size := Nat.ne_of_gt hlt
  clear hbox hb hB
  go_wp2_with fail
  clear q0 q1 z0 z1
  refine (fixed_of.calls v1 false n 0 _ HOF.out).mono ?_
  rintro e w2 ⟨rfl, hb⟩
  replace hst := Lib_hid (hst.out.below hb)
  clear hb
  have q0 := hst.out.q0
  have q1 := hst.out.q1
  go_wp2_with fail
  clear q0 q1
  refine (HD.out _).mono ?_
  rintro e w3 ⟨g, rfl, hg, hgb, hb⟩
  have hgn : g ≠ w1.heap.size := by have := hst.out.isB.lt; omega
  have HGB := Lib_hid hgb
  replace hst := Lib_hid (hst.out.below hb)
  clear hb hgb hg
  have q0 := hst.out.q0
  have q1 := hst.out.q1
  go_wp2_with fail
  clear q0 q1
  have hlen := decs_len (n / 4294967296)
  refine (writeL _ _ _ g _ _ hst.out.isB (by simp) (by rw [List.length_map]) (by omega) HGB.out hgn).mono ?_
  clear HGB
  rintro e w4 ⟨rfl, hB, hb⟩
  replace hst := Lib_hid (hst.out.write hB hb)
  clear hB  hb
  have q0 := hst.out.q0
  have q1 := hst.out.q1
  go_wp2_with fail
  clear q0 q1
  refine (writeB _ _ 46 _ rfl _ hst.out.isB (by simp; omega)).mono ?_
  rintro e w5 ⟨rfl, hB, hb⟩
  replace hst := Lib_hid (hst.out.write hB hb)
  clear hB hb
  have q0 := hst.out.q0
  have q1 := hst.out.q1
  go_wp2_with fail
  clear q0 q1
  obtain ⟨L, hL⟩ : ∃ L : List UInt8, L = [] ++ (decs (n / 4294967296)).map dig ++ [46] := ⟨_, rfl⟩
  have HL := Lib_hid hL
  have hst2 : Hid (StT w w.heap.size w1.heap.size v1 true (L ++ ([] : List Nat).map dig) w5) := by rw [hL]; simpa [Hid] using hst.out
  have hLl : L.length ≤ 30 := by rw [hL]; simp; omega
  clear hst hL
  go_loopw [5] (fun r wr => ∃ (q : Nat) (acc : List Nat), r = .int .u64 q ∧ q < 4294967296 ∧ Hid (acc ++ fd 32 q = fd 32 p) ∧ Hid (StT w w.heap.size w1.heap.size v1 true (L ++ acc.map dig) wr)) (fun r _ => (fd 32 (intOf r).toNat).length)
  case atStart => exact ⟨p, [], rfl, hp32, (rfl : [] ++ fd 32 p = fd 32 p), hst2⟩
  case round =>
    clear hst2
    obtain ⟨q, acc, rfl, hq, hacc, hst⟩ := hrel
    have hal : Hid (acc.length ≤ 32) := by have h1 := fd_len 32 p; rw [← hacc.out, List.length_append] at h1; show _ ≤ _; omega
    by_cases hq0 : q = 0
    · subst hq0
      have hacc2 : Hid (acc = fd 32 p) := by have := hacc.out; simpa [fd, Hid] using this
      clear hacc
      have q0 := hst.out.q0
      have q1 := hst.out.q1
      go_wp2_with fail
      clear q0 q1
      refine (writeB _ _ 33 _ rfl _ hst.out.isB (by have h1 := hal.out; simp; omega)).mono ?_
      rintro e w6 ⟨rfl, hB, hb⟩
      replace hst := Lib_hid (hst.out.write hB hb)
      clear hB hb
      have q0 := hst.out.q0
      have q1 := hst.out.q1
      go_wp2_with fail
      clear q0 q1
      refine (strB _ _ _ hst.out.isB).mono ?_
      rintro e w7 ⟨rfl, hb⟩
      have hfin := Lib_hid (hst.out.last hb)
      clear hb hst
      go_wp2
      go_ret
      exact ⟨retT (by rw [← HT.out, hacc2.out, HL.out]; simp [textN, HP.out, hp0]), hfin.out⟩
    · have hqB : ((q : Int) != 0) = true := by simp; omega
      have hst' := fd_step q hq0 hq
      have hacc2 : Hid ((acc ++ [q * 10 / 4294967296]) ++ fd 32 (q * 10 % 4294967296) = fd 32 p) := by show _ = _; rw [← hacc.out, hst']; simp
      have hmeas : Hid ((fd 32 q).length = (fd 32 (q * 10 % 4294967296)).length + 1) := by show _ = _; rw [hst']; simp
      have hdig : Hid (48 + (q : Int) * 10 / 4294967296 = ((dig (q * 10 / 4294967296)).toNat : Int)) := by show _ = _; rw [dig_toNat _ (by omega)]; omega
      have hmask2 : bits .and .u64 ((q : Int) * 10) 4294967295 = ((q * 10 % 4294967296 : Nat) : Int) := by
        rw [show (q : Int) * 10 = ((q * 10 : Nat) : Int) by omega]; exact and_mask (q * 10) (by omega)
      have HMK := Lib_hid hmask2
      clear hst' hacc hmask hmask2
      have q0 := hst.out.q0
      have q1 := hst.out.q1
      go_wp2_with fail
      clear q0 q1
      refine (writeB _ _ (dig (q * 10 / 4294967296)) _ hdig.out _ hst.out.isB (by have h1 := hal.out; simp; omega)).mono ?_
      rintro e wz ⟨rfl, hB, hb⟩
      replace hst := Lib_hid (hst.out.write hB hb)
      clear hB hb
      have hmask2 := HMK.out
      clear HMK
      have q0 := hst.out.q0
      have q1 := hst.out.q1
      go_wp2
      go_roundw
      case rel => exact ⟨q * 10 % 4294967296, acc ++ [q * 10 / 4294967296], rfl, Nat.mod_lt _ (by decide), hacc2, (by have := hst.out; rw [List.append_assoc] at this; simpa [Hid] using this)⟩
      case measure =>
        have hmm := meas_dec q hmeas.out
        simp only [intOf]
        exact hmm
set_option maxHeartbeats 800000 in
set_option maxRecDepth 100000 in
theorem text_100 (v : Int) (f : Bool) (v1 : Int) (n p : Nat) (w : World) (hs : fixed_sound.f v f = some (v1, false)) (hof : fixed_of.f v1 = some (true, (n : Int), 0)) (hneg : v1 < 0) (hn : n < 18446744073709551616) (hp : n % 4294967296 = p) (hp0 : p = 0) :
    Calls Try.prog 67 #[.agg #[.int .i64 v, .bool f]] w fun e w' => e = .returned (.string ⟨(textN true n false).toArray⟩) ∧ Below w.heap.size w w' := by
  have HS : Hid (fixed_sound.f v f = some (v1, false)) := hs
  have HOF : Hid (fixed_of.f v1 = some (true, (n : Int), 0)) := hof
  have hidx := idx58_0
  have hfld := fld60_1
  have HP : Hid (n % 4294967296 = p) := hp
  have hp32 : p < 4294967296 := by omega
  have HD : Hid (∀ W, Calls Try.prog 104 #[.int .u64 ((n : Int) / 4294967296)] W fun e w' => ∃ g, e = .returned (.slice (some ⟨g, 0, none⟩) (decs (n / 4294967296)).length (decs (n / 4294967296)).length) ∧ W.heap.size ≤ g ∧ w'.heap[g]? = some (.cells (Lib.byteCells ((decs (n / 4294967296)).map dig)).toArray 5 (0, 0)) ∧ Below W.heap.size W w') := fun W => by
    have h := decimal_calls (n / 4294967296) (by omega) W
    rw [show ((n / 4294967296 : Nat) : Int) = (n : Int) / 4294967296 by omega, ch_bytes _ (decs_nine _)] at h
    exact h
  have hmask : bits .and .u64 (n : Int) 4294967295 = (p : Int) := by rw [and_mask n hn, hp]
  clear hs hof hp
  subst hp0
  generalize hT : textN true n false = T
  have HT : Hid (textN true n false = T) := hT
  clear hT
  go_enter Try.func67, Try.ntmps67
  go_wp2_with fail
  refine (fixed_sound.calls v f v1 false _ HS.out).mono ?_
  rintro e w1 ⟨rfl, hb⟩
  have hbox : w1.heap[w.heap.size]? = some (.cells #[.int .i64 v, .bool f] 23 (0, 0)) := blk_below (blk_new w _) hb
  have hB : Hid (Below w.heap.size w w1) := below_step (below_alloc (Below.refl _ _) _) hb
  have q0 : w1.cell? ⟨w.heap.size, 0, none⟩ = some (.int .i64 v) := (blk_cell hbox 0).trans rfl
  have q1 : w1.cell? ⟨w.heap.size, 1, none⟩ = some (.bool f) := (blk_cell hbox 1).trans rfl
  have z0 := blk_frozen hbox 0
  have z1 := blk_frozen hbox 1
  have hlt : w.heap.size < w1.heap.size := blk_lt hbox
  have hst : Hid (StT w w.heap.size w1.heap.size v1 false [] _) := stT_new w w1 v v1 f false hbox hB.out
  have hne1 : w.heap.size ≠ w1.heap.size := Nat.ne_of_lt hlt
  have hne2 : w1.heap.size ≠ w.heap.size := Nat.ne_of_gt hlt
  clear hbox hb hB
  go_wp2_with fail
  clear q0 q1 z0 z1
  refine (writeB _ _ 45 _ rfl _ hst.out.isB (by simp)).mono ?_
  rintro e w2 ⟨rfl, hB, hb⟩
  replace hst := Lib_hid (hst.out.write hB hb)
  clear hB  hb
  have q0 := hst.out.q0
  have q1 := hst.out.q1
  go_wp2_with fail
  clear q0 q1
  refine (fixed_of.calls v1 true n 0 _ HOF.out).mono ?_
  rintro e w3 ⟨rfl, hb⟩
  replace hst := Lib_hid (hst.out.below hb)
  clear hb
  have q0 := hst.out.q0
  have q1 := hst.out.q1
  go_wp2_with fail
  clear q0 q1
  refine (HD.out _).mono ?_
  rintro e w4 ⟨g, rfl, hg, hgb, hb⟩
  have hgn : g ≠ w1.heap.size := by have := hst.out.isB.lt; omega
  have HGB := Lib_hid hgb
  replace hst := Lib_hid (hst.out.below hb)
  clear hb hgb hg
  have q0 := hst.out.q0
  have q1 := hst.out.q1
  go_wp2_with fail
  clear q0 q1
  have hlen := decs_len (n / 4294967296)
  refine (writeL _ _ _ g _ _ hst.out.isB (by simp) (by rw [List.length_map]) (by omega) HGB.out hgn).mono ?_
  clear HGB
  rintro e w5 ⟨rfl, hB, hb⟩
  replace hst := Lib_hid (hst.out.write hB hb)
  clear hB  hb
  have q0 := hst.out.q0
  have q1 := hst.out.q1
  go_wp2_with fail
  clear q0 q1
  refine (strB _ _ _ hst.out.isB).mono ?_
  rintro e w6 ⟨rfl, hb⟩
  have hfin := Lib_hid (hst.out.last hb)
  clear hb hst
  go_wp2
  go_ret
  exact ⟨retT (by rw [← HT.out]; simp [textN, HP.out]), hfin.out⟩
set_option maxHeartbeats 800000 in
set_option maxRecDepth 100000 in
theorem text_101 (v : Int) (f : Bool) (v1 : Int) (n p : Nat) (w : World) (hs : fixed_sound.f v f = some (v1, true)) (hof : fixed_of.f v1 = some (true, (n : Int), 0)) (hneg : v1 < 0) (hn : n < 18446744073709551616) (hp : n % 4294967296 = p) (hp0 : p = 0) :
    Calls Try.prog 67 #[.agg #[.int .i64 v, .bool f]] w fun e w' => e = .returned (.string ⟨(textN true n true).toArray⟩) ∧ Below w.heap.size w w' := by
  have HS : Hid (fixed_sound.f v f = some (v1, true)) := hs
  have HOF : Hid (fixed_of.f v1 = some (true, (n : Int), 0)) := hof
  have hidx := idx58_0
  have hfld := fld60_1
  have HP : Hid (n % 4294967296 = p) := hp
  have hp32 : p < 4294967296 := by omega
  have HD : Hid (∀ W, Calls Try.prog 104 #[.int .u64 ((n : Int) / 4294967296)] W fun e w' => ∃ g, e = .returned (.slice (some ⟨g, 0, none⟩) (decs (n / 4294967296)).length (decs (n / 4294967296)).length) ∧ W.heap.size ≤ g ∧ w'.heap[g]? = some (.cells (Lib.byteCells ((decs (n / 4294967296)).map dig)).toArray 5 (0, 0)) ∧ Below W.heap.size W w') := fun W => by
    have h := decimal_calls (n / 4294967296) (by omega) W
    rw [show ((n / 4294967296 : Nat) : Int) = (n : Int) / 4294967296 by omega, ch_bytes _ (decs_nine _)] at h
    exact h
  have hmask : bits .and .u64 (n : Int) 4294967295 = (p : Int) := by rw [and_mask n hn, hp]
  clear hs hof hp
  subst hp0
  generalize hT : textN true n true = T
  have HT : Hid (textN true n true = T) := hT
  clear hT
  go_enter Try.func67, Try.ntmps67
  go_wp2_with fail
  refine (fixed_sound.calls v f v1 true _ HS.out).mono ?_
  rintro e w1 ⟨rfl, hb⟩
  have hbox : w1.heap[w.heap.size]? = some (.cells #[.int .i64 v, .bool f] 23 (0, 0)) := blk_below (blk_new w _) hb
  have hB : Hid (Below w.heap.size w w1) := below_step (below_alloc (Below.refl _ _) _) hb
  have q0 : w1.cell? ⟨w.heap.size, 0, none⟩ = some (.int .i64 v) := (blk_cell hbox 0).trans rfl
  have q1 : w1.cell? ⟨w.heap.size, 1, none⟩ = some (.bool f) := (blk_cell hbox 1).trans rfl
  have z0 := blk_frozen hbox 0
  have z1 := blk_frozen hbox 1
  have hlt : w.heap.size < w1.heap.size := blk_lt hbox
  have hst : Hid (StT w w.heap.size w1.heap.size v1 true [] _) := stT_new w w1 v v1 f true hbox hB.out
  have hne1 : w.heap.size ≠ w1.heap.size := Nat.ne_of_lt hlt
  have hne2 : w1.heap.size ≠ w.heap.size := Nat.ne_of_gt hlt
  clear hbox hb hB
  go_wp2_with fail
  clear q0 q1 z0 z1
  refine (writeB _ _ 45 _ rfl _ hst.out.isB (by simp)).mono ?_
  rintro e w2 ⟨rfl, hB, hb⟩
  replace hst := Lib_hid (hst.out.write hB hb)
  clear hB  hb
  have q0 := hst.out.q0
  have q1 := hst.out.q1
  go_wp2_with fail
  clear q0 q1
  refine (fixed_of.calls v1 true n 0 _ HOF.out).mono ?_
  rintro e w3 ⟨rfl, hb⟩
  replace hst := Lib_hid (hst.out.below hb)
  clear hb
  have q0 := hst.out.q0
  have q1 := hst.out.q1
  go_wp2_with fail
  clear q0 q1
  refine (HD.out _).mono ?_
  rintro e w4 ⟨g, rfl, hg, hgb, hb⟩
  have hgn : g ≠ w1.heap.size := by have := hst.out.isB.lt; omega
  have HGB := Lib_hid hgb
  replace hst := Lib_hid (hst.out.below hb)
  clear hb hgb hg
  have q0 := hst.out.q0
  have q1 := hst.out.q1
  go_wp2_with fail
  clear q0 q1
  have hlen := decs_len (n / 4294967296)
  refine (writeL _ _ _ g _ _ hst.out.isB (by simp) (by rw [List.length_map]) (by omega) HGB.out hgn).mono ?_
  clear HGB
  rintro e w5 ⟨rfl, hB, hb⟩
  replace hst := Lib_hid (hst.out.write hB hb)
  clear hB  hb
  have q0 := hst.out.q0
  have q1 := hst.out.q1
  go_wp2_with fail
  clear q0 q1
  refine (writeB _ _ 33 _ rfl _ hst.out.isB (by simp; omega)).mono ?_
  rintro e w6 ⟨rfl, hB, hb⟩
  replace hst := Lib_hid (hst.out.write hB hb)
  clear hB hb
  have q0 := hst.out.q0
  have q1 := hst.out.q1
  go_wp2_with fail
  clear q0 q1
  refine (strB _ _ _ hst.out.isB).mono ?_
  rintro e w7 ⟨rfl, hb⟩
  have hfin := Lib_hid (hst.out.last hb)
  clear hb hst
  go_wp2
  go_ret
  exact ⟨retT (by rw [← HT.out]; simp [textN, HP.out]), hfin.out⟩
set_option maxHeartbeats 800000 in
set_option maxRecDepth 100000 in
theorem text_110 (v : Int) (f : Bool) (v1 : Int) (n p : Nat) (w : World) (hs : fixed_sound.f v f = some (v1, false)) (hof : fixed_of.f v1 = some (true, (n : Int), 0)) (hneg : v1 < 0) (hn : n < 18446744073709551616) (hp : n % 4294967296 = p) (hp0 : ¬ p = 0) :
    Calls Try.prog 67 #[.agg #[.int .i64 v, .bool f]] w fun e w' => e = .returned (.string ⟨(textN true n false).toArray⟩) ∧ Below w.heap.size w w' := by
  have HS : Hid (fixed_sound.f v f = some (v1, false)) := hs
  have HOF : Hid (fixed_of.f v1 = some (true, (n : Int), 0)) := hof
  have hidx := idx58_0
  have hfld := fld60_1
  have HP : Hid (n % 4294967296 = p) := hp
  have hp32 : p < 4294967296 := by omega
  have HD : Hid (∀ W, Calls Try.prog 104 #[.int .u64 ((n : Int) / 4294967296)] W fun e w' => ∃ g, e = .returned (.slice (some ⟨g, 0, none⟩) (decs (n / 4294967296)).length (decs (n / 4294967296)).length) ∧ W.heap.size ≤ g ∧ w'.heap[g]? = some (.cells (Lib.byteCells ((decs (n / 4294967296)).map dig)).toArray 5 (0, 0)) ∧ Below W.heap.size W w') := fun W => by
    have h := decimal_calls (n / 4294967296) (by omega) W
    rw [show ((n / 4294967296 : Nat) : Int) = (n : Int) / 4294967296 by omega, ch_bytes _ (decs_nine _)] at h
    exact h
  have hmask : bits .and .u64 (n : Int) 4294967295 = (p : Int) := by rw [and_mask n hn, hp]
  clear hs hof hp
  have hpB : ((p : Int) != 0) = true := by simp; omega
  generalize hT : textN true n false = T
  have HT : Hid (textN true n false = T) := hT
  clear hT
  go_enter Try.func67, Try.ntmps67
  go_wp2_with fail
  refine (fixed_sound.calls v f v1 false _ HS.out).mono ?_
  rintro e w1 ⟨rfl, hb⟩
  have hbox : w1.heap[w.heap.size]? = some (.cells #[.int .i64 v, .bool f] 23 (0, 0)) := blk_below (blk_new w _) hb
  have hB : Hid (Below w.heap.size w w1) := below_step (below_alloc (Below.refl _ _) _) hb
  have q0 : w1.cell? ⟨w.heap.size, 0, none⟩ = some (.int .i64 v) := (blk_cell hbox 0).trans rfl
  have q1 : w1.cell? ⟨w.heap.size, 1, none⟩ = some (.bool f) := (blk_cell hbox 1).trans rfl
  have z0 := blk_frozen hbox 0
  have z1 := blk_frozen hbox 1
  have hlt : w.heap.size < w1.heap.size := blk_lt hbox
  have hst : Hid (StT w w.heap.size w1.heap.size v1 false [] _) := stT_new w w1 v v1 f false hbox hB.out
  have hne1 : w.heap.size ≠ w1.heap.size := Nat.ne_of_lt hlt
  have hne2 : w1.heap.size ≠ w.heap.size := Nat.ne_of_gt hlt
  clear hbox hb hB
  go_wp2_with fail
  clear q0 q1 z0 z1
  refine (writeB _ _ 45 _ rfl _ hst.out.isB (by simp)).mono ?_
  rintro e w2 ⟨rfl, hB, hb⟩
  replace hst := Lib_hid (hst.out.write hB hb)
  clear hB  hb
  have q0 := hst.out.q0
  have q1 := hst.out.q1
  go_wp2_with fail
  clear q0 q1
  refine (fixed_of.calls v1 true n 0 _ HOF.out).mono ?_
  rintro e w3 ⟨rfl, hb⟩
  replace hst := Lib_hid (hst.out.below hb)
  clear hb
  have q0 := hst.out.q0
  have q1 := hst.out.q1
  go_wp2_with fail
  clear q0 q1
  refine (HD.out _).mono ?_
  rintro e w4 ⟨g, rfl, hg, hgb, hb⟩
  have hgn : g ≠ w1.heap.size := by have := hst.out.isB.lt; omega
  have HGB := Lib_hid hgb
  replace hst := Lib_hid (hst.out.below hb)
  clear hb hgb hg
  have q0 := hst.out.q0
  have q1 := hst.out.q1
  go_wp2_with fail
  clear q0 q1
  have hlen := decs_len (n / 4294967296)
  refine (writeL _ _ _ g _ _ hst.out.isB (by simp) (by rw [List.length_map]) (by omega) HGB.out hgn).mono ?_
  clear HGB
  rintro e w5 ⟨rfl, hB, hb⟩
  replace hst := Lib_hid (hst.out.write hB hb)
  clear hB  hb
  have q0 := hst.out.q0
  have q1 := hst.out.q1
  go_wp2_with fail
  clear q0 q1
  refine (writeB _ _ 46 _ rfl _ hst.out.isB (by simp; omega)).mono ?_
  rintro e w6 ⟨rfl, hB, hb⟩
  replace hst := Lib_hid (hst.out.write hB hb)
  clear hB hb
  have q0 := hst.out.q0
  have q1 := hst.out.q1
  go_wp2_with fail
  clear q0 q1
  obtain ⟨L, hL⟩ : ∃ L : List UInt8, L = ([] ++ [45]) ++ (decs (n / 4294967296)).map dig ++ [46] := ⟨_, rfl⟩
  have HL := Lib_hid hL
  have hst2 : Hid (StT w w.heap.size w1.heap.size v1 false (L ++ ([] : List Nat).map dig) w6) := by rw [hL]; simpa [Hid] using hst.out
  have hLl : L.length ≤ 30 := by rw [hL]; simp; omega
  clear hst hL
  go_loopw [5] (fun r wr => ∃ (q : Nat) (acc : List Nat), r = .int .u64 q ∧ q < 4294967296 ∧ Hid (acc ++ fd 32 q = fd 32 p) ∧ Hid (StT w w.heap.size w1.heap.size v1 false (L ++ acc.map dig) wr)) (fun r _ => (fd 32 (intOf r).toNat).length)
  case atStart => exact ⟨p, [], rfl, hp32, (rfl : [] ++ fd 32 p = fd 32 p), hst2⟩
  case round =>
    clear hst2
    obtain ⟨q, acc, rfl, hq, hacc, hst⟩ := hrel
    have hal : Hid (acc.length ≤ 32) := by have h1 := fd_len 32 p; rw [← hacc.out, List.length_append] at h1; show _ ≤ _; omega
    by_cases hq0 : q = 0
    · subst hq0
      have hacc2 : Hid (acc = fd 32 p) := by have := hacc.out; simpa [fd, Hid] using this
      clear hacc
      have q0 := hst.out.q0
      have q1 := hst.out.q1
      go_wp2_with fail
      clear q0 q1
      refine (strB _ _ _ hst.out.isB).mono ?_
      rintro e w7 ⟨rfl, hb⟩
      have hfin := Lib_hid (hst.out.last hb)
      clear hb hst
      go_wp2
      go_ret
      exact ⟨retT (by rw [← HT.out, hacc2.out, HL.out]; simp [textN, HP.out, hp0]), hfin.out⟩
    · have hqB : ((q : Int) != 0) = true := by simp; omega
      have hst' := fd_step q hq0 hq
      have hacc2 : Hid ((acc ++ [q * 10 / 4294967296]) ++ fd 32 (q * 10 % 4294967296) = fd 32 p) := by show _ = _; rw [← hacc.out, hst']; simp
      have hmeas : Hid ((fd 32 q).length = (fd 32 (q * 10 % 4294967296)).length + 1) := by show _ = _; rw [hst']; simp
      have hdig : Hid (48 + (q : Int) * 10 / 4294967296 = ((dig (q * 10 / 4294967296)).toNat : Int)) := by show _ = _; rw [dig_toNat _ (by omega)]; omega
      have hmask2 : bits .and .u64 ((q : Int) * 10) 4294967295 = ((q * 10 % 4294967296 : Nat) : Int) := by
        rw [show (q : Int) * 10 = ((q * 10 : Nat) : Int) by omega]; exact and_mask (q * 10) (by omega)
      have HMK := Lib_hid hmask2
      clear hst' hacc hmask hmask2
      have q0 := hst.out.q0
      have q1 := hst.out.q1
      go_wp2_with fail
      clear q0 q1
      refine (writeB _ _ (dig (q * 10 / 4294967296)) _ hdig.out _ hst.out.isB (by have h1 := hal.out; simp; omega)).mono ?_
      rintro e wz ⟨rfl, hB, hb⟩
      replace hst := Lib_hid (hst.out.write hB hb)
      clear hB hb
      have hmask2 := HMK.out
      clear HMK
      have q0 := hst.out.q0
      have q1 := hst.out.q1
      go_wp2
      go_roundw
      case rel => exact ⟨q * 10 % 4294967296, acc ++ [q * 10 / 4294967296], rfl, Nat.mod_lt _ (by decide), hacc2, (by have := hst.out; rw [List.append_assoc] at this; simpa [Hid] using this)⟩
      case measure =>
        have hmm := meas_dec q hmeas.out
        simp only [intOf]
        exact hmm
set_option maxHeartbeats 800000 in
set_option maxRecDepth 100000 in
theorem text_111 (v : Int) (f : Bool) (v1 : Int) (n p : Nat) (w : World) (hs : fixed_sound.f v f = some (v1, true)) (hof : fixed_of.f v1 = some (true, (n : Int), 0)) (hneg : v1 < 0) (hn : n < 18446744073709551616) (hp : n % 4294967296 = p) (hp0 : ¬ p = 0) :
    Calls Try.prog 67 #[.agg #[.int .i64 v, .bool f]] w fun e w' => e = .returned (.string ⟨(textN true n true).toArray⟩) ∧ Below w.heap.size w w' := by
  have HS : Hid (fixed_sound.f v f = some (v1, true)) := hs
  have HOF : Hid (fixed_of.f v1 = some (true, (n : Int), 0)) := hof
  have hidx := idx58_0
  have hfld := fld60_1
  have HP : Hid (n % 4294967296 = p) := hp
  have hp32 : p < 4294967296 := by omega
  have HD : Hid (∀ W, Calls Try.prog 104 #[.int .u64 ((n : Int) / 4294967296)] W fun e w' => ∃ g, e = .returned (.slice (some ⟨g, 0, none⟩) (decs (n / 4294967296)).length (decs (n / 4294967296)).length) ∧ W.heap.size ≤ g ∧ w'.heap[g]? = some (.cells (Lib.byteCells ((decs (n / 4294967296)).map dig)).toArray 5 (0, 0)) ∧ Below W.heap.size W w') := fun W => by
    have h := decimal_calls (n / 4294967296) (by omega) W
    rw [show ((n / 4294967296 : Nat) : Int) = (n : Int) / 4294967296 by omega, ch_bytes _ (decs_nine _)] at h
    exact h
  have hmask : bits .and .u64 (n : Int) 4294967295 = (p : Int) := by rw [and_mask n hn, hp]
  clear hs hof hp
  have hpB : ((p : Int) != 0) = true := by simp; omega
  generalize hT : textN true n true = T
  have HT : Hid (textN true n true = T) := hT
  clear hT
  go_enter Try.func67, Try.ntmps67
  go_wp2_with fail
  refine (fixed_sound.calls v f v1 true _ HS.out).mono ?_
  rintro e w1 ⟨rfl, hb⟩
  have hbox : w1.heap[w.heap.size]? = some (.cells #[.int .i64 v, .bool f] 23 (0, 0)) := blk_below (blk_new w _) hb
  have hB : Hid (Below w.heap.size w w1) := below_step (below_alloc (Below.refl _ _) _) hb
  have q0 : w1.cell? ⟨w.heap.size, 0, none⟩ = some (.int .i64 v) := (blk_cell hbox 0).trans rfl
  have q1 : w1.cell? ⟨w.heap.size, 1, none⟩ = some (.bool f) := (blk_cell hbox 1).trans rfl
  have z0 := blk_frozen hbox 0
  have z1 := blk_frozen hbox 1
  have hlt : w.heap.size < w1.heap.size := blk_lt hbox
  have hst : Hid (StT w w.heap.size w1.heap.size v1 true [] _) := stT_new w w1 v v1 f true hbox hB.out
  have hne1 : w.heap.size ≠ w1.heap.size := Nat.ne_of_lt hlt
  have hne2 : w1.heap.size ≠ w.heap.size := Nat.ne_of_gt hlt
  clear hbox hb hB
  go_wp2_with fail
  clear q0 q1 z0 z1
  refine (writeB _ _ 45 _ rfl _ hst.out.isB (by simp)).mono ?_
  rintro e w2 ⟨rfl, hB, hb⟩
  replace hst := Lib_hid (hst.out.write hB hb)
  clear hB  hb
  have q0 := hst.out.q0
  have q1 := hst.out.q1
  go_wp2_with fail
  clear q0 q1
  refine (fixed_of.calls v1 true n 0 _ HOF.out).mono ?_
  rintro e w3 ⟨rfl, hb⟩
  replace hst := Lib_hid (hst.out.below hb)
  clear hb
  have q0 := hst.out.q0
  have q1 := hst.out.q1
  go_wp2_with fail
  clear q0 q1
  refine (HD.out _).mono ?_
  rintro e w4 ⟨g, rfl, hg, hgb, hb⟩
  have hgn : g ≠ w1.heap.size := by have := hst.out.isB.lt; omega
  have HGB := Lib_hid hgb
  replace hst := Lib_hid (hst.out.below hb)
  clear hb hgb hg
  have q0 := hst.out.q0
  have q1 := hst.out.q1
  go_wp2_with fail
  clear q0 q1
  have hlen := decs_len (n / 4294967296)
  refine (writeL _ _ _ g _ _ hst.out.isB (by simp) (by rw [List.length_map]) (by omega) HGB.out hgn).mono ?_
  clear HGB
  rintro e w5 ⟨rfl, hB, hb⟩
  replace hst := Lib_hid (hst.out.write hB hb)
  clear hB  hb
  have q0 := hst.out.q0
  have q1 := hst.out.q1
  go_wp2_with fail
  clear q0 q1
  refine (writeB _ _ 46 _ rfl _ hst.out.isB (by simp; omega)).mono ?_
  rintro e w6 ⟨rfl, hB, hb⟩
  replace hst := Lib_hid (hst.out.write hB hb)
  clear hB hb
  have q0 := hst.out.q0
  have q1 := hst.out.q1
  go_wp2_with fail
  clear q0 q1
  obtain ⟨L, hL⟩ : ∃ L : List UInt8, L = ([] ++ [45]) ++ (decs (n / 4294967296)).map dig ++ [46] := ⟨_, rfl⟩
  have HL := Lib_hid hL
  have hst2 : Hid (StT w w.heap.size w1.heap.size v1 true (L ++ ([] : List Nat).map dig) w6) := by rw [hL]; simpa [Hid] using hst.out
  have hLl : L.length ≤ 30 := by rw [hL]; simp; omega
  clear hst hL
  go_loopw [5] (fun r wr => ∃ (q : Nat) (acc : List Nat), r = .int .u64 q ∧ q < 4294967296 ∧ Hid (acc ++ fd 32 q = fd 32 p) ∧ Hid (StT w w.heap.size w1.heap.size v1 true (L ++ acc.map dig) wr)) (fun r _ => (fd 32 (intOf r).toNat).length)
  case atStart => exact ⟨p, [], rfl, hp32, (rfl : [] ++ fd 32 p = fd 32 p), hst2⟩
  case round =>
    clear hst2
    obtain ⟨q, acc, rfl, hq, hacc, hst⟩ := hrel
    have hal : Hid (acc.length ≤ 32) := by have h1 := fd_len 32 p; rw [← hacc.out, List.length_append] at h1; show _ ≤ _; omega
    by_cases hq0 : q = 0
    · subst hq0
      have hacc2 : Hid (acc = fd 32 p) := by have := hacc.out; simpa [fd, Hid] using this
      clear hacc
      have q0 := hst.out.q0
      have q1 := hst.out.q1
      go_wp2_with fail
      clear q0 q1
      refine (writeB _ _ 33 _ rfl _ hst.out.isB (by have h1 := hal.out; simp; omega)).mono ?_
      rintro e w7 ⟨rfl, hB, hb⟩
      replace hst := Lib_hid (hst.out.write hB hb)
      clear hB hb
      have q0 := hst.out.q0
      have q1 := hst.out.q1
      go_wp2_with fail
      clear q0 q1
      refine (strB _ _ _ hst.out.isB).mono ?_
      rintro e w8 ⟨rfl, hb⟩
      have hfin := Lib_hid (hst.out.last hb)
      clear hb hst
      go_wp2
      go_ret
      exact ⟨retT (by rw [← HT.out, hacc2.out, HL.out]; simp [textN, HP.out, hp0]), hfin.out⟩
    · have hqB : ((q : Int) != 0) = true := by simp; omega
      have hst' := fd_step q hq0 hq
      have hacc2 : Hid ((acc ++ [q * 10 / 4294967296]) ++ fd 32 (q * 10 % 4294967296) = fd 32 p) := by show _ = _; rw [← hacc.out, hst']; simp
      have hmeas : Hid ((fd 32 q).length = (fd 32 (q * 10 % 4294967296)).length + 1) := by show _ = _; rw [hst']; simp
      have hdig : Hid (48 + (q : Int) * 10 / 4294967296 = ((dig (q * 10 / 4294967296)).toNat : Int)) := by show _ = _; rw [dig_toNat _ (by omega)]; omega
      have hmask2 : bits .and .u64 ((q : Int) * 10) 4294967295 = ((q * 10 % 4294967296 : Nat) : Int) := by
        rw [show (q : Int) * 10 = ((q * 10 : Nat) : Int) by omega]; exact and_mask (q * 10) (by omega)
      have HMK := Lib_hid hmask2
      clear hst' hacc hmask hmask2
      have q0 := hst.out.q0
      have q1 := hst.out.q1
      go_wp2_with fail
      clear q0 q1
      refine (writeB _ _ (dig (q * 10 / 4294967296)) _ hdig.out _ hst.out.isB (by have h1 := hal.out; simp; omega)).mono ?_
      rintro e wz ⟨rfl, hB, hb⟩
      replace hst := Lib_hid (hst.out.write hB hb)
      clear hB hb
      have hmask2 := HMK.out
      clear HMK
      have q0 := hst.out.q0
      have q1 := hst.out.q1
      go_wp2
      go_roundw
      case rel => exact ⟨q * 10 % 4294967296, acc ++ [q * 10 / 4294967296], rfl, Nat.mod_lt _ (by decide), hacc2, (by have := hst.out; rw [List.append_assoc] at this; simpa [Hid] using this)⟩
      case measure =>
        have hmm := meas_dec q hmeas.out
        simp only [intOf]
        exact hmm
def textB (v : Int) (f : Bool) : List UInt8 := textN (decide (sv v < 0)) (sv v).natAbs (sf v f)
def fixed_Text.f (a0_0 : Int) (a0_1 : Bool) : Option ByteArray := if -9223372036854775808 ≤ a0_0 then (if a0_0 ≤ 9223372036854775807 then some ⟨(textB a0_0 a0_1).toArray⟩ else none) else none
theorem of_neg (v : Int) (h1 : v < 0) (h2 : -9223372036854775807 ≤ v) : fixed_of.f v = some (true, (v.natAbs : Int), 0) := by
  unfold fixed_of.f
  rw [if_pos h1]
  congr 2
  simp only [Prod.mk.injEq, and_true]
  rw [IntKind.wrap_u64, IntKind.wrap_u64]
  omega
theorem of_pos (v : Int) (h1 : ¬ v < 0) (h2 : v ≤ 9223372036854775807) : fixed_of.f v = some (false, (v.natAbs : Int), 0) := by
  unfold fixed_of.f
  rw [if_neg h1]
  congr 2
  simp only [Prod.mk.injEq, and_true]
  rw [IntKind.wrap_u64]
  omega
theorem fixed_Text.calls (a0_0 : Int) (a0_1 : Bool) (r : ByteArray) (w : World) (h : fixed_Text.f a0_0 a0_1 = some r) :
    Calls Try.prog 67 #[.agg #[.int .i64 a0_0, .bool a0_1]] w fun e w' => e = .returned (.string r) ∧ Below w.heap.size w w' := by
  unfold fixed_Text.f at h
  by_cases h1 : -9223372036854775808 ≤ a0_0
  · rw [if_pos h1] at h
    by_cases h2 : a0_0 ≤ 9223372036854775807
    · rw [if_pos h2] at h
      obtain rfl := Option.some.inj h
      have hs := sound_f a0_0 a0_1
      have hv1 : -9223372036854775807 ≤ sv a0_0 := by unfold sv; split <;> omega
      have hv2 : sv a0_0 ≤ 9223372036854775807 := by unfold sv; split <;> omega
      unfold textB
      generalize sv a0_0 = v1 at *
      generalize sf a0_0 a0_1 = f1 at *
      have hn : v1.natAbs < 18446744073709551616 := by omega
      by_cases hneg : v1 < 0
      · rw [decide_eq_true hneg]
        by_cases hp : v1.natAbs % 4294967296 = 0
        · cases f1
          · exact text_100 a0_0 a0_1 v1 _ 0 w hs (of_neg v1 hneg hv1) hneg hn hp rfl
          · exact text_101 a0_0 a0_1 v1 _ 0 w hs (of_neg v1 hneg hv1) hneg hn hp rfl
        · cases f1
          · exact text_110 a0_0 a0_1 v1 _ _ w hs (of_neg v1 hneg hv1) hneg hn rfl hp
          · exact text_111 a0_0 a0_1 v1 _ _ w hs (of_neg v1 hneg hv1) hneg hn rfl hp
      · rw [decide_eq_false hneg]
        by_cases hp : v1.natAbs % 4294967296 = 0
        · cases f1
          · exact text_000 a0_0 a0_1 v1 _ 0 w hs (of_pos v1 hneg hv2) hneg hn hp rfl
          · exact text_001 a0_0 a0_1 v1 _ 0 w hs (of_pos v1 hneg hv2) hneg hn hp rfl
        · cases f1
          · exact text_010 a0_0 a0_1 v1 _ _ w hs (of_pos v1 hneg hv2) hneg hn rfl hp
          · exact text_011 a0_0 a0_1 v1 _ _ w hs (of_pos v1 hneg hv2) hneg hn rfl hp
    · rw [if_neg h2] at h
      cases h
  · rw [if_neg h1] at h
    cases h
end Go.Proofs.Ytenpiaafkmfjfaa.B

end
section
namespace Go.Proofs.Ytenpiaafkmfjfaa.B
open Go.RowKit Go.Proofs.YtenpiaafkmfjfaaW.PrintWords Go.Proofs.YtenpiaafkmfjfaaW.PrintLast Go.Proofs.YtenpiaafkmfjfaaW.PrintMore
attribute [local go_sem] max2_int min2_int max_two min_two max_three min_three max_four min_four
set_option linter.unusedVariables false
set_option linter.unusedSimpArgs false
attribute [local go_sem high] eqA23
def fixed_Sum.l0 : Nat → Bool → List Int → Int → Int → Bool → Int → Int → Option (Int × Bool)
  | 0, _, _, _, _, _, _, _ => none
  | k + 1, x4, x13, x14, x15, x213000, x213001, x213002 => if x15 < x14 then (if 0 ≤ x15 then (if x15 < (x13.length : Int) then ((fixed_of.f (rd x13 x15)).bind fun bt214 => ((fixed_exact_plus.f k x213000 x213001 x213002 bt214.1 bt214.2.1 bt214.2.2).bind fun bt217 => (fixed_Sum.l0 k x4 x13 x14 (wrap64 (x15 + 1)) bt217.1 bt217.2.1 bt217.2.2))) else (none)) else (none)) else ((fixed_exact_fit.f k x213000 x213001 x213002 x4).bind fun bt220 => (some (bt220.1, bt220.2)))
def fixed_Sum.f (k : Nat) (l0 : List (S23)) : Option (Int × Bool) := (fixed_values.f l0).bind fun bt208 => (fixed_Sum.l0 k bt208.2 bt208.1 (bt208.1.length : Int) 0 false 0 0)
set_option maxHeartbeats 8000000 in
set_option maxRecDepth 100000 in
theorem fixed_Sum.calls (k : Nat) (A0 : Option Addr) (c0 : Nat) (l0 : List (S23)) (r1 : Int) (r2 : Bool) (w : World) (hr0 : Kd.C k23 w A0 l0.length l0) (hc0 : l0.length ≤ c0) (h : fixed_Sum.f k l0 = some (r1, r2)) :
    Calls Try.prog 32 #[.slice A0 l0.length c0] w fun e w' => e = .returned (.agg #[.int .i64 r1, .bool r2]) ∧ Below w.heap.size w w' := by
  have hu23 := Try.underlying23
  have hu60 := Try.underlying60
  have HR0 := Aside0.mk hr0
  have HC0 := Aside0.mk hc0
  clear hr0 hc0
  have HB := Aside0.mk (Below.refl w.heap.size w)
  have H : ((fixed_values.f l0).bind fun bt208 => (fixed_Sum.l0 k bt208.2 bt208.1 (bt208.1.length : Int) 0 false 0 0)) = some (r1, r2) := h
  clear h
  replace H := Option.bind_eq_some_iff.mp H
  obtain ⟨⟨t208, t209⟩, A20, H⟩ := H
  replace H : (fixed_Sum.l0 k t209 t208 (t208.length : Int) 0 false 0 0) = some (r1, r2) := H
  have A2 := Aside0.mk A20
  clear A20
  have H' := Aside0.mk H
  clear H
  go_enter Try.func32, Try.ntmps32
  go_wp2_with (first | ((with_reducible refine gate_dst (N := 2) rfl ?_); refine box_event ?hg (N := 2) ?hd (cs := #[.int .i64 0, .bool false]) (t := 23) ?hr ?_; (case hd => rfl); (case hg => rfl); (case hr => first | (go_simp; done) | (go_simp; rfl)); intro gb207 hg w3 hbox hb; have n0_ := Aside0.mk (below_step (by repeat (first | (with_reducible first | exact HB.out | apply below_alloc | apply pw_below_drewN | apply below_drew1) | exact HB.out)) hb); have n1_ := Aside0.mk (hbox); have n2_ := Aside0.mk ((by rw [hg]; exact (below_size (by repeat (first | (with_reducible first | exact HB.out | apply below_alloc | apply pw_below_drewN | apply below_drew1) | exact HB.out))) : w.heap.size ≤ gb207)); have n3_ := Aside0.mk ((by rw [hg]; exact (below_size (by repeat (first | (with_reducible first | exact HB.out | apply below_alloc | apply pw_below_drewN | apply below_drew1) | exact HB.out))) : w.heap.size ≤ gb207)); clear HB; have HB := n0_; have BK207 := n1_; have GW207 := n2_; have GE207 := n3_; clear n0_ n1_ n2_ n3_; clear hb hbox hg) | ((with_reducible refine gate_callee (f := 81) rfl ?_); refine goesL_ (some 10) rfl rfl Try.func81 (by kernel_rfl) rfl #[.slice A0 l0.length c0] rfl (by (try simp only [List.map_toArray, List.map_cons, List.map_nil]); first | done | rfl | (simp only [List.length_drop, List.length_take]; rfl)) ?_; (with_reducible refine (fixed_values.calls _ _ l0 t208 t209 _ ?side1 ?side2 A2.out).mono ?_); (case side1 => repeat (first | exact (Kd.C_below HR0.out HB.out) | (with_reducible refine Kd.C_alloc ?_ _) | (with_reducible refine Kd.C_drewN ?_ _) | (with_reducible refine Kd.C_drew ?_))); (case side2 => exact HC0.out); rintro e w4 ⟨v210, rfl, ho0, hb⟩; refine ⟨_, rfl, ?_⟩; have n0_ := Aside0.mk (Kd.R_lower ho0 (below_size (by repeat (first | (with_reducible first | exact HB.out | apply below_alloc | apply pw_below_drewN | apply below_drew1 | refine below_set ?_ GE207.out) | exact HB.out)))); have n1_ := Aside0.mk (blk_below (g := gb207) (o := .cells #[.int .i64 0, .bool false] 23 (0, 0)) (by (with_reducible repeat (first | refine blk_drewN ?_ _ | refine blk_drew ?_ | refine blk_alloc ?_ _)); exact BK207.out) hb); have n2_ := Aside0.mk (below_step (by repeat (first | (with_reducible first | exact HB.out | apply below_alloc | apply pw_below_drewN | apply below_drew1 | refine below_set ?_ GE207.out) | exact HB.out)) hb); clear BK207; clear HB; have HO211 := n0_; have BK207 := n1_; have HB := n2_; clear n0_ n1_ n2_; (try clear hb); (try clear hb2); (try clear hk); (try clear hi); (try clear ho0)) | ((with_reducible refine gate_dst (N := 5) rfl ?_); refine box_event ?hg (N := 5) ?hd (cs := #[.bool false, .int .u64 0, .int .u64 0]) (t := 60) ?hr ?_; (case hd => rfl); (case hg => rfl); (case hr => first | (go_simp; done) | (go_simp; rfl)); intro gb212 hg w5 hbox hb; have n0_ := Aside0.mk (Kd.R_below (by (with_reducible repeat (first | apply Kd.R_alloc | apply Kd.R_drewN | apply Kd.R_drew)); exact HO211.out) hb); have n1_ := Aside0.mk (blk_below (g := gb207) (o := .cells #[.int .i64 0, .bool false] 23 (0, 0)) (by (with_reducible repeat (first | refine blk_drewN ?_ _ | refine blk_drew ?_ | refine blk_alloc ?_ _)); exact BK207.out) hb); have n2_ := Aside0.mk (below_step (by repeat (first | (with_reducible first | exact HB.out | apply below_alloc | apply pw_below_drewN | apply below_drew1 | refine below_set ?_ GE207.out) | exact HB.out)) hb); have n3_ := Aside0.mk (hbox); have n4_ := Aside0.mk ((by rw [hg]; exact (below_size (by repeat (first | (with_reducible first | exact HB.out | apply below_alloc | apply pw_below_drewN | apply below_drew1 | refine below_set ?_ GE207.out) | exact HB.out))) : w.heap.size ≤ gb212)); have n5_ := Aside0.mk ((by rw [hg]; exact (below_size (by repeat (first | (with_reducible first | exact HB.out | apply below_alloc | apply pw_below_drewN | apply below_drew1 | refine below_set ?_ GE207.out) | exact HB.out))) : w.heap.size ≤ gb212)); have n6_ := Aside0.mk ((by rw [hg]; exact Nat.ne_of_lt (blk_lt (g := gb207) (o := .cells #[.int .i64 0, .bool false] 23 (0, 0)) (by (with_reducible repeat (first | refine blk_drewN ?_ _ | refine blk_drew ?_ | refine blk_alloc ?_ _)); exact BK207.out)) : gb207 ≠ gb212)); have n7_ := Aside0.mk ((by rw [hg]; exact Nat.ne_of_gt (blk_lt (g := gb207) (o := .cells #[.int .i64 0, .bool false] 23 (0, 0)) (by (with_reducible repeat (first | refine blk_drewN ?_ _ | refine blk_drew ?_ | refine blk_alloc ?_ _)); exact BK207.out)) : gb212 ≠ gb207)); clear HO211; clear BK207; clear HB; have HO211 := n0_; have BK207 := n1_; have HB := n2_; have BK212 := n3_; have GW212 := n4_; have GE212 := n5_; have NB207_212 := n6_; have NB212_207 := n7_; clear n0_ n1_ n2_ n3_ n4_ n5_ n6_ n7_; clear hb hbox hg; obtain ⟨Ao6, co6, eo6⟩ := Kd.R_slice HO211.out; subst eo6))
  go_loopg [15] k (fun kq v15 w' => ∃ (x15_1 : Int) (x213000_1 : Bool) (x213001_1 : Int) (x213002_1 : Int), v15 = .int .i64 x15_1 ∧ Aside0 (fixed_Sum.l0 kq t209 t208 (t208.length : Int) x15_1 x213000_1 x213001_1 x213002_1 = some (r1, r2)) ∧ Aside0 (kq ≤ k) ∧ Aside0 (Kd.R (Kd.int .i64) 2 w' w.heap.size (fun _ => True) (.slice Ao6 t208.length co6) t208) ∧ Aside0 (w'.heap[gb207]? = some (.cells #[.int .i64 0, .bool false] 23 (0, 0))) ∧ Aside0 (w'.heap[gb212]? = some (.cells #[.bool x213000_1, .int .u64 x213001_1, .int .u64 x213002_1] 60 (0, 0))) ∧ Aside0 (Below w.heap.size w w'))
  case atStart => exact ⟨(0), (false), (0), (0), (by first | rfl | (simp; done) | (simp [*]; done)), H', ⟨Nat.le_refl _⟩, ⟨by (with_reducible repeat (first | apply Kd.R_alloc | apply Kd.R_drewN | apply Kd.R_drew)); exact HO211.out⟩, ⟨by (with_reducible repeat (first | refine blk_drewN ?_ _ | refine blk_drew ?_ | refine blk_alloc ?_ _)); exact BK207.out⟩, ⟨by (with_reducible repeat (first | refine blk_drewN ?_ _ | refine blk_drew ?_ | refine blk_alloc ?_ _)); exact BK212.out⟩, ⟨by repeat (first | (with_reducible first | exact HB.out | apply below_alloc | apply pw_below_drewN | apply below_drew1 | refine below_set ?_ GE207.out | refine below_set ?_ GE212.out) | exact HB.out)⟩⟩
  case round =>
    clear H'
    try clear p2
    try clear c3
    obtain ⟨x15_1, x213000_1, x213001_1, x213002_1, rfl, HA, HK1, HO_13, BK207, BK212, HB⟩ := hrel
    cases gk with
    | zero => exact absurd HA.out (by simp [fixed_Sum.l0])
    | succ k1 =>
      have H := HA.out
      clear HA
      simp only [fixed_Sum.l0] at H
      by_cases c7 : x15_1 < (t208.length : Int)
      · rw [if_pos c7] at H
        have c7b0 : decide (x15_1 < (t208.length : Int)) = true := decide_eq_true c7
        clear c7
        by_cases c8 : 0 ≤ x15_1
        · rw [if_pos c8] at H
          have c8b0 : decide (0 ≤ x15_1) = true := decide_eq_true c8
          clear c8
          by_cases c9 : x15_1 < (t208.length : Int)
          · rw [if_pos c9] at H
            have c9b0 : decide (x15_1 < (t208.length : Int)) = true := decide_eq_true c9
            clear c9
            replace H := Option.bind_eq_some_iff.mp H
            obtain ⟨⟨t214, t215, t216⟩, A100, H⟩ := H
            replace H : ((fixed_exact_plus.f k1 x213000_1 x213001_1 x213002_1 t214 t215 t216).bind fun bt217 => (fixed_Sum.l0 k1 t209 t208 (t208.length : Int) (wrap64 (x15_1 + 1)) bt217.1 bt217.2.1 bt217.2.2)) = some (r1, r2) := H
            have A10 := Aside0.mk A100
            clear A100
            replace H := Option.bind_eq_some_iff.mp H
            obtain ⟨⟨t217, t218, t219⟩, A110, H⟩ := H
            replace H : (fixed_Sum.l0 k1 t209 t208 (t208.length : Int) (wrap64 (x15_1 + 1)) t217 t218 t219) = some (r1, r2) := H
            have A11 := Aside0.mk A110
            clear A110
            have H' := Aside0.mk H
            clear H
            have p213 : 0 ≤ (x15_1 : Int) := of_decide_eq_true (by first | (with_reducible assumption) | assumption)
            have q213 : x15_1 < (t208.length : Int) := of_decide_eq_true (by first | (with_reducible assumption) | assumption)
            obtain ⟨ad213, e213, hx213_0⟩ := Kd.at_int (Kd.R_reads' HO_13.out).2.2 x15_1 p213 q213
            cases e213
            replace p213 := eq_true p213
            replace q213 := eq_true q213
            try go_wp2
            have n0_ := Aside0.mk (Kd.R_drew HO_13.out)
            have n1_ := Aside0.mk (blk_drew BK207.out)
            have n2_ := Aside0.mk (blk_drew BK212.out)
            have n3_ := Aside0.mk (below_drew1 HB.out)
            clear HO_13
            clear BK207
            clear BK212
            clear HB
            have HO_13 := n0_
            have BK207 := n1_
            have BK212 := n2_
            have HB := n3_
            clear n0_ n1_ n2_ n3_
            refine start_ (n := 5) (S := fun w' => w'.cell? ⟨gb212, 0, none⟩ = some (.bool x213000_1) ∧ w'.cell? ⟨gb212, 1, none⟩ = some (.int .u64 x213001_1) ∧ w'.cell? ⟨gb212, 2, none⟩ = some (.int .u64 x213002_1)) (ds := [4]) #[false, false, false, false, false] (by kernel_rfl) rfl rfl ⟨(blk_cell BK212.out 0).trans rfl, (blk_cell BK212.out 1).trans rfl, (blk_cell BK212.out 2).trans rfl⟩ (fun hHeld => ?_)
            generalize wr.drew = w12 at HO_13 BK207 BK212 HB hHeld ⊢
            refine pure_ (i := 1) (N := some 20) (v := ?_) (a' := ?_) #[false, true, false, false, false] rfl rfl (by kernel_rfl) (fun _ _ _ h => h) (Or.inl ⟨by rfl, ?_⟩) ?_ ?_
            rotate_left
            · intro w'
              go_simp
              with_reducible rfl
            rotate_left
            · simp only [Act.put, List.setIfInBounds_toArray, List.set_cons_zero, List.set_cons_succ, i64_w, i32_w]
              rfl
            refine take_ (i := 0) (N := some 19) (v := ?_) (a' := ?_) #[true, true, false, false, false] rfl rfl (by kernel_rfl) (fun _ _ _ h => h) (Or.inl ⟨by rfl, ?_⟩) hHeld ?_ ?_
            rotate_left
            · rintro w' ⟨s0, s1, s2⟩
              go_simp
              with_reducible rfl
            rotate_left
            · simp only [Act.put, List.setIfInBounds_toArray, List.set_cons_zero, List.set_cons_succ, i64_w, i32_w]
              rfl
            refine one_ (i := 2) (N := some 21) #[true, true, true, false, false] rfl rfl (by kernel_rfl) (by decide) (fun K hK => ?_)
            refine goes_ Try.func82 (by kernel_rfl) rfl #[.int .i64 (rd t208 x15_1)] (by rfl) rfl rfl (by (try simp only [List.map_toArray, List.map_cons, List.map_nil]); first | done | rfl | (simp only [List.length_drop, List.length_take]; rfl)) ?_
            with_reducible refine (fixed_of.calls (rd t208 x15_1) t214 t215 t216 _ A10.out).mono ?_
            rintro e w13 ⟨rfl, hb⟩
            refine ⟨_, rfl, ?_⟩
            have n0_ := Aside0.mk (Kd.R_below (by (with_reducible repeat (first | apply Kd.R_alloc | apply Kd.R_drewN | apply Kd.R_drew)); exact HO_13.out) hb)
            have n1_ := Aside0.mk (blk_below (g := gb207) (o := .cells #[.int .i64 0, .bool false] 23 (0, 0)) (by (with_reducible repeat (first | refine blk_drewN ?_ _ | refine blk_drew ?_ | refine blk_alloc ?_ _)); exact BK207.out) hb)
            have n2_ := Aside0.mk (blk_below (g := gb212) (o := .cells #[.bool x213000_1, .int .u64 x213001_1, .int .u64 x213002_1] 60 (0, 0)) (by (with_reducible repeat (first | refine blk_drewN ?_ _ | refine blk_drew ?_ | refine blk_alloc ?_ _)); exact BK212.out) hb)
            have n3_ := Aside0.mk (below_step (by repeat (first | (with_reducible first | exact HB.out | apply below_alloc | apply pw_below_drewN | apply below_drew1 | refine below_set ?_ GE207.out | refine below_set ?_ GE212.out) | exact HB.out)) hb)
            clear HO_13
            clear BK207
            clear BK212
            clear HB
            have HO_13 := n0_
            have BK207 := n1_
            have BK212 := n2_
            have HB := n3_
            clear n0_ n1_ n2_ n3_
            (try clear hb)
            (try clear hb2)
            (try clear hk)
            (try clear hi)
            refine hK.out _ _ ⟨(blk_cell BK212.out 0).trans rfl, (blk_cell BK212.out 1).trans rfl, (blk_cell BK212.out 2).trans rfl⟩ (fun hHeld => ?_)
            clear hK K
            refine norm_ (a' := ?_) ?_ ?_
            rotate_left
            · show Act.put _ (some 21) _ = _
              simp only [Act.put, List.setIfInBounds_toArray, List.set_cons_zero, List.set_cons_succ, i64_w, i32_w]
              rfl
            refine one_ (i := 3) (N := some 22) #[true, true, true, true, false] rfl rfl (by kernel_rfl) (by decide) (fun K hK => ?_)
            refine goes_ Try.func75 (by kernel_rfl) rfl #[.agg #[.bool x213000_1, .int .u64 x213001_1, .int .u64 x213002_1], .agg #[.bool t214, .int .u64 t215, .int .u64 t216]] (by rfl) rfl rfl (by (try simp only [List.map_toArray, List.map_cons, List.map_nil]); first | done | rfl | (simp only [List.length_drop, List.length_take]; rfl)) ?_
            with_reducible refine (fixed_exact_plus.calls k1 x213000_1 x213001_1 x213002_1 t214 t215 t216 t217 t218 t219 _ A11.out).mono ?_
            rintro e w14 ⟨rfl, hb⟩
            refine ⟨_, rfl, ?_⟩
            have n0_ := Aside0.mk (Kd.R_below (by (with_reducible repeat (first | apply Kd.R_alloc | apply Kd.R_drewN | apply Kd.R_drew)); exact HO_13.out) hb)
            have n1_ := Aside0.mk (blk_below (g := gb207) (o := .cells #[.int .i64 0, .bool false] 23 (0, 0)) (by (with_reducible repeat (first | refine blk_drewN ?_ _ | refine blk_drew ?_ | refine blk_alloc ?_ _)); exact BK207.out) hb)
            have n2_ := Aside0.mk (blk_below (g := gb212) (o := .cells #[.bool x213000_1, .int .u64 x213001_1, .int .u64 x213002_1] 60 (0, 0)) (by (with_reducible repeat (first | refine blk_drewN ?_ _ | refine blk_drew ?_ | refine blk_alloc ?_ _)); exact BK212.out) hb)
            have n3_ := Aside0.mk (below_step (by repeat (first | (with_reducible first | exact HB.out | apply below_alloc | apply pw_below_drewN | apply below_drew1 | refine below_set ?_ GE207.out | refine below_set ?_ GE212.out) | exact HB.out)) hb)
            clear HO_13
            clear BK207
            clear BK212
            clear HB
            have HO_13 := n0_
            have BK207 := n1_
            have BK212 := n2_
            have HB := n3_
            clear n0_ n1_ n2_ n3_
            (try clear hb)
            (try clear hb2)
            (try clear hk)
            (try clear hi)
            refine hK.out _ _ ⟨(blk_cell BK212.out 0).trans rfl, (blk_cell BK212.out 1).trans rfl, (blk_cell BK212.out 2).trans rfl⟩ (fun hHeld => ?_)
            clear hK K
            refine norm_ (a' := ?_) ?_ ?_
            rotate_left
            · show Act.put _ (some 22) _ = _
              simp only [Act.put, List.setIfInBounds_toArray, List.set_cons_zero, List.set_cons_succ, i64_w, i32_w]
              rfl
            refine last_ (i := 4) (N := none) #[true, true, true, true, true] rfl rfl (by kernel_rfl) (by decide) (fun K hK => ?_)
            have hs15 : w14.cell? ⟨gb212, 0, none⟩ = some (.bool x213000_1) := (blk_cell BK212.out 0).trans rfl
            have hfs15 := blk_frozen BK212.out 0
            have hns15_0 := NB207_212.out
            have hms15_0 := NB212_207.out
            have hs16 : w14.cell? ⟨gb212, 1, none⟩ = some (.int .u64 x213001_1) := (blk_cell BK212.out 1).trans rfl
            have hfs16 := blk_frozen BK212.out 1
            have hns16_0 := NB207_212.out
            have hms16_0 := NB212_207.out
            have hs17 : w14.cell? ⟨gb212, 2, none⟩ = some (.int .u64 x213002_1) := (blk_cell BK212.out 2).trans rfl
            have hfs17 := blk_frozen BK212.out 2
            have hns17_0 := NB207_212.out
            have hms17_0 := NB212_207.out
            refine skip_ (w1 := ?_) (by rfl) rfl ?_ ?_
            rotate_left
            · go_simp
              rfl
            refine hK.out _ _ ?_
            clear hK K
            refine done_ (by kernel_rfl) ?_
            try go_wp2
            go_roundg k1
            case measure => have := HK1.out; omega
            case rel => exact ⟨(wrap64 (x15_1 + 1)), (t217), (t218), (t219), (by first | rfl | (simp; done) | (simp [*]; done)), H', ⟨by have := HK1.out; omega⟩, ⟨by (with_reducible repeat (first | apply Kd.R_alloc | apply Kd.R_drewN | apply Kd.R_drew)); exact Kd.R_mono (Kd.R_far (p := ⟨gb212, 2, none⟩) (Kd.R_far (p := ⟨gb212, 1, none⟩) (Kd.R_far (p := ⟨gb212, 0, none⟩) (Kd.R_types HO_13.out BK212.out (by decide)) (fun _ hk => hk.2) (.bool t217)) (fun _ hk => hk.2) (.int .u64 t218)) (fun _ hk => hk.2) (.int .u64 t219)) (fun _ hk => trivial)⟩, ⟨by (with_reducible repeat (first | refine blk_drewN ?_ _ | refine blk_drew ?_ | refine blk_alloc ?_ _)); refine blk_far ?_ NB207_212.out _; (with_reducible repeat (first | refine blk_drewN ?_ _ | refine blk_drew ?_ | refine blk_alloc ?_ _)); refine blk_far ?_ NB207_212.out _; (with_reducible repeat (first | refine blk_drewN ?_ _ | refine blk_drew ?_ | refine blk_alloc ?_ _)); refine blk_far ?_ NB207_212.out _; (with_reducible repeat (first | refine blk_drewN ?_ _ | refine blk_drew ?_ | refine blk_alloc ?_ _)); exact BK207.out⟩, ⟨by (with_reducible repeat (first | refine blk_drewN ?_ _ | refine blk_drew ?_ | refine blk_alloc ?_ _)); refine blk_put (cs := #[.bool t217, .int .u64 t218, .int .u64 x213002_1]) ?_ 2 _ rfl; (with_reducible repeat (first | refine blk_drewN ?_ _ | refine blk_drew ?_ | refine blk_alloc ?_ _)); refine blk_put (cs := #[.bool t217, .int .u64 x213001_1, .int .u64 x213002_1]) ?_ 1 _ rfl; (with_reducible repeat (first | refine blk_drewN ?_ _ | refine blk_drew ?_ | refine blk_alloc ?_ _)); refine blk_put (cs := #[.bool x213000_1, .int .u64 x213001_1, .int .u64 x213002_1]) ?_ 0 _ rfl; (with_reducible repeat (first | refine blk_drewN ?_ _ | refine blk_drew ?_ | refine blk_alloc ?_ _)); exact BK212.out⟩, ⟨by repeat (first | (with_reducible first | exact HB.out | apply below_alloc | apply pw_below_drewN | apply below_drew1 | refine below_set ?_ GE207.out | refine below_set ?_ GE212.out) | exact HB.out)⟩⟩
          · rw [if_neg c9] at H
            exact absurd H (by simp)
        · rw [if_neg c8] at H
          exact absurd H (by simp)
      · rw [if_neg c7] at H
        have c7b0 : decide (x15_1 < (t208.length : Int)) = false := decide_eq_false c7
        clear c7
        replace H := Option.bind_eq_some_iff.mp H
        obtain ⟨⟨t220, t221⟩, A180, H⟩ := H
        replace H : (some (t220, t221)) = some (r1, r2) := H
        have A18 := Aside0.mk A180
        clear A180
        simp only [Option.some.injEq, Prod.mk.injEq] at H
        obtain ⟨rfl, rfl⟩ := H
        have hnb19 := NB212_207.out
        have hnc19 := NB207_212.out
        have hcz20_0 : wr.cell? ⟨gb212, 0, none⟩ = some (.bool x213000_1) := (blk_cell BK212.out 0).trans rfl
        have hcz20_1 : wr.cell? ⟨gb212, 1, none⟩ = some (.int .u64 x213001_1) := (blk_cell BK212.out 1).trans rfl
        have hcz20_2 : wr.cell? ⟨gb212, 2, none⟩ = some (.int .u64 x213002_1) := (blk_cell BK212.out 2).trans rfl
        have hfz20_0 := blk_frozen BK212.out 0
        have hfz20_1 := blk_frozen BK212.out 1
        have hfz20_2 := blk_frozen BK212.out 2
        go_wp2_with (first | ((with_reducible refine gate_callee (f := 83) rfl ?_); refine goesL_ (some 26) rfl rfl Try.func83 (by kernel_rfl) rfl #[.agg #[.bool x213000_1, .int .u64 x213001_1, .int .u64 x213002_1], .bool t209] rfl (by (try simp only [List.map_toArray, List.map_cons, List.map_nil]); first | done | rfl | (simp only [List.length_drop, List.length_take]; rfl)) ?_; (with_reducible refine (fixed_exact_fit.calls k1 x213000_1 x213001_1 x213002_1 t209 t220 t221 _ A18.out).mono ?_); rintro e w21 ⟨rfl, hb⟩; refine ⟨_, rfl, ?_⟩; have n0_ := Aside0.mk (Kd.R_below (by (with_reducible repeat (first | apply Kd.R_alloc | apply Kd.R_drewN | apply Kd.R_drew)); exact HO_13.out) hb); have n1_ := Aside0.mk (blk_below (g := gb207) (o := .cells #[.int .i64 0, .bool false] 23 (0, 0)) (by (with_reducible repeat (first | refine blk_drewN ?_ _ | refine blk_drew ?_ | refine blk_alloc ?_ _)); exact BK207.out) hb); have n2_ := Aside0.mk (blk_below (g := gb212) (o := .cells #[.bool x213000_1, .int .u64 x213001_1, .int .u64 x213002_1] 60 (0, 0)) (by (with_reducible repeat (first | refine blk_drewN ?_ _ | refine blk_drew ?_ | refine blk_alloc ?_ _)); exact BK212.out) hb); have n3_ := Aside0.mk (below_step (by repeat (first | (with_reducible first | exact HB.out | apply below_alloc | apply pw_below_drewN | apply below_drew1 | refine below_set ?_ GE207.out | refine below_set ?_ GE212.out) | exact HB.out)) hb); clear HO_13; clear BK207; clear BK212; clear HB; have HO_13 := n0_; have BK207 := n1_; have BK212 := n2_; have HB := n3_; clear n0_ n1_ n2_ n3_; (try clear hb); (try clear hb2); (try clear hk); (try clear hi); have hcz22_0 : w21.cell? ⟨gb207, 0, none⟩ = some (.int .i64 0) := (blk_cell BK207.out 0).trans rfl; have hcz22_1 : w21.cell? ⟨gb207, 1, none⟩ = some (.bool false) := (blk_cell BK207.out 1).trans rfl; have hfz22_0 := blk_frozen BK207.out 0; have hfz22_1 := blk_frozen BK207.out 1))
        refine bodyPost_ret (results_cell_row rfl _ _ gb207 23 #[.int .i64 t220, .bool t221] (0, 0) _ rfl (by (with_reducible repeat (first | refine blk_drewN ?_ _ | refine blk_drew ?_ | refine blk_alloc ?_ _)); refine blk_put (cs := #[.int .i64 t220, .bool false]) ?_ 1 _ rfl; (with_reducible repeat (first | refine blk_drewN ?_ _ | refine blk_drew ?_ | refine blk_alloc ?_ _)); refine blk_put (cs := #[.int .i64 0, .bool false]) ?_ 0 _ rfl; (with_reducible repeat (first | refine blk_drewN ?_ _ | refine blk_drew ?_ | refine blk_alloc ?_ _)); exact BK207.out) Try.underlying23 rfl (by kernel_rfl)) rfl ?_
        exact ⟨by first | rfl | (simp [errW_none, errW_some] <;> rfl) | (simp [*, errW_none, errW_some] <;> rfl), by repeat (first | (with_reducible first | exact HB.out | apply below_alloc | apply pw_below_drewN | apply below_drew1 | refine below_set ?_ GE207.out | refine below_set ?_ GE212.out) | exact HB.out)⟩
def fixed_Add.f (k : Nat) (a0_0 : Int) (a0_1 : Bool) (a1_0 : Int) (a1_1 : Bool) : Option (Int × Bool) := (fixed_Sum.f k (([(⟨a0_0, a0_1⟩ : S23), (⟨a1_0, a1_1⟩ : S23)] : List (S23)))).bind fun bt228 => (some (bt228.1, bt228.2))
set_option maxHeartbeats 8000000 in
set_option maxRecDepth 100000 in
theorem fixed_Add.calls (k : Nat) (a0_0 : Int) (a0_1 : Bool) (a1_0 : Int) (a1_1 : Bool) (r1 : Int) (r2 : Bool) (w : World) (h : fixed_Add.f k a0_0 a0_1 a1_0 a1_1 = some (r1, r2)) :
    Calls Try.prog 25 #[.agg #[.int .i64 a0_0, .bool a0_1], .agg #[.int .i64 a1_0, .bool a1_1]] w fun e w' => e = .returned (.agg #[.int .i64 r1, .bool r2]) ∧ Below w.heap.size w w' := by
  have hu23 := Try.underlying23
  have HB := Aside0.mk (Below.refl w.heap.size w)
  have H : ((fixed_Sum.f k (([(⟨a0_0, a0_1⟩ : S23), (⟨a1_0, a1_1⟩ : S23)] : List (S23)))).bind fun bt228 => (some (bt228.1, bt228.2))) = some (r1, r2) := h
  clear h
  obtain ⟨y225, hy225⟩ : ∃ y_ : List (S23), y_ = (([(⟨a0_0, a0_1⟩ : S23), (⟨a1_0, a1_1⟩ : S23)] : List (S23))) := ⟨_, rfl⟩
  replace H : ((fixed_Sum.f k y225).bind fun bt228 => (some (bt228.1, bt228.2))) = some (r1, r2) := by first | (rw [hy225]; with_reducible exact H) | (have H2_ := (Option.bind_some _ _).symm.trans H; rw [hy225]; with_reducible exact H2_) | (have H2_ := (Option.bind_some _ _).symm.trans H; with_reducible exact H2_) | with_reducible exact H | (rw [hy225]; exact H) | exact H
  have Ny225 := Aside0.mk hy225
  clear hy225
  replace H := Option.bind_eq_some_iff.mp H
  obtain ⟨⟨t228, t229⟩, A30, H⟩ := H
  replace H : (some (t228, t229)) = some (r1, r2) := H
  have A3 := Aside0.mk A30
  clear A30
  simp only [Option.some.injEq, Prod.mk.injEq] at H
  obtain ⟨rfl, rfl⟩ := H
  go_enter Try.func25, Try.ntmps25
  go_wp2_with (first | ((with_reducible refine gate_dst (N := 2) rfl ?_); refine box_event ?hg (N := 2) ?hd (cs := #[.int .i64 a0_0, .bool a0_1]) (t := 23) ?hr ?_; (case hd => rfl); (case hg => rfl); (case hr => first | (go_simp; done) | (go_simp; rfl)); intro gb222 hg w4 hbox hb; have n0_ := Aside0.mk (below_step (by repeat (first | (with_reducible first | exact HB.out | apply below_alloc | apply pw_below_drewN | apply below_drew1) | exact HB.out)) hb); have n1_ := Aside0.mk (hbox); have n2_ := Aside0.mk ((by rw [hg]; exact (below_size (by repeat (first | (with_reducible first | exact HB.out | apply below_alloc | apply pw_below_drewN | apply below_drew1) | exact HB.out))) : w.heap.size ≤ gb222)); have n3_ := Aside0.mk ((by rw [hg]; exact (below_size (by repeat (first | (with_reducible first | exact HB.out | apply below_alloc | apply pw_below_drewN | apply below_drew1) | exact HB.out))) : w.heap.size ≤ gb222)); clear HB; have HB := n0_; have BK222 := n1_; have GW222 := n2_; have GE222 := n3_; clear n0_ n1_ n2_ n3_; clear hb hbox hg) | ((with_reducible refine gate_dst (N := 3) rfl ?_); refine box_event ?hg (N := 3) ?hd (cs := #[.int .i64 a1_0, .bool a1_1]) (t := 23) ?hr ?_; (case hd => rfl); (case hg => rfl); (case hr => first | (go_simp; done) | (go_simp; rfl)); intro gb223 hg w5 hbox hb; have n0_ := Aside0.mk (blk_below (g := gb222) (o := .cells #[.int .i64 a0_0, .bool a0_1] 23 (0, 0)) (by (with_reducible repeat (first | refine blk_drewN ?_ _ | refine blk_drew ?_ | refine blk_alloc ?_ _)); exact BK222.out) hb); have n1_ := Aside0.mk (below_step (by repeat (first | (with_reducible first | exact HB.out | apply below_alloc | apply pw_below_drewN | apply below_drew1 | refine below_set ?_ GE222.out) | exact HB.out)) hb); have n2_ := Aside0.mk (hbox); have n3_ := Aside0.mk ((by rw [hg]; exact (below_size (by repeat (first | (with_reducible first | exact HB.out | apply below_alloc | apply pw_below_drewN | apply below_drew1 | refine below_set ?_ GE222.out) | exact HB.out))) : w.heap.size ≤ gb223)); have n4_ := Aside0.mk ((by rw [hg]; exact (below_size (by repeat (first | (with_reducible first | exact HB.out | apply below_alloc | apply pw_below_drewN | apply below_drew1 | refine below_set ?_ GE222.out) | exact HB.out))) : w.heap.size ≤ gb223)); have n5_ := Aside0.mk ((by rw [hg]; exact Nat.ne_of_lt (blk_lt (g := gb222) (o := .cells #[.int .i64 a0_0, .bool a0_1] 23 (0, 0)) (by (with_reducible repeat (first | refine blk_drewN ?_ _ | refine blk_drew ?_ | refine blk_alloc ?_ _)); exact BK222.out)) : gb222 ≠ gb223)); have n6_ := Aside0.mk ((by rw [hg]; exact Nat.ne_of_gt (blk_lt (g := gb222) (o := .cells #[.int .i64 a0_0, .bool a0_1] 23 (0, 0)) (by (with_reducible repeat (first | refine blk_drewN ?_ _ | refine blk_drew ?_ | refine blk_alloc ?_ _)); exact BK222.out)) : gb223 ≠ gb222)); clear BK222; clear HB; have BK222 := n0_; have HB := n1_; have BK223 := n2_; have GW223 := n3_; have GE223 := n4_; have NB222_223 := n5_; have NB223_222 := n6_; clear n0_ n1_ n2_ n3_ n4_ n5_ n6_; clear hb hbox hg) | ((with_reducible refine gate_dst (N := 4) rfl ?_); refine box_event ?hg (N := 4) ?hd (cs := #[.int .i64 0, .bool false]) (t := 23) ?hr ?_; (case hd => rfl); (case hg => rfl); (case hr => first | (go_simp; done) | (go_simp; rfl)); intro gb224 hg w6 hbox hb; have n0_ := Aside0.mk (blk_below (g := gb222) (o := .cells #[.int .i64 a0_0, .bool a0_1] 23 (0, 0)) (by (with_reducible repeat (first | refine blk_drewN ?_ _ | refine blk_drew ?_ | refine blk_alloc ?_ _)); exact BK222.out) hb); have n1_ := Aside0.mk (blk_below (g := gb223) (o := .cells #[.int .i64 a1_0, .bool a1_1] 23 (0, 0)) (by (with_reducible repeat (first | refine blk_drewN ?_ _ | refine blk_drew ?_ | refine blk_alloc ?_ _)); exact BK223.out) hb); have n2_ := Aside0.mk (below_step (by repeat (first | (with_reducible first | exact HB.out | apply below_alloc | apply pw_below_drewN | apply below_drew1 | refine below_set ?_ GE222.out | refine below_set ?_ GE223.out) | exact HB.out)) hb); have n3_ := Aside0.mk (hbox); have n4_ := Aside0.mk ((by rw [hg]; exact (below_size (by repeat (first | (with_reducible first | exact HB.out | apply below_alloc | apply pw_below_drewN | apply below_drew1 | refine below_set ?_ GE222.out | refine below_set ?_ GE223.out) | exact HB.out))) : w.heap.size ≤ gb224)); have n5_ := Aside0.mk ((by rw [hg]; exact (below_size (by repeat (first | (with_reducible first | exact HB.out | apply below_alloc | apply pw_below_drewN | apply below_drew1 | refine below_set ?_ GE222.out | refine below_set ?_ GE223.out) | exact HB.out))) : w.heap.size ≤ gb224)); have n6_ := Aside0.mk ((by rw [hg]; exact Nat.ne_of_lt (blk_lt (g := gb222) (o := .cells #[.int .i64 a0_0, .bool a0_1] 23 (0, 0)) (by (with_reducible repeat (first | refine blk_drewN ?_ _ | refine blk_drew ?_ | refine blk_alloc ?_ _)); exact BK222.out)) : gb222 ≠ gb224)); have n7_ := Aside0.mk ((by rw [hg]; exact Nat.ne_of_gt (blk_lt (g := gb222) (o := .cells #[.int .i64 a0_0, .bool a0_1] 23 (0, 0)) (by (with_reducible repeat (first | refine blk_drewN ?_ _ | refine blk_drew ?_ | refine blk_alloc ?_ _)); exact BK222.out)) : gb224 ≠ gb222)); have n8_ := Aside0.mk ((by rw [hg]; exact Nat.ne_of_lt (blk_lt (g := gb223) (o := .cells #[.int .i64 a1_0, .bool a1_1] 23 (0, 0)) (by (with_reducible repeat (first | refine blk_drewN ?_ _ | refine blk_drew ?_ | refine blk_alloc ?_ _)); exact BK223.out)) : gb223 ≠ gb224)); have n9_ := Aside0.mk ((by rw [hg]; exact Nat.ne_of_gt (blk_lt (g := gb223) (o := .cells #[.int .i64 a1_0, .bool a1_1] 23 (0, 0)) (by (with_reducible repeat (first | refine blk_drewN ?_ _ | refine blk_drew ?_ | refine blk_alloc ?_ _)); exact BK223.out)) : gb224 ≠ gb223)); clear BK222; clear BK223; clear HB; have BK222 := n0_; have BK223 := n1_; have HB := n2_; have BK224 := n3_; have GW224 := n4_; have GE224 := n5_; have NB222_224 := n6_; have NB224_222 := n7_; have NB223_224 := n8_; have NB224_223 := n9_; clear n0_ n1_ n2_ n3_ n4_ n5_ n6_ n7_ n8_ n9_; clear hb hbox hg; have hnb7 := NB222_223.out; have hnc7 := NB223_222.out; have hnb8 := NB222_224.out; have hnc8 := NB224_222.out; have hcz9_0 : w6.cell? ⟨gb222, 0, none⟩ = some (.int .i64 a0_0) := (blk_cell BK222.out 0).trans rfl; have hcz9_1 : w6.cell? ⟨gb222, 1, none⟩ = some (.bool a0_1) := (blk_cell BK222.out 1).trans rfl; have hfz9_0 := blk_frozen BK222.out 0; have hfz9_1 := blk_frozen BK222.out 1; have hnb10 := NB223_224.out; have hnc10 := NB224_223.out; have hcz11_0 : w6.cell? ⟨gb223, 0, none⟩ = some (.int .i64 a1_0) := (blk_cell BK223.out 0).trans rfl; have hcz11_1 : w6.cell? ⟨gb223, 1, none⟩ = some (.bool a1_1) := (blk_cell BK223.out 1).trans rfl; have hfz11_0 := blk_frozen BK223.out 0; have hfz11_1 := blk_frozen BK223.out 1) | ((with_reducible refine gate_dst (N := 7) rfl ?_); refine Kd.R_lit k23 _ 23 ?hg (N := 7) ?hd (xs := ([(⟨a0_0, a0_1⟩ : S23), (⟨a1_0, a1_1⟩ : S23)] : List (S23))) (inner := [.int .i64 a0_0, .bool a0_1, .int .i64 a1_0, .bool a1_1]) (ok := fun _ => True) (okp := fun _ => True) ?hr ?hp (fun _ hk => hk) trivial (Below.refl _ _) (Nat.le_refl _) (by simp) ?_; (case hd => rfl); (case hg => rfl); (case hr => first | (go_simp; done) | (go_simp; rfl)); (case hp => exact (Reps.c2 (show Kd.M k23 _ _ _ (⟨a0_0, a0_1⟩ : S23) [.int .i64 a0_0, .bool a0_1] from (k23_mkM _ _ _ (⟨a0_0, a0_1⟩ : S23) )) (Reps.c2 (show Kd.M k23 _ _ _ (⟨a1_0, a1_1⟩ : S23) [.int .i64 a1_0, .bool a1_1] from (k23_mkM _ _ _ (⟨a1_0, a1_1⟩ : S23) )) (Reps.none _ _)))); intro v226 w12 ho13 hb hg_ hnew_; clear hg_ hnew_; (first | rw [← Ny225.out] at ho13 | (simp only [Int.reduceToNat] at ho13; rw [← Ny225.out] at ho13)); have n0_ := Aside0.mk (Kd.R_lower (Kd.R_newB (Kd.R_newB (Kd.R_newB ho13 (g := gb222) (o := .cells #[.int .i64 a0_0, .bool a0_1] 23 (0, 0)) (by (with_reducible repeat (first | refine blk_drewN ?_ _ | refine blk_drew ?_ | refine blk_alloc ?_ _)); exact BK222.out)) (g := gb223) (o := .cells #[.int .i64 a1_0, .bool a1_1] 23 (0, 0)) (by (with_reducible repeat (first | refine blk_drewN ?_ _ | refine blk_drew ?_ | refine blk_alloc ?_ _)); exact BK223.out)) (g := gb224) (o := .cells #[.int .i64 0, .bool false] 23 (0, 0)) (by (with_reducible repeat (first | refine blk_drewN ?_ _ | refine blk_drew ?_ | refine blk_alloc ?_ _)); exact BK224.out)) (below_size (by repeat (first | (with_reducible first | exact HB.out | apply below_alloc | apply pw_below_drewN | apply below_drew1 | refine below_set ?_ GE222.out | refine below_set ?_ GE223.out | refine below_set ?_ GE224.out) | exact HB.out)))); have n1_ := Aside0.mk (blk_below (g := gb222) (o := .cells #[.int .i64 a0_0, .bool a0_1] 23 (0, 0)) (by (with_reducible repeat (first | refine blk_drewN ?_ _ | refine blk_drew ?_ | refine blk_alloc ?_ _)); exact BK222.out) hb); have n2_ := Aside0.mk (blk_below (g := gb223) (o := .cells #[.int .i64 a1_0, .bool a1_1] 23 (0, 0)) (by (with_reducible repeat (first | refine blk_drewN ?_ _ | refine blk_drew ?_ | refine blk_alloc ?_ _)); exact BK223.out) hb); have n3_ := Aside0.mk (blk_below (g := gb224) (o := .cells #[.int .i64 0, .bool false] 23 (0, 0)) (by (with_reducible repeat (first | refine blk_drewN ?_ _ | refine blk_drew ?_ | refine blk_alloc ?_ _)); exact BK224.out) hb); have n4_ := Aside0.mk (below_step (by repeat (first | (with_reducible first | exact HB.out | apply below_alloc | apply pw_below_drewN | apply below_drew1 | refine below_set ?_ GE222.out | refine below_set ?_ GE223.out | refine below_set ?_ GE224.out) | exact HB.out)) hb); clear BK222; clear BK223; clear BK224; clear HB; have HO227 := n0_; have BK222 := n1_; have BK223 := n2_; have BK224 := n3_; have HB := n4_; clear n0_ n1_ n2_ n3_ n4_; clear hb ho13; obtain ⟨Ao14, co14, eo14⟩ := Kd.R_slice HO227.out; subst eo14) | ((with_reducible refine gate_callee (f := 32) rfl ?_); refine goesL_ (some 8) rfl rfl Try.func32 (by kernel_rfl) rfl #[.slice Ao14 y225.length co14] rfl (by (try simp only [List.map_toArray, List.map_cons, List.map_nil]); first | done | rfl | (simp only [List.length_drop, List.length_take]; rfl)) ?_; (with_reducible refine (fixed_Sum.calls k _ _ y225 t228 t229 _ ?side1 ?side2 A3.out).mono ?_); (case side1 => repeat (first | exact (Kd.R_reads' HO227.out).2.2 | (with_reducible refine Kd.C_alloc ?_ _) | (with_reducible refine Kd.C_drewN ?_ _) | (with_reducible refine Kd.C_drew ?_))); (case side2 => exact (Kd.R_reads' HO227.out).2.1); rintro e w15 ⟨rfl, hb⟩; refine ⟨_, rfl, ?_⟩; have n0_ := Aside0.mk (Kd.R_below (by (with_reducible repeat (first | apply Kd.R_alloc | apply Kd.R_drewN | apply Kd.R_drew)); exact HO227.out) hb); have n1_ := Aside0.mk (blk_below (g := gb222) (o := .cells #[.int .i64 a0_0, .bool a0_1] 23 (0, 0)) (by (with_reducible repeat (first | refine blk_drewN ?_ _ | refine blk_drew ?_ | refine blk_alloc ?_ _)); exact BK222.out) hb); have n2_ := Aside0.mk (blk_below (g := gb223) (o := .cells #[.int .i64 a1_0, .bool a1_1] 23 (0, 0)) (by (with_reducible repeat (first | refine blk_drewN ?_ _ | refine blk_drew ?_ | refine blk_alloc ?_ _)); exact BK223.out) hb); have n3_ := Aside0.mk (blk_below (g := gb224) (o := .cells #[.int .i64 0, .bool false] 23 (0, 0)) (by (with_reducible repeat (first | refine blk_drewN ?_ _ | refine blk_drew ?_ | refine blk_alloc ?_ _)); exact BK224.out) hb); have n4_ := Aside0.mk (below_step (by repeat (first | (with_reducible first | exact HB.out | apply below_alloc | apply pw_below_drewN | apply below_drew1 | refine below_set ?_ GE222.out | refine below_set ?_ GE223.out | refine below_set ?_ GE224.out) | exact HB.out)) hb); clear HO227; clear BK222; clear BK223; clear BK224; clear HB; have HO227 := n0_; have BK222 := n1_; have BK223 := n2_; have BK224 := n3_; have HB := n4_; clear n0_ n1_ n2_ n3_ n4_; (try clear hb); (try clear hb2); (try clear hk); (try clear hi); have hcz16_0 : w15.cell? ⟨gb224, 0, none⟩ = some (.int .i64 0) := (blk_cell BK224.out 0).trans rfl; have hcz16_1 : w15.cell? ⟨gb224, 1, none⟩ = some (.bool false) := (blk_cell BK224.out 1).trans rfl; have hfz16_0 := blk_frozen BK224.out 0; have hfz16_1 := blk_frozen BK224.out 1))
  refine bodyPost_ret (results_cell_row rfl _ _ gb224 23 #[.int .i64 t228, .bool t229] (0, 0) _ rfl (by (with_reducible repeat (first | refine blk_drewN ?_ _ | refine blk_drew ?_ | refine blk_alloc ?_ _)); refine blk_put (cs := #[.int .i64 t228, .bool false]) ?_ 1 _ rfl; (with_reducible repeat (first | refine blk_drewN ?_ _ | refine blk_drew ?_ | refine blk_alloc ?_ _)); refine blk_put (cs := #[.int .i64 0, .bool false]) ?_ 0 _ rfl; (with_reducible repeat (first | refine blk_drewN ?_ _ | refine blk_drew ?_ | refine blk_alloc ?_ _)); exact BK224.out) Try.underlying23 rfl (by kernel_rfl)) rfl ?_
  exact ⟨by first | rfl | (simp [errW_none, errW_some] <;> rfl) | (simp [*, errW_none, errW_some] <;> rfl), by repeat (first | (with_reducible first | exact HB.out | apply below_alloc | apply pw_below_drewN | apply below_drew1 | refine below_set ?_ GE222.out | refine below_set ?_ GE223.out | refine below_set ?_ GE224.out) | exact HB.out)⟩
def fixed_exact_down.f (a0_0 : Bool) (a0_1 : Int) (a0_2 : Int) : Option (Bool × Int × Int) := some (a0_0, Go.bits .or .u64 (IntKind.u64.wrap (a0_2 * 4294967296)) (a0_1 / 4294967296), a0_2 / 4294967296)
set_option maxHeartbeats 8000000 in
set_option maxRecDepth 100000 in
theorem fixed_exact_down.calls (a0_0 : Bool) (a0_1 : Int) (a0_2 : Int) (r1 : Bool) (r2 : Int) (r3 : Int) (w : World) (h : fixed_exact_down.f a0_0 a0_1 a0_2 = some (r1, r2, r3)) :
    Calls Try.prog 87 #[.agg #[.bool a0_0, .int .u64 a0_1, .int .u64 a0_2]] w fun e w' => e = .returned (.agg #[.bool r1, .int .u64 r2, .int .u64 r3]) ∧ Below w.heap.size w w' := by
  have hu60 := Try.underlying60
  have hu58 := Try.underlying58
  have HB := Aside0.mk (Below.refl w.heap.size w)
  have H : (some (a0_0, Go.bits .or .u64 (IntKind.u64.wrap (a0_2 * 4294967296)) (a0_1 / 4294967296), a0_2 / 4294967296)) = some (r1, r2, r3) := h
  clear h
  simp only [Option.some.injEq, Prod.mk.injEq] at H
  obtain ⟨rfl, rfl, rfl⟩ := H
  go_enter Try.func87, Try.ntmps87
  go_wp2_with (first | ((with_reducible refine gate_dst (N := 1) rfl ?_); refine box_event ?hg (N := 1) ?hd (cs := #[.bool a0_0, .int .u64 a0_1, .int .u64 a0_2]) (t := 60) ?hr ?_; (case hd => rfl); (case hg => rfl); (case hr => first | (go_simp; done) | (go_simp; rfl)); intro gb240 hg w2 hbox hb; have n0_ := Aside0.mk (below_step (by repeat (first | (with_reducible first | exact HB.out | apply below_alloc | apply pw_below_drewN | apply below_drew1) | exact HB.out)) hb); have n1_ := Aside0.mk (hbox); have n2_ := Aside0.mk ((by rw [hg]; exact (below_size (by repeat (first | (with_reducible first | exact HB.out | apply below_alloc | apply pw_below_drewN | apply below_drew1) | exact HB.out))) : w.heap.size ≤ gb240)); have n3_ := Aside0.mk ((by rw [hg]; exact (below_size (by repeat (first | (with_reducible first | exact HB.out | apply below_alloc | apply pw_below_drewN | apply below_drew1) | exact HB.out))) : w.heap.size ≤ gb240)); clear HB; have HB := n0_; have BK240 := n1_; have GW240 := n2_; have GE240 := n3_; clear n0_ n1_ n2_ n3_; clear hb hbox hg) | ((with_reducible refine gate_dst (N := 2) rfl ?_); refine box_event ?hg (N := 2) ?hd (cs := #[.bool false, .int .u64 0, .int .u64 0]) (t := 60) ?hr ?_; (case hd => rfl); (case hg => rfl); (case hr => first | (go_simp; done) | (go_simp; rfl)); intro gb241 hg w3 hbox hb; have n0_ := Aside0.mk (blk_below (g := gb240) (o := .cells #[.bool a0_0, .int .u64 a0_1, .int .u64 a0_2] 60 (0, 0)) (by (with_reducible repeat (first | refine blk_drewN ?_ _ | refine blk_drew ?_ | refine blk_alloc ?_ _)); exact BK240.out) hb); have n1_ := Aside0.mk (below_step (by repeat (first | (with_reducible first | exact HB.out | apply below_alloc | apply pw_below_drewN | apply below_drew1 | refine below_set ?_ GE240.out) | exact HB.out)) hb); have n2_ := Aside0.mk (hbox); have n3_ := Aside0.mk ((by rw [hg]; exact (below_size (by repeat (first | (with_reducible first | exact HB.out | apply below_alloc | apply pw_below_drewN | apply below_drew1 | refine below_set ?_ GE240.out) | exact HB.out))) : w.heap.size ≤ gb241)); have n4_ := Aside0.mk ((by rw [hg]; exact (below_size (by repeat (first | (with_reducible first | exact HB.out | apply below_alloc | apply pw_below_drewN | apply below_drew1 | refine below_set ?_ GE240.out) | exact HB.out))) : w.heap.size ≤ gb241)); have n5_ := Aside0.mk ((by rw [hg]; exact Nat.ne_of_lt (blk_lt (g := gb240) (o := .cells #[.bool a0_0, .int .u64 a0_1, .int .u64 a0_2] 60 (0, 0)) (by (with_reducible repeat (first | refine blk_drewN ?_ _ | refine blk_drew ?_ | refine blk_alloc ?_ _)); exact BK240.out)) : gb240 ≠ gb241)); have n6_ := Aside0.mk ((by rw [hg]; exact Nat.ne_of_gt (blk_lt (g := gb240) (o := .cells #[.bool a0_0, .int .u64 a0_1, .int .u64 a0_2] 60 (0, 0)) (by (with_reducible repeat (first | refine blk_drewN ?_ _ | refine blk_drew ?_ | refine blk_alloc ?_ _)); exact BK240.out)) : gb241 ≠ gb240)); clear BK240; clear HB; have BK240 := n0_; have HB := n1_; have BK241 := n2_; have GW241 := n3_; have GE241 := n4_; have NB240_241 := n5_; have NB241_240 := n6_; clear n0_ n1_ n2_ n3_ n4_ n5_ n6_; clear hb hbox hg; have hnb4 := NB240_241.out; have hnc4 := NB241_240.out; have hcz5_0 : w3.cell? ⟨gb240, 0, none⟩ = some (.bool a0_0) := (blk_cell BK240.out 0).trans rfl; have hcz5_1 : w3.cell? ⟨gb240, 1, none⟩ = some (.int .u64 a0_1) := (blk_cell BK240.out 1).trans rfl; have hcz5_2 : w3.cell? ⟨gb240, 2, none⟩ = some (.int .u64 a0_2) := (blk_cell BK240.out 2).trans rfl; have hfz5_0 := blk_frozen BK240.out 0; have hfz5_1 := blk_frozen BK240.out 1; have hfz5_2 := blk_frozen BK240.out 2; have hcz6_0 : w3.cell? ⟨gb241, 0, none⟩ = some (.bool false) := (blk_cell BK241.out 0).trans rfl; have hcz6_1 : w3.cell? ⟨gb241, 1, none⟩ = some (.int .u64 0) := (blk_cell BK241.out 1).trans rfl; have hcz6_2 : w3.cell? ⟨gb241, 2, none⟩ = some (.int .u64 0) := (blk_cell BK241.out 2).trans rfl; have hfz6_0 := blk_frozen BK241.out 0; have hfz6_1 := blk_frozen BK241.out 1; have hfz6_2 := blk_frozen BK241.out 2))
  refine bodyPost_ret (results_cell_row rfl _ _ gb241 60 #[.bool a0_0, .int .u64 (Go.bits .or .u64 (IntKind.u64.wrap (a0_2 * 4294967296)) (a0_1 / 4294967296)), .int .u64 (a0_2 / 4294967296)] (0, 0) _ rfl (by (with_reducible repeat (first | refine blk_drewN ?_ _ | refine blk_drew ?_ | refine blk_alloc ?_ _)); refine blk_put (cs := #[.bool a0_0, .int .u64 (Go.bits .or .u64 (IntKind.u64.wrap (a0_2 * 4294967296)) (a0_1 / 4294967296)), .int .u64 0]) ?_ 2 _ rfl; (with_reducible repeat (first | refine blk_drewN ?_ _ | refine blk_drew ?_ | refine blk_alloc ?_ _)); refine blk_put (cs := #[.bool a0_0, .int .u64 0, .int .u64 0]) ?_ 1 _ rfl; (with_reducible repeat (first | refine blk_drewN ?_ _ | refine blk_drew ?_ | refine blk_alloc ?_ _)); refine blk_put (cs := #[.bool false, .int .u64 0, .int .u64 0]) ?_ 0 _ rfl; (with_reducible repeat (first | refine blk_drewN ?_ _ | refine blk_drew ?_ | refine blk_alloc ?_ _)); refine blk_far ?_ NB241_240.out _; (with_reducible repeat (first | refine blk_drewN ?_ _ | refine blk_drew ?_ | refine blk_alloc ?_ _)); refine blk_far ?_ NB241_240.out _; (with_reducible repeat (first | refine blk_drewN ?_ _ | refine blk_drew ?_ | refine blk_alloc ?_ _)); exact BK241.out) Try.underlying60 rfl (by kernel_rfl)) rfl ?_
  exact ⟨by first | rfl | (simp [errW_none, errW_some] <;> rfl) | (simp [*, errW_none, errW_some] <;> rfl), by repeat (first | (with_reducible first | exact HB.out | apply below_alloc | apply pw_below_drewN | apply below_drew1 | refine below_set ?_ GE240.out | refine below_set ?_ GE241.out) | exact HB.out)⟩
end Go.Proofs.Ytenpiaafkmfjfaa.B

end
