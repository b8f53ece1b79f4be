/- FixedBack: part 3 of the proof. -/
import Derived.Test.YtenpiaafkmfjfaaQFixedBack2
import Derived.Shelf.Strings.Builder1
import Derived.Laws.AppendOwn
import Derived.Laws.CopyOwn
import Derived.RegionTactic
import Derived.Shelf.Bits.Mul64
import Derived.Laws.IdiomStrings
section
namespace Go.Proofs.Ytenpiaafkmfjfaa.B
open Go.RowKit Go.Proofs.YtenpiaafkmfjfaaW.PrintWords Go.Proofs.YtenpiaafkmfjfaaW.PrintLast Go.Proofs.YtenpiaafkmfjfaaW.PrintMore
attribute [local go_sem] max2_int min2_int max_two min_two max_three min_three max_four min_four
set_option linter.unusedVariables false
set_option linter.unusedSimpArgs false
attribute [local go_sem high] eqA58
def fixed_product.f (a0 : Int) (a1 : Int) : Option (Bool × Int × Int) := (fixed_of.f a0).bind fun bt143 => ((fixed_of.f a1).bind fun bt146 => ((bits_Mul64.f bt143.2.1 bt146.2.1).bind fun bt151 => (some ((bt143.1 != bt146.1), bt151.2, bt151.1))))
set_option maxHeartbeats 8000000 in
set_option maxRecDepth 100000 in
theorem fixed_product.calls (a0 : Int) (a1 : Int) (r1 : Bool) (r2 : Int) (r3 : Int) (w : World) (h : fixed_product.f a0 a1 = some (r1, r2, r3)) :
    Calls Try.prog 74 #[.int .i64 a0, .int .i64 a1] w fun e w' => e = .returned (.agg #[.bool r1, .int .u64 r2, .int .u64 r3]) ∧ Below w.heap.size w w' := by
  have hu60 := Try.underlying60
  have hu58 := Try.underlying58
  have HB := Aside0.mk (Below.refl w.heap.size w)
  have H : ((fixed_of.f a0).bind fun bt143 => ((fixed_of.f a1).bind fun bt146 => ((bits_Mul64.f bt143.2.1 bt146.2.1).bind fun bt151 => (some ((bt143.1 != bt146.1), bt151.2, bt151.1))))) = some (r1, r2, r3) := h
  clear h
  replace H := Option.bind_eq_some_iff.mp H
  obtain ⟨⟨t143, t144, t145⟩, A30, H⟩ := H
  replace H : ((fixed_of.f a1).bind fun bt146 => ((bits_Mul64.f t144 bt146.2.1).bind fun bt151 => (some ((t143 != bt146.1), bt151.2, bt151.1)))) = some (r1, r2, r3) := H
  have A3 := Aside0.mk A30
  clear A30
  replace H := Option.bind_eq_some_iff.mp H
  obtain ⟨⟨t146, t147, t148⟩, A40, H⟩ := H
  replace H : ((bits_Mul64.f t144 t147).bind fun bt151 => (some ((t143 != t146), bt151.2, bt151.1))) = some (r1, r2, r3) := H
  have A4 := Aside0.mk A40
  clear A40
  replace H := Option.bind_eq_some_iff.mp H
  obtain ⟨⟨t151, t152⟩, A50, H⟩ := H
  replace H : (some ((t143 != t146), t152, t151)) = some (r1, r2, r3) := H
  have A5 := Aside0.mk A50
  clear A50
  simp only [Option.some.injEq, Prod.mk.injEq] at H
  obtain ⟨rfl, rfl, rfl⟩ := H
  go_enter Try.func74, Try.ntmps74
  go_wp2_with (first | ((with_reducible refine gate_dst (N := 4) rfl ?_); refine box_event ?hg (N := 4) ?hd (cs := #[.bool false, .int .u64 0, .int .u64 0]) (t := 60) ?hr ?_; (case hd => rfl); (case hg => rfl); (case hr => first | (go_simp; done) | (go_simp; rfl)); intro gb142 hg w6 hbox hb; have n0_ := Aside0.mk (below_step (by repeat (first | (with_reducible first | exact HB.out | apply below_alloc | apply pw_below_drewN | apply below_drew1) | exact HB.out)) hb); have n1_ := Aside0.mk (hbox); have n2_ := Aside0.mk ((by rw [hg]; exact (below_size (by repeat (first | (with_reducible first | exact HB.out | apply below_alloc | apply pw_below_drewN | apply below_drew1) | exact HB.out))) : w.heap.size ≤ gb142)); have n3_ := Aside0.mk ((by rw [hg]; exact (below_size (by repeat (first | (with_reducible first | exact HB.out | apply below_alloc | apply pw_below_drewN | apply below_drew1) | exact HB.out))) : w.heap.size ≤ gb142)); clear HB; have HB := n0_; have BK142 := n1_; have GW142 := n2_; have GE142 := n3_; clear n0_ n1_ n2_ n3_; clear hb hbox hg) | ((with_reducible refine gate_callee (f := 82) rfl ?_); refine goesL_ (some 10) rfl rfl Try.func82 (by kernel_rfl) rfl #[.int .i64 a0] rfl (by (try simp only [List.map_toArray, List.map_cons, List.map_nil]); first | done | rfl | (simp only [List.length_drop, List.length_take]; rfl)) ?_; (with_reducible refine (fixed_of.calls a0 t143 t144 t145 _ A3.out).mono ?_); rintro e w7 ⟨rfl, hb⟩; refine ⟨_, rfl, ?_⟩; have n0_ := Aside0.mk (blk_below (g := gb142) (o := .cells #[.bool false, .int .u64 0, .int .u64 0] 60 (0, 0)) (by (with_reducible repeat (first | refine blk_drewN ?_ _ | refine blk_drew ?_ | refine blk_alloc ?_ _)); exact BK142.out) hb); have n1_ := Aside0.mk (below_step (by repeat (first | (with_reducible first | exact HB.out | apply below_alloc | apply pw_below_drewN | apply below_drew1 | refine below_set ?_ GE142.out) | exact HB.out)) hb); clear BK142; clear HB; have BK142 := n0_; have HB := n1_; clear n0_ n1_; (try clear hb); (try clear hb2); (try clear hk); (try clear hi)) | ((with_reducible refine gate_callee (f := 82) rfl ?_); refine goesL_ (some 12) rfl rfl Try.func82 (by kernel_rfl) rfl #[.int .i64 a1] rfl (by (try simp only [List.map_toArray, List.map_cons, List.map_nil]); first | done | rfl | (simp only [List.length_drop, List.length_take]; rfl)) ?_; (with_reducible refine (fixed_of.calls a1 t146 t147 t148 _ A4.out).mono ?_); rintro e w8 ⟨rfl, hb⟩; refine ⟨_, rfl, ?_⟩; have n0_ := Aside0.mk (blk_below (g := gb142) (o := .cells #[.bool false, .int .u64 0, .int .u64 0] 60 (0, 0)) (by (with_reducible repeat (first | refine blk_drewN ?_ _ | refine blk_drew ?_ | refine blk_alloc ?_ _)); exact BK142.out) hb); have n1_ := Aside0.mk (below_step (by repeat (first | (with_reducible first | exact HB.out | apply below_alloc | apply pw_below_drewN | apply below_drew1 | refine below_set ?_ GE142.out) | exact HB.out)) hb); clear BK142; clear HB; have BK142 := n0_; have HB := n1_; clear n0_ n1_; (try clear hb); (try clear hb2); (try clear hk); (try clear hi)) | ((with_reducible refine gate_dst (N := 5) rfl ?_); refine box_event ?hg (N := 5) ?hd (cs := #[.bool false, .int .u64 0, .int .u64 0]) (t := 60) ?hr ?_; (case hd => rfl); (case hg => rfl); (case hr => first | (go_simp; done) | (go_simp; rfl)); intro gb149 hg w9 hbox hb; have n0_ := Aside0.mk (blk_below (g := gb142) (o := .cells #[.bool false, .int .u64 0, .int .u64 0] 60 (0, 0)) (by (with_reducible repeat (first | refine blk_drewN ?_ _ | refine blk_drew ?_ | refine blk_alloc ?_ _)); exact BK142.out) hb); have n1_ := Aside0.mk (below_step (by repeat (first | (with_reducible first | exact HB.out | apply below_alloc | apply pw_below_drewN | apply below_drew1 | refine below_set ?_ GE142.out) | exact HB.out)) hb); have n2_ := Aside0.mk (hbox); have n3_ := Aside0.mk ((by rw [hg]; exact (below_size (by repeat (first | (with_reducible first | exact HB.out | apply below_alloc | apply pw_below_drewN | apply below_drew1 | refine below_set ?_ GE142.out) | exact HB.out))) : w.heap.size ≤ gb149)); have n4_ := Aside0.mk ((by rw [hg]; exact (below_size (by repeat (first | (with_reducible first | exact HB.out | apply below_alloc | apply pw_below_drewN | apply below_drew1 | refine below_set ?_ GE142.out) | exact HB.out))) : w.heap.size ≤ gb149)); have n5_ := Aside0.mk ((by rw [hg]; exact Nat.ne_of_lt (blk_lt (g := gb142) (o := .cells #[.bool false, .int .u64 0, .int .u64 0] 60 (0, 0)) (by (with_reducible repeat (first | refine blk_drewN ?_ _ | refine blk_drew ?_ | refine blk_alloc ?_ _)); exact BK142.out)) : gb142 ≠ gb149)); have n6_ := Aside0.mk ((by rw [hg]; exact Nat.ne_of_gt (blk_lt (g := gb142) (o := .cells #[.bool false, .int .u64 0, .int .u64 0] 60 (0, 0)) (by (with_reducible repeat (first | refine blk_drewN ?_ _ | refine blk_drew ?_ | refine blk_alloc ?_ _)); exact BK142.out)) : gb149 ≠ gb142)); clear BK142; clear HB; have BK142 := n0_; have HB := n1_; have BK149 := n2_; have GW149 := n3_; have GE149 := n4_; have NB142_149 := n5_; have NB149_142 := n6_; clear n0_ n1_ n2_ n3_ n4_ n5_ n6_; clear hb hbox hg) | ((with_reducible refine gate_dst (N := 6) rfl ?_); refine box_event ?hg (N := 6) ?hd (cs := #[.bool false, .int .u64 0, .int .u64 0]) (t := 60) ?hr ?_; (case hd => rfl); (case hg => rfl); (case hr => first | (go_simp; done) | (go_simp; rfl)); intro gb150 hg w10 hbox hb; have n0_ := Aside0.mk (blk_below (g := gb142) (o := .cells #[.bool false, .int .u64 0, .int .u64 0] 60 (0, 0)) (by (with_reducible repeat (first | refine blk_drewN ?_ _ | refine blk_drew ?_ | refine blk_alloc ?_ _)); exact BK142.out) hb); have n1_ := Aside0.mk (blk_below (g := gb149) (o := .cells #[.bool false, .int .u64 0, .int .u64 0] 60 (0, 0)) (by (with_reducible repeat (first | refine blk_drewN ?_ _ | refine blk_drew ?_ | refine blk_alloc ?_ _)); exact BK149.out) hb); have n2_ := Aside0.mk (below_step (by repeat (first | (with_reducible first | exact HB.out | apply below_alloc | apply pw_below_drewN | apply below_drew1 | refine below_set ?_ GE142.out | refine below_set ?_ GE149.out) | exact HB.out)) hb); have n3_ := Aside0.mk (hbox); have n4_ := Aside0.mk ((by rw [hg]; exact (below_size (by repeat (first | (with_reducible first | exact HB.out | apply below_alloc | apply pw_below_drewN | apply below_drew1 | refine below_set ?_ GE142.out | refine below_set ?_ GE149.out) | exact HB.out))) : w.heap.size ≤ gb150)); have n5_ := Aside0.mk ((by rw [hg]; exact (below_size (by repeat (first | (with_reducible first | exact HB.out | apply below_alloc | apply pw_below_drewN | apply below_drew1 | refine below_set ?_ GE142.out | refine below_set ?_ GE149.out) | exact HB.out))) : w.heap.size ≤ gb150)); have n6_ := Aside0.mk ((by rw [hg]; exact Nat.ne_of_lt (blk_lt (g := gb142) (o := .cells #[.bool false, .int .u64 0, .int .u64 0] 60 (0, 0)) (by (with_reducible repeat (first | refine blk_drewN ?_ _ | refine blk_drew ?_ | refine blk_alloc ?_ _)); exact BK142.out)) : gb142 ≠ gb150)); have n7_ := Aside0.mk ((by rw [hg]; exact Nat.ne_of_gt (blk_lt (g := gb142) (o := .cells #[.bool false, .int .u64 0, .int .u64 0] 60 (0, 0)) (by (with_reducible repeat (first | refine blk_drewN ?_ _ | refine blk_drew ?_ | refine blk_alloc ?_ _)); exact BK142.out)) : gb150 ≠ gb142)); have n8_ := Aside0.mk ((by rw [hg]; exact Nat.ne_of_lt (blk_lt (g := gb149) (o := .cells #[.bool false, .int .u64 0, .int .u64 0] 60 (0, 0)) (by (with_reducible repeat (first | refine blk_drewN ?_ _ | refine blk_drew ?_ | refine blk_alloc ?_ _)); exact BK149.out)) : gb149 ≠ gb150)); have n9_ := Aside0.mk ((by rw [hg]; exact Nat.ne_of_gt (blk_lt (g := gb149) (o := .cells #[.bool false, .int .u64 0, .int .u64 0] 60 (0, 0)) (by (with_reducible repeat (first | refine blk_drewN ?_ _ | refine blk_drew ?_ | refine blk_alloc ?_ _)); exact BK149.out)) : gb150 ≠ gb149)); clear BK142; clear BK149; clear HB; have BK142 := n0_; have BK149 := n1_; have HB := n2_; have BK150 := n3_; have GW150 := n4_; have GE150 := n5_; have NB142_150 := n6_; have NB150_142 := n7_; have NB149_150 := n8_; have NB150_149 := n9_; clear n0_ n1_ n2_ n3_ n4_ n5_ n6_ n7_ n8_ n9_; clear hb hbox hg; have hnb11 := NB149_142.out; have hnc11 := NB142_149.out; have hnb12 := NB149_150.out; have hnc12 := NB150_149.out; have hcz13_0 : w10.cell? ⟨gb149, 0, none⟩ = some (.bool false) := (blk_cell BK149.out 0).trans rfl; have hcz13_1 : w10.cell? ⟨gb149, 1, none⟩ = some (.int .u64 0) := (blk_cell BK149.out 1).trans rfl; have hcz13_2 : w10.cell? ⟨gb149, 2, none⟩ = some (.int .u64 0) := (blk_cell BK149.out 2).trans rfl; have hfz13_0 := blk_frozen BK149.out 0; have hfz13_1 := blk_frozen BK149.out 1; have hfz13_2 := blk_frozen BK149.out 2; have hnb14 := NB150_142.out; have hnc14 := NB142_150.out; have hcz15_0 : w10.cell? ⟨gb150, 0, none⟩ = some (.bool false) := (blk_cell BK150.out 0).trans rfl; have hcz15_1 : w10.cell? ⟨gb150, 1, none⟩ = some (.int .u64 0) := (blk_cell BK150.out 1).trans rfl; have hcz15_2 : w10.cell? ⟨gb150, 2, none⟩ = some (.int .u64 0) := (blk_cell BK150.out 2).trans rfl; have hfz15_0 := blk_frozen BK150.out 0; have hfz15_1 := blk_frozen BK150.out 1; have hfz15_2 := blk_frozen BK150.out 2) | ((with_reducible refine gate_callee (f := 107) rfl ?_); refine goesL_ (some 20) rfl rfl Try.func107 (by kernel_rfl) rfl #[.int .u64 t144, .int .u64 t147] rfl (by (try simp only [List.map_toArray, List.map_cons, List.map_nil]); first | done | rfl | (simp only [List.length_drop, List.length_take]; rfl)) ?_; (with_reducible refine (bits_Mul64.calls t144 t147 t151 t152 _ A5.out).mono ?_); rintro e w' ⟨rfl, ⟨nd, rfl⟩⟩; refine ⟨_, rfl, ?_⟩; have hcz16_0 : w10.cell? ⟨gb142, 0, none⟩ = some (.bool false) := (blk_cell BK142.out 0).trans rfl; have hcz16_1 : w10.cell? ⟨gb142, 1, none⟩ = some (.int .u64 0) := (blk_cell BK142.out 1).trans rfl; have hcz16_2 : w10.cell? ⟨gb142, 2, none⟩ = some (.int .u64 0) := (blk_cell BK142.out 2).trans rfl; have hfz16_0 := blk_frozen BK142.out 0; have hfz16_1 := blk_frozen BK142.out 1; have hfz16_2 := blk_frozen BK142.out 2))
  refine bodyPost_ret (results_cell_row rfl _ _ gb142 60 #[.bool (t143 != t146), .int .u64 t152, .int .u64 t151] (0, 0) _ rfl (by (with_reducible repeat (first | refine blk_drewN ?_ _ | refine blk_drew ?_ | refine blk_alloc ?_ _)); refine blk_put (cs := #[.bool (t143 != t146), .int .u64 t152, .int .u64 0]) ?_ 2 _ rfl; (with_reducible repeat (first | refine blk_drewN ?_ _ | refine blk_drew ?_ | refine blk_alloc ?_ _)); refine blk_put (cs := #[.bool (t143 != t146), .int .u64 0, .int .u64 0]) ?_ 1 _ rfl; (with_reducible repeat (first | refine blk_drewN ?_ _ | refine blk_drew ?_ | refine blk_alloc ?_ _)); refine blk_put (cs := #[.bool false, .int .u64 0, .int .u64 0]) ?_ 0 _ rfl; (with_reducible repeat (first | refine blk_drewN ?_ _ | refine blk_drew ?_ | refine blk_alloc ?_ _)); refine blk_far ?_ NB142_150.out _; (with_reducible repeat (first | refine blk_drewN ?_ _ | refine blk_drew ?_ | refine blk_alloc ?_ _)); refine blk_far ?_ NB142_150.out _; (with_reducible repeat (first | refine blk_drewN ?_ _ | refine blk_drew ?_ | refine blk_alloc ?_ _)); refine blk_far ?_ NB142_150.out _; (with_reducible repeat (first | refine blk_drewN ?_ _ | refine blk_drew ?_ | refine blk_alloc ?_ _)); refine blk_far ?_ NB142_149.out _; (with_reducible repeat (first | refine blk_drewN ?_ _ | refine blk_drew ?_ | refine blk_alloc ?_ _)); refine blk_far ?_ NB142_149.out _; (with_reducible repeat (first | refine blk_drewN ?_ _ | refine blk_drew ?_ | refine blk_alloc ?_ _)); refine blk_far ?_ NB142_149.out _; (with_reducible repeat (first | refine blk_drewN ?_ _ | refine blk_drew ?_ | refine blk_alloc ?_ _)); exact BK142.out) Try.underlying60 rfl (by kernel_rfl)) rfl ?_
  exact ⟨by first | rfl | (simp [errW_none, errW_some] <;> rfl) | (simp [*, errW_none, errW_some] <;> rfl), by repeat (first | (with_reducible first | exact HB.out | apply below_alloc | apply pw_below_drewN | apply below_drew1 | refine below_set ?_ GE142.out | refine below_set ?_ GE149.out | refine below_set ?_ GE150.out) | exact HB.out)⟩
def cmp_Or_int.l0 : Nat → Int → List Int → Int → Int → Option (Int)
  | 0, _, _, _, _ => none
  | k + 1, x3, x6, x7, x8 => if x8 < x7 then (if 0 ≤ x8 then (if x8 < (x6.length : Int) then (if (rd x6 x8) = x3 then (cmp_Or_int.l0 k x3 x6 x7 (wrap64 (x8 + 1))) else (some (rd x6 x8))) else (none)) else (none)) else (some x3)
def cmp_Or_int.f (k : Nat) (l0 : List Int) : Option (Int) := cmp_Or_int.l0 k 0 l0 (l0.length : Int) 0
set_option maxHeartbeats 8000000 in
set_option maxRecDepth 100000 in
theorem cmp_Or_int.calls (k : Nat) (A0 : Option Addr) (c0 : Nat) (l0 : List Int) (r : Int) (w : World) (hr0 : Kd.C (Kd.int .i64) w A0 l0.length l0) (hc0 : l0.length ≤ c0) (h : cmp_Or_int.f k l0 = some r) :
    Calls Try.prog 117 #[.slice A0 l0.length c0] w fun e w' => e = .returned (.int .i64 r) ∧ Drawn0 w w' := by
  have HR0 := Aside0.mk hr0
  have HC0 := Aside0.mk hc0
  clear hr0 hc0
  have H : (cmp_Or_int.l0 k 0 l0 (l0.length : Int) 0) = some r := h
  clear h
  have H' := Aside0.mk H
  clear H
  go_enter Try.func117, Try.ntmps117
  go_wp2
  go_loopg [8] k (fun kq v8 w' => ∃ (x8_1 : Int), v8 = .int .i64 x8_1 ∧ Aside0 (cmp_Or_int.l0 kq 0 l0 (l0.length : Int) x8_1 = some r) ∧ Aside0 (kq ≤ k) ∧ Drawn0 w w')
  case atStart => exact ⟨(0), (by first | rfl | (simp; done) | (simp [*]; done)), H', ⟨Nat.le_refl _⟩, by repeat (first | exact Drawn0.refl _ | apply Drawn0.step)⟩
  case round =>
    clear H'
    try clear c1
    obtain ⟨x8_1, rfl, HA, HK1, ⟨m1, rfl⟩⟩ := hrel
    cases gk with
    | zero => exact absurd HA.out (by simp [cmp_Or_int.l0])
    | succ k1 =>
      have H := HA.out
      clear HA
      simp only [cmp_Or_int.l0] at H
      by_cases c2 : x8_1 < (l0.length : Int)
      · rw [if_pos c2] at H
        have c2b0 : decide (x8_1 < (l0.length : Int)) = true := decide_eq_true c2
        clear c2
        by_cases c3 : 0 ≤ x8_1
        · rw [if_pos c3] at H
          have c3b0 : decide (0 ≤ x8_1) = true := decide_eq_true c3
          clear c3
          by_cases c4 : x8_1 < (l0.length : Int)
          · rw [if_pos c4] at H
            have c4b0 : decide (x8_1 < (l0.length : Int)) = true := decide_eq_true c4
            clear c4
            by_cases c5 : (rd l0 x8_1) = 0
            · rw [if_pos c5] at H
              have c5b0 : ((rd l0 x8_1) == 0) = true := beq_iff_eq.mpr c5
              have c5b1 : ((rd l0 x8_1) != 0) = false := bne_eq_false_iff_eq.mpr c5
              clear c5
              have H' := Aside0.mk H
              clear H
              have p153 : 0 ≤ (x8_1 : Int) := of_decide_eq_true (by first | (with_reducible assumption) | assumption)
              have q153 : x8_1 < (l0.length : Int) := of_decide_eq_true (by first | (with_reducible assumption) | assumption)
              obtain ⟨ad153, e153, hx153_0⟩ := Kd.at_int HR0.out x8_1 p153 q153
              cases e153
              replace p153 := eq_true p153
              replace q153 := eq_true q153
              go_wp2
              go_roundg k1
              case measure => have := HK1.out; omega
              case rel => exact ⟨(wrap64 (x8_1 + 1)), (by first | rfl | (simp; done) | (simp [*]; done)), H', ⟨by have := HK1.out; omega⟩, by repeat (first | exact Drawn0.refl _ | apply Drawn0.step)⟩
            · rw [if_neg c5] at H
              have c5b0 : ((rd l0 x8_1) == 0) = false := beq_eq_false_iff_ne.mpr c5
              have c5b1 : ((rd l0 x8_1) != 0) = true := bne_iff_ne.mpr c5
              obtain rfl := Option.some.inj H
              have p153 : 0 ≤ (x8_1 : Int) := of_decide_eq_true (by first | (with_reducible assumption) | assumption)
              have q153 : x8_1 < (l0.length : Int) := of_decide_eq_true (by first | (with_reducible assumption) | assumption)
              obtain ⟨ad153, e153, hx153_0⟩ := Kd.at_int HR0.out x8_1 p153 q153
              cases e153
              replace p153 := eq_true p153
              replace q153 := eq_true q153
              go_wp2
              go_ret
              exact ⟨by first | rfl | (simp; done) | (simp [*]; done), by repeat (first | exact Drawn0.refl _ | apply Drawn0.step)⟩
          · rw [if_neg c4] at H
            exact absurd H (by simp)
        · rw [if_neg c3] at H
          exact absurd H (by simp)
      · rw [if_neg c2] at H
        have c2b0 : decide (x8_1 < (l0.length : Int)) = false := decide_eq_false c2
        clear c2
        obtain rfl := Option.some.inj H
        go_wp2
        go_ret
        exact ⟨by first | rfl | (simp; done) | (simp [*]; done), by repeat (first | exact Drawn0.refl _ | apply Drawn0.step)⟩
def cmp_isNaN_uint64.f (a0 : Int) : Option (Bool) := some (a0 != a0)
set_option maxHeartbeats 8000000 in
set_option maxRecDepth 100000 in
theorem cmp_isNaN_uint64.calls (a0 : Int) (r : Bool) (w : World) (h : cmp_isNaN_uint64.f a0 = some r) :
    Calls Try.prog 121 #[.int .u64 a0] w fun e w' => e = .returned (.bool r) ∧ Drawn0 w w' := by
  have H : (some (a0 != a0)) = some r := h
  clear h
  obtain rfl := Option.some.inj H
  go_enter Try.func121, Try.ntmps121
  go_wp2
  go_ret
  exact ⟨by first | rfl | (simp; done) | (simp [*]; done), by repeat (first | exact Drawn0.refl _ | apply Drawn0.step)⟩
def cmp_Compare_uint64.f (a0 : Int) (a1 : Int) : Option (Int) := (cmp_isNaN_uint64.f a0).bind fun t154 => ((cmp_isNaN_uint64.f a1).bind fun t155 => (if t154 = true then (if t155 = true then (some 0) else (some (-1))) else (if t155 = true then (some 1) else (if a0 < a1 then (some (-1)) else (if a0 > a1 then (some 1) else (some 0))))))
set_option maxHeartbeats 8000000 in
set_option maxRecDepth 100000 in
theorem cmp_Compare_uint64.calls (a0 : Int) (a1 : Int) (r : Int) (w : World) (h : cmp_Compare_uint64.f a0 a1 = some r) :
    Calls Try.prog 118 #[.int .u64 a0, .int .u64 a1] w fun e w' => e = .returned (.int .i64 r) ∧ Drawn0 w w' := by
  have H : ((cmp_isNaN_uint64.f a0).bind fun t154 => ((cmp_isNaN_uint64.f a1).bind fun t155 => (if t154 = true then (if t155 = true then (some 0) else (some (-1))) else (if t155 = true then (some 1) else (if a0 < a1 then (some (-1)) else (if a0 > a1 then (some 1) else (some 0))))))) = some r := h
  clear h
  replace H := Option.bind_eq_some_iff.mp H
  obtain ⟨t154, A30, H⟩ := H
  replace H : ((cmp_isNaN_uint64.f a1).bind fun t155 => (if t154 = true then (if t155 = true then (some 0) else (some (-1))) else (if t155 = true then (some 1) else (if a0 < a1 then (some (-1)) else (if a0 > a1 then (some 1) else (some 0)))))) = some r := H
  have A3 := Aside0.mk A30
  clear A30
  replace H := Option.bind_eq_some_iff.mp H
  obtain ⟨t155, A40, H⟩ := H
  replace H : (if t154 = true then (if t155 = true then (some 0) else (some (-1))) else (if t155 = true then (some 1) else (if a0 < a1 then (some (-1)) else (if a0 > a1 then (some 1) else (some 0))))) = some r := H
  have A4 := Aside0.mk A40
  clear A40
  by_cases c5 : t154 = true
  · subst c5
    have H1 : (if t155 = true then (some 0) else (some (-1))) = some r := by rw [if_pos rfl] at H; exact H
    clear H
    have H := H1
    clear H1
    by_cases c6 : t155 = true
    · subst c6
      have H1 : (some 0) = some r := by rw [if_pos rfl] at H; exact H
      clear H
      have H := H1
      clear H1
      obtain rfl := Option.some.inj H
      go_enter Try.func118, Try.ntmps118
      go_wp2_with (first | ((with_reducible refine gate_callee (f := 121) rfl ?_); refine goesL_ (some 8) rfl rfl Try.func121 (by kernel_rfl) rfl #[.int .u64 a0] rfl (by (try simp only [List.map_toArray, List.map_cons, List.map_nil]); first | done | rfl | (simp only [List.length_drop, List.length_take]; rfl)) ?_; (with_reducible refine (cmp_isNaN_uint64.calls a0 true _ A3.out).mono ?_); rintro e w' ⟨rfl, ⟨nd, rfl⟩⟩; refine ⟨_, rfl, ?_⟩) | ((with_reducible refine gate_callee (f := 121) rfl ?_); refine goesL_ (some 10) rfl rfl Try.func121 (by kernel_rfl) rfl #[.int .u64 a1] rfl (by (try simp only [List.map_toArray, List.map_cons, List.map_nil]); first | done | rfl | (simp only [List.length_drop, List.length_take]; rfl)) ?_; (with_reducible refine (cmp_isNaN_uint64.calls a1 true _ A4.out).mono ?_); rintro e w' ⟨rfl, ⟨nd, rfl⟩⟩; refine ⟨_, rfl, ?_⟩))
      go_ret
      exact ⟨by first | rfl | (simp; done) | (simp [*]; done), by repeat (first | exact Drawn0.refl _ | apply Drawn0.step)⟩
    · replace c6 := Bool.eq_false_iff.mpr c6
      subst c6
      have H1 : (some (-1)) = some r := by rw [if_neg (show ¬ (false = true) by decide)] at H; exact H
      clear H
      have H := H1
      clear H1
      obtain rfl := Option.some.inj H
      go_enter Try.func118, Try.ntmps118
      go_wp2_with (first | ((with_reducible refine gate_callee (f := 121) rfl ?_); refine goesL_ (some 8) rfl rfl Try.func121 (by kernel_rfl) rfl #[.int .u64 a0] rfl (by (try simp only [List.map_toArray, List.map_cons, List.map_nil]); first | done | rfl | (simp only [List.length_drop, List.length_take]; rfl)) ?_; (with_reducible refine (cmp_isNaN_uint64.calls a0 true _ A3.out).mono ?_); rintro e w' ⟨rfl, ⟨nd, rfl⟩⟩; refine ⟨_, rfl, ?_⟩) | ((with_reducible refine gate_callee (f := 121) rfl ?_); refine goesL_ (some 10) rfl rfl Try.func121 (by kernel_rfl) rfl #[.int .u64 a1] rfl (by (try simp only [List.map_toArray, List.map_cons, List.map_nil]); first | done | rfl | (simp only [List.length_drop, List.length_take]; rfl)) ?_; (with_reducible refine (cmp_isNaN_uint64.calls a1 false _ A4.out).mono ?_); rintro e w' ⟨rfl, ⟨nd, rfl⟩⟩; refine ⟨_, rfl, ?_⟩))
      go_ret
      exact ⟨by first | rfl | (simp; done) | (simp [*]; done), by repeat (first | exact Drawn0.refl _ | apply Drawn0.step)⟩
  · replace c5 := Bool.eq_false_iff.mpr c5
    subst c5
    have H1 : (if t155 = true then (some 1) else (if a0 < a1 then (some (-1)) else (if a0 > a1 then (some 1) else (some 0)))) = some r := by rw [if_neg (show ¬ (false = true) by decide)] at H; exact H
    clear H
    have H := H1
    clear H1
    by_cases c7 : t155 = true
    · subst c7
      have H1 : (some 1) = some r := by rw [if_pos rfl] at H; exact H
      clear H
      have H := H1
      clear H1
      obtain rfl := Option.some.inj H
      go_enter Try.func118, Try.ntmps118
      go_wp2_with (first | ((with_reducible refine gate_callee (f := 121) rfl ?_); refine goesL_ (some 8) rfl rfl Try.func121 (by kernel_rfl) rfl #[.int .u64 a0] rfl (by (try simp only [List.map_toArray, List.map_cons, List.map_nil]); first | done | rfl | (simp only [List.length_drop, List.length_take]; rfl)) ?_; (with_reducible refine (cmp_isNaN_uint64.calls a0 false _ A3.out).mono ?_); rintro e w' ⟨rfl, ⟨nd, rfl⟩⟩; refine ⟨_, rfl, ?_⟩) | ((with_reducible refine gate_callee (f := 121) rfl ?_); refine goesL_ (some 10) rfl rfl Try.func121 (by kernel_rfl) rfl #[.int .u64 a1] rfl (by (try simp only [List.map_toArray, List.map_cons, List.map_nil]); first | done | rfl | (simp only [List.length_drop, List.length_take]; rfl)) ?_; (with_reducible refine (cmp_isNaN_uint64.calls a1 true _ A4.out).mono ?_); rintro e w' ⟨rfl, ⟨nd, rfl⟩⟩; refine ⟨_, rfl, ?_⟩))
      go_ret
      exact ⟨by first | rfl | (simp; done) | (simp [*]; done), by repeat (first | exact Drawn0.refl _ | apply Drawn0.step)⟩
    · replace c7 := Bool.eq_false_iff.mpr c7
      subst c7
      have H1 : (if a0 < a1 then (some (-1)) else (if a0 > a1 then (some 1) else (some 0))) = some r := by rw [if_neg (show ¬ (false = true) by decide)] at H; exact H
      clear H
      have H := H1
      clear H1
      by_cases c8 : a0 < a1
      · rw [if_pos c8] at H
        have c8b0 : decide (a0 < a1) = true := decide_eq_true c8
        clear c8
        obtain rfl := Option.some.inj H
        go_enter Try.func118, Try.ntmps118
        go_wp2_with (first | ((with_reducible refine gate_callee (f := 121) rfl ?_); refine goesL_ (some 8) rfl rfl Try.func121 (by kernel_rfl) rfl #[.int .u64 a0] rfl (by (try simp only [List.map_toArray, List.map_cons, List.map_nil]); first | done | rfl | (simp only [List.length_drop, List.length_take]; rfl)) ?_; (with_reducible refine (cmp_isNaN_uint64.calls a0 false _ A3.out).mono ?_); rintro e w' ⟨rfl, ⟨nd, rfl⟩⟩; refine ⟨_, rfl, ?_⟩) | ((with_reducible refine gate_callee (f := 121) rfl ?_); refine goesL_ (some 10) rfl rfl Try.func121 (by kernel_rfl) rfl #[.int .u64 a1] rfl (by (try simp only [List.map_toArray, List.map_cons, List.map_nil]); first | done | rfl | (simp only [List.length_drop, List.length_take]; rfl)) ?_; (with_reducible refine (cmp_isNaN_uint64.calls a1 false _ A4.out).mono ?_); rintro e w' ⟨rfl, ⟨nd, rfl⟩⟩; refine ⟨_, rfl, ?_⟩))
        go_ret
        exact ⟨by first | rfl | (simp; done) | (simp [*]; done), by repeat (first | exact Drawn0.refl _ | apply Drawn0.step)⟩
      · rw [if_neg c8] at H
        have c8b0 : decide (a0 < a1) = false := decide_eq_false c8
        clear c8
        by_cases c9 : a0 > a1
        · rw [if_pos c9] at H
          have c9b0 : decide (a1 < a0) = true := decide_eq_true c9
          clear c9
          obtain rfl := Option.some.inj H
          go_enter Try.func118, Try.ntmps118
          go_wp2_with (first | ((with_reducible refine gate_callee (f := 121) rfl ?_); refine goesL_ (some 8) rfl rfl Try.func121 (by kernel_rfl) rfl #[.int .u64 a0] rfl (by (try simp only [List.map_toArray, List.map_cons, List.map_nil]); first | done | rfl | (simp only [List.length_drop, List.length_take]; rfl)) ?_; (with_reducible refine (cmp_isNaN_uint64.calls a0 false _ A3.out).mono ?_); rintro e w' ⟨rfl, ⟨nd, rfl⟩⟩; refine ⟨_, rfl, ?_⟩) | ((with_reducible refine gate_callee (f := 121) rfl ?_); refine goesL_ (some 10) rfl rfl Try.func121 (by kernel_rfl) rfl #[.int .u64 a1] rfl (by (try simp only [List.map_toArray, List.map_cons, List.map_nil]); first | done | rfl | (simp only [List.length_drop, List.length_take]; rfl)) ?_; (with_reducible refine (cmp_isNaN_uint64.calls a1 false _ A4.out).mono ?_); rintro e w' ⟨rfl, ⟨nd, rfl⟩⟩; refine ⟨_, rfl, ?_⟩))
          go_ret
          exact ⟨by first | rfl | (simp; done) | (simp [*]; done), by repeat (first | exact Drawn0.refl _ | apply Drawn0.step)⟩
        · rw [if_neg c9] at H
          have c9b0 : decide (a1 < a0) = false := decide_eq_false c9
          clear c9
          obtain rfl := Option.some.inj H
          go_enter Try.func118, Try.ntmps118
          go_wp2_with (first | ((with_reducible refine gate_callee (f := 121) rfl ?_); refine goesL_ (some 8) rfl rfl Try.func121 (by kernel_rfl) rfl #[.int .u64 a0] rfl (by (try simp only [List.map_toArray, List.map_cons, List.map_nil]); first | done | rfl | (simp only [List.length_drop, List.length_take]; rfl)) ?_; (with_reducible refine (cmp_isNaN_uint64.calls a0 false _ A3.out).mono ?_); rintro e w' ⟨rfl, ⟨nd, rfl⟩⟩; refine ⟨_, rfl, ?_⟩) | ((with_reducible refine gate_callee (f := 121) rfl ?_); refine goesL_ (some 10) rfl rfl Try.func121 (by kernel_rfl) rfl #[.int .u64 a1] rfl (by (try simp only [List.map_toArray, List.map_cons, List.map_nil]); first | done | rfl | (simp only [List.length_drop, List.length_take]; rfl)) ?_; (with_reducible refine (cmp_isNaN_uint64.calls a1 false _ A4.out).mono ?_); rintro e w' ⟨rfl, ⟨nd, rfl⟩⟩; refine ⟨_, rfl, ?_⟩))
          go_ret
          exact ⟨by first | rfl | (simp; done) | (simp [*]; done), by repeat (first | exact Drawn0.refl _ | apply Drawn0.step)⟩
def fixed_words_compare.f (k : Nat) (a0_0 : Int) (a0_1 : Int) (a1_0 : Int) (a1_1 : Int) : Option (Int) := (cmp_Compare_uint64.f a0_1 a1_1).bind fun t158 => ((cmp_Compare_uint64.f a0_0 a1_0).bind fun t159 => ((cmp_Or_int.f k (([t158, t159] : List Int))).bind fun t163 => (some t163)))
def fixed_words_compare.T1 : Bool × List (List Nat × List Nat) := (true, [([], []), ([0], [0]), ([], []), ([2], [2]), ([1, 3], [1, 3]), ([], []), ([5], [5]), ([], []), ([7], [7]), ([6, 8, 4], [6, 8]), ([4, 9], [4, 9]), ([10, 9], [10]), ([11, 11, 0, 1, 2, 3, 4, 5, 6, 7, 8, 9, 10, 11], [11])])
def fixed_words_compare.B1 : List Nat := [0, 1, 0, 4, 15, 0, 32, 0, 128, 511, 1023, 2047, 4095]
theorem fixed_words_compare.tab1 : rtab .any (opsOf Try.f109 1) = fixed_words_compare.T1 := by kernel_rfl
theorem fixed_words_compare.bits1 : waitsOk fixed_words_compare.T1.2 fixed_words_compare.B1 = true := by kernel_rfl
set_option maxHeartbeats 8000000 in
set_option maxRecDepth 100000 in
theorem fixed_words_compare.calls (k : Nat) (a0_0 : Int) (a0_1 : Int) (a1_0 : Int) (a1_1 : Int) (r : Int) (w : World) (h : fixed_words_compare.f k a0_0 a0_1 a1_0 a1_1 = some r) :
    Calls Try.prog 109 #[.agg #[.int .u64 a0_0, .int .u64 a0_1], .agg #[.int .u64 a1_0, .int .u64 a1_1]] w fun e w' => e = .returned (.int .i64 r) ∧ Below w.heap.size w w' := by
  have hu58 := Try.underlying58
  have HB := Aside0.mk (Below.refl w.heap.size w)
  have H : ((cmp_Compare_uint64.f a0_1 a1_1).bind fun t158 => ((cmp_Compare_uint64.f a0_0 a1_0).bind fun t159 => ((cmp_Or_int.f k (([t158, t159] : List Int))).bind fun t163 => (some t163)))) = some r := h
  clear h
  replace H := Option.bind_eq_some_iff.mp H
  obtain ⟨t158, A30, H⟩ := H
  replace H : ((cmp_Compare_uint64.f a0_0 a1_0).bind fun t159 => ((cmp_Or_int.f k (([t158, t159] : List Int))).bind fun t163 => (some t163))) = some r := H
  have A3 := Aside0.mk A30
  clear A30
  replace H := Option.bind_eq_some_iff.mp H
  obtain ⟨t159, A40, H⟩ := H
  replace H : ((cmp_Or_int.f k (([t158, t159] : List Int))).bind fun t163 => (some t163)) = some r := H
  have A4 := Aside0.mk A40
  clear A40
  obtain ⟨y160, hy160⟩ : ∃ y_ : List Int, y_ = (([t158, t159] : List Int)) := ⟨_, rfl⟩
  replace H : ((cmp_Or_int.f k y160).bind fun t163 => (some t163)) = some r := by first | (rw [hy160]; with_reducible exact H) | (have H2_ := (Option.bind_some _ _).symm.trans H; rw [hy160]; with_reducible exact H2_) | (have H2_ := (Option.bind_some _ _).symm.trans H; with_reducible exact H2_) | with_reducible exact H | (rw [hy160]; exact H) | exact H
  have Ny160 := Aside0.mk hy160
  clear hy160
  replace H := Option.bind_eq_some_iff.mp H
  obtain ⟨t163, A50, H⟩ := H
  replace H : (some t163) = some r := H
  have A5 := Aside0.mk A50
  clear A50
  obtain rfl := Option.some.inj H
  go_enter Try.func109, Try.ntmps109
  try go_wp2_with (first | ((with_reducible refine gate_dst (N := 2) rfl ?_); refine box_event ?hg (N := 2) ?hd (cs := #[.int .u64 a0_0, .int .u64 a0_1]) (t := 58) ?hr ?_; (case hd => rfl); (case hg => rfl); (case hr => first | (go_simp; done) | (go_simp; rfl)); intro gb156 hg w6 hbox hb; have n0_ := Aside0.mk (below_step (by repeat (first | (with_reducible first | exact HB.out | apply below_alloc | apply pw_below_drewN | apply below_drew1) | exact HB.out)) hb); have n1_ := Aside0.mk (hbox); have n2_ := Aside0.mk ((by rw [hg]; exact (below_size (by repeat (first | (with_reducible first | exact HB.out | apply below_alloc | apply pw_below_drewN | apply below_drew1) | exact HB.out))) : w.heap.size ≤ gb156)); have n3_ := Aside0.mk ((by rw [hg]; exact (below_size (by repeat (first | (with_reducible first | exact HB.out | apply below_alloc | apply pw_below_drewN | apply below_drew1) | exact HB.out))) : w.heap.size ≤ gb156)); clear HB; have HB := n0_; have BK156 := n1_; have GW156 := n2_; have GE156 := n3_; clear n0_ n1_ n2_ n3_; clear hb hbox hg) | ((with_reducible refine gate_dst (N := 3) rfl ?_); refine box_event ?hg (N := 3) ?hd (cs := #[.int .u64 a1_0, .int .u64 a1_1]) (t := 58) ?hr ?_; (case hd => rfl); (case hg => rfl); (case hr => first | (go_simp; done) | (go_simp; rfl)); intro gb157 hg w7 hbox hb; have n0_ := Aside0.mk (blk_below (g := gb156) (o := .cells #[.int .u64 a0_0, .int .u64 a0_1] 58 (0, 0)) (by (with_reducible repeat (first | refine blk_drewN ?_ _ | refine blk_drew ?_ | refine blk_alloc ?_ _)); exact BK156.out) hb); have n1_ := Aside0.mk (below_step (by repeat (first | (with_reducible first | exact HB.out | apply below_alloc | apply pw_below_drewN | apply below_drew1 | refine below_set ?_ GE156.out) | exact HB.out)) hb); have n2_ := Aside0.mk (hbox); have n3_ := Aside0.mk ((by rw [hg]; exact (below_size (by repeat (first | (with_reducible first | exact HB.out | apply below_alloc | apply pw_below_drewN | apply below_drew1 | refine below_set ?_ GE156.out) | exact HB.out))) : w.heap.size ≤ gb157)); have n4_ := Aside0.mk ((by rw [hg]; exact (below_size (by repeat (first | (with_reducible first | exact HB.out | apply below_alloc | apply pw_below_drewN | apply below_drew1 | refine below_set ?_ GE156.out) | exact HB.out))) : w.heap.size ≤ gb157)); have n5_ := Aside0.mk ((by rw [hg]; exact Nat.ne_of_lt (blk_lt (g := gb156) (o := .cells #[.int .u64 a0_0, .int .u64 a0_1] 58 (0, 0)) (by (with_reducible repeat (first | refine blk_drewN ?_ _ | refine blk_drew ?_ | refine blk_alloc ?_ _)); exact BK156.out)) : gb156 ≠ gb157)); have n6_ := Aside0.mk ((by rw [hg]; exact Nat.ne_of_gt (blk_lt (g := gb156) (o := .cells #[.int .u64 a0_0, .int .u64 a0_1] 58 (0, 0)) (by (with_reducible repeat (first | refine blk_drewN ?_ _ | refine blk_drew ?_ | refine blk_alloc ?_ _)); exact BK156.out)) : gb157 ≠ gb156)); clear BK156; clear HB; have BK156 := n0_; have HB := n1_; have BK157 := n2_; have GW157 := n3_; have GE157 := n4_; have NB156_157 := n5_; have NB157_156 := n6_; clear n0_ n1_ n2_ n3_ n4_ n5_ n6_; clear hb hbox hg))
  have n0_ := Aside0.mk (blk_drew BK156.out)
  have n1_ := Aside0.mk (blk_drew BK157.out)
  have n2_ := Aside0.mk (below_drew1 HB.out)
  clear BK156
  clear BK157
  clear HB
  have BK156 := n0_
  have BK157 := n1_
  have HB := n2_
  clear n0_ n1_ n2_
  refine start_ (n := 13) (S := fun w' => w'.cell? ⟨gb156, 0, none⟩ = some (.int .u64 a0_0) ∧ w'.cell? ⟨gb156, 1, none⟩ = some (.int .u64 a0_1) ∧ w'.cell? ⟨gb157, 0, none⟩ = some (.int .u64 a1_0) ∧ w'.cell? ⟨gb157, 1, none⟩ = some (.int .u64 a1_1)) (ds := []) #[false, false, false, false, false, false, false, false, false, false, false, false, false] (by kernel_rfl) rfl rfl ⟨(blk_cell BK156.out 0).trans rfl, (blk_cell BK156.out 1).trans rfl, (blk_cell BK157.out 0).trans rfl, (blk_cell BK157.out 1).trans rfl⟩ (fun hHeld => ?_); refine with_tabW fixed_words_compare.tab1 fixed_words_compare.bits1 (fun HT_ HW_ => ?_)
  generalize w7.drew = w8 at BK156 BK157 HB hHeld ⊢
  refine pure_ (i := 0) (N := some 5) (v := ?_) (a' := ?_) #[true, false, false, false, false, false, false, false, false, false, false, false, false] rfl rfl (any_of HT_.out (by kernel_rfl)) (fun _ _ _ h => h) (Or.inl ⟨by rfl, ?_⟩) ?_ ?_
  rotate_left
  · intro w'
    go_simp
    with_reducible rfl
  rotate_left
  · simp only [Act.put, List.setIfInBounds_toArray, List.set_cons_zero, List.set_cons_succ, i64_w, i32_w]
    rfl
  refine pure_ (i := 2) (N := some 7) (v := ?_) (a' := ?_) #[true, false, true, false, false, false, false, false, false, false, false, false, false] rfl rfl (any_of HT_.out (by kernel_rfl)) (fun _ _ _ h => h) (Or.inl ⟨by rfl, ?_⟩) ?_ ?_
  rotate_left
  · intro w'
    go_simp
    with_reducible rfl
  rotate_left
  · simp only [Act.put, List.setIfInBounds_toArray, List.set_cons_zero, List.set_cons_succ, i64_w, i32_w]
    rfl
  refine pure_ (i := 5) (N := some 10) (v := ?_) (a' := ?_) #[true, false, true, false, false, true, false, false, false, false, false, false, false] rfl rfl (any_of HT_.out (by kernel_rfl)) (fun _ _ _ h => h) (Or.inl ⟨by rfl, ?_⟩) ?_ ?_
  rotate_left
  · intro w'
    go_simp
    with_reducible rfl
  rotate_left
  · simp only [Act.put, List.setIfInBounds_toArray, List.set_cons_zero, List.set_cons_succ, i64_w, i32_w]
    rfl
  refine pure_ (i := 7) (N := some 12) (v := ?_) (a' := ?_) #[true, false, true, false, false, true, false, true, false, false, false, false, false] rfl rfl (any_of HT_.out (by kernel_rfl)) (fun _ _ _ h => h) (Or.inl ⟨by rfl, ?_⟩) ?_ ?_
  rotate_left
  · intro w'
    go_simp
    with_reducible rfl
  rotate_left
  · simp only [Act.put, List.setIfInBounds_toArray, List.set_cons_zero, List.set_cons_succ, i64_w, i32_w]
    rfl
  refine take_ (i := 1) (N := some 6) (v := ?_) (a' := ?_) #[true, true, true, false, false, true, false, true, false, false, false, false, false] rfl rfl (take_ofW HT_.out HW_.out (by kernel_rfl)) (fun _ _ _ h => h) (Or.inl ⟨by rfl, ?_⟩) hHeld ?_ ?_
  rotate_left
  · rintro w' ⟨s0, s1, s2, s3⟩
    go_simp
    with_reducible rfl
  rotate_left
  · simp only [Act.put, List.setIfInBounds_toArray, List.set_cons_zero, List.set_cons_succ, i64_w, i32_w]
    rfl
  refine take_ (i := 3) (N := some 8) (v := ?_) (a' := ?_) #[true, true, true, true, false, true, false, true, false, false, false, false, false] rfl rfl (take_ofW HT_.out HW_.out (by kernel_rfl)) (fun _ _ _ h => h) (Or.inl ⟨by rfl, ?_⟩) hHeld ?_ ?_
  rotate_left
  · rintro w' ⟨s0, s1, s2, s3⟩
    go_simp
    with_reducible rfl
  rotate_left
  · simp only [Act.put, List.setIfInBounds_toArray, List.set_cons_zero, List.set_cons_succ, i64_w, i32_w]
    rfl
  refine take_ (i := 6) (N := some 11) (v := ?_) (a' := ?_) #[true, true, true, true, false, true, true, true, false, false, false, false, false] rfl rfl (take_ofW HT_.out HW_.out (by kernel_rfl)) (fun _ _ _ h => h) (Or.inl ⟨by rfl, ?_⟩) hHeld ?_ ?_
  rotate_left
  · rintro w' ⟨s0, s1, s2, s3⟩
    go_simp
    with_reducible rfl
  rotate_left
  · simp only [Act.put, List.setIfInBounds_toArray, List.set_cons_zero, List.set_cons_succ, i64_w, i32_w]
    rfl
  refine take_ (i := 8) (N := some 13) (v := ?_) (a' := ?_) #[true, true, true, true, false, true, true, true, true, false, false, false, false] rfl rfl (take_ofW HT_.out HW_.out (by kernel_rfl)) (fun _ _ _ h => h) (Or.inl ⟨by rfl, ?_⟩) hHeld ?_ ?_
  rotate_left
  · rintro w' ⟨s0, s1, s2, s3⟩
    go_simp
    with_reducible rfl
  rotate_left
  · simp only [Act.put, List.setIfInBounds_toArray, List.set_cons_zero, List.set_cons_succ, i64_w, i32_w]
    rfl
  refine one_ (i := 4) (N := some 9) #[true, true, true, true, true, true, true, true, true, false, false, false, false] rfl rfl (one_of HT_.out (by kernel_rfl)) (by decide) (fun K hK => ?_)
  refine goes_ Try.func118 (by kernel_rfl) rfl #[.int .u64 a0_1, .int .u64 a1_1] (by rfl) rfl rfl (by (try simp only [List.map_toArray, List.map_cons, List.map_nil]); first | done | rfl | (simp only [List.length_drop, List.length_take]; rfl)) ?_
  with_reducible refine (cmp_Compare_uint64.calls a0_1 a1_1 t158 _ A3.out).mono ?_
  rintro e w' ⟨rfl, ⟨nd, rfl⟩⟩
  refine ⟨_, rfl, ?_⟩
  refine hK.out _ _ ⟨(blk_cell BK156.out 0).trans rfl, (blk_cell BK156.out 1).trans rfl, (blk_cell BK157.out 0).trans rfl, (blk_cell BK157.out 1).trans rfl⟩ (fun hHeld => ?_)
  clear hK K
  refine norm_ (a' := ?_) ?_ ?_
  rotate_left
  · show Act.put _ (some 9) _ = _
    simp only [Act.put, List.setIfInBounds_toArray, List.set_cons_zero, List.set_cons_succ, i64_w, i32_w]
    rfl
  refine one_ (i := 9) (N := some 14) #[true, true, true, true, true, true, true, true, true, true, false, false, false] rfl rfl (one_of HT_.out (by kernel_rfl)) (by decide) (fun K hK => ?_)
  refine goes_ Try.func118 (by kernel_rfl) rfl #[.int .u64 a0_0, .int .u64 a1_0] (by rfl) rfl rfl (by (try simp only [List.map_toArray, List.map_cons, List.map_nil]); first | done | rfl | (simp only [List.length_drop, List.length_take]; rfl)) ?_
  with_reducible refine (cmp_Compare_uint64.calls a0_0 a1_0 t159 _ A4.out).mono ?_
  rintro e w' ⟨rfl, ⟨nd, rfl⟩⟩
  refine ⟨_, rfl, ?_⟩
  refine hK.out _ _ ⟨(blk_cell BK156.out 0).trans rfl, (blk_cell BK156.out 1).trans rfl, (blk_cell BK157.out 0).trans rfl, (blk_cell BK157.out 1).trans rfl⟩ (fun hHeld => ?_)
  clear hK K
  refine norm_ (a' := ?_) ?_ ?_
  rotate_left
  · show Act.put _ (some 14) _ = _
    simp only [Act.put, List.setIfInBounds_toArray, List.set_cons_zero, List.set_cons_succ, i64_w, i32_w]
    rfl
  refine one_ (i := 10) (N := some 15) #[true, true, true, true, true, true, true, true, true, true, true, false, false] rfl rfl (one_of HT_.out (by kernel_rfl)) (by decide) (fun K hK => ?_)
  refine Kd.R_lit_step (Kd.int .i64) _ 3 ?hg (N := 15) ?hd (xs := ([t158, t159] : List Int)) (inner := [.int .i64 t158, .int .i64 t159]) (ok := fun _ => True) (okp := fun _ => True) ?hr ?hp (fun _ hk => hk) trivial (Below.refl _ _) (Nat.le_refl _) (by simp) ?_; (case hd => rfl); (case hg => rfl); (case hr => first | (go_simp; done) | (go_simp; rfl)); (case hp => exact (Reps.one (show Kd.M (Kd.int .i64) _ _ _ t158 [.int .i64 t158] from rfl) (Reps.one (show Kd.M (Kd.int .i64) _ _ _ t159 [.int .i64 t159] from rfl) (Reps.none _ _))))
  intro v161 w9 ho10 hb hg_ hnew_
  clear hg_ hnew_
  (first | rw [← Ny160.out] at ho10 | (simp only [Int.reduceToNat] at ho10; rw [← Ny160.out] at ho10))
  have n0_ := Aside0.mk (Kd.R_lower ho10 (below_size (by repeat (first | (with_reducible first | exact HB.out | apply below_alloc | apply pw_below_drewN | apply below_drew1 | refine below_set ?_ GE156.out | refine below_set ?_ GE157.out) | exact HB.out))))
  have n1_ := Aside0.mk (blk_below (g := gb156) (o := .cells #[.int .u64 a0_0, .int .u64 a0_1] 58 (0, 0)) (by (with_reducible repeat (first | refine blk_drewN ?_ _ | refine blk_drew ?_ | refine blk_alloc ?_ _)); exact BK156.out) hb)
  have n2_ := Aside0.mk (blk_below (g := gb157) (o := .cells #[.int .u64 a1_0, .int .u64 a1_1] 58 (0, 0)) (by (with_reducible repeat (first | refine blk_drewN ?_ _ | refine blk_drew ?_ | refine blk_alloc ?_ _)); exact BK157.out) hb)
  have n3_ := Aside0.mk (below_step (by repeat (first | (with_reducible first | exact HB.out | apply below_alloc | apply pw_below_drewN | apply below_drew1 | refine below_set ?_ GE156.out | refine below_set ?_ GE157.out) | exact HB.out)) hb)
  clear BK156
  clear BK157
  clear HB
  have HO162 := n0_
  have BK156 := n1_
  have BK157 := n2_
  have HB := n3_
  clear n0_ n1_ n2_ n3_
  clear hb ho10
  obtain ⟨Ao11, co11, eo11⟩ := Kd.R_slice HO162.out
  (first | subst eo11 | (injection eo11 with f1_ f2_ f3_; have f4_ := f1_.symm; have f5_ := f3_.symm; clear f1_ f2_ f3_; subst f4_; subst f5_))
  refine hK.out _ _ ⟨(blk_cell BK156.out 0).trans rfl, (blk_cell BK156.out 1).trans rfl, (blk_cell BK157.out 0).trans rfl, (blk_cell BK157.out 1).trans rfl⟩ (fun hHeld => ?_)
  clear hK K
  refine norm_ (a' := ?_) ?_ ?_
  rotate_left
  · show Act.put _ (some 15) _ = _
    simp only [Act.put, List.setIfInBounds_toArray, List.set_cons_zero, List.set_cons_succ, i64_w, i32_w]
    rfl
  refine one_ (i := 11) (N := some 16) #[true, true, true, true, true, true, true, true, true, true, true, true, false] rfl rfl (one_of HT_.out (by kernel_rfl)) (by decide) (fun K hK => ?_)
  refine goes_ Try.func117 (by kernel_rfl) rfl #[.slice Ao11 y160.length co11] (by rfl) rfl rfl (by (try simp only [List.map_toArray, List.map_cons, List.map_nil]); first | done | rfl | (simp only [List.length_drop, List.length_take]; rfl)) ?_
  with_reducible refine (cmp_Or_int.calls k _ _ y160 t163 _ ?side1 ?side2 A5.out).mono ?_
  (case side1 => repeat (first | exact (Kd.R_reads' HO162.out).2.2 | (with_reducible refine Kd.C_alloc ?_ _) | (with_reducible refine Kd.C_drewN ?_ _) | (with_reducible refine Kd.C_drew ?_)))
  (case side2 => exact (Kd.R_reads' HO162.out).2.1)
  rintro e w' ⟨rfl, ⟨nd, rfl⟩⟩
  refine ⟨_, rfl, ?_⟩
  refine hK.out _ _ ⟨(blk_cell BK156.out 0).trans rfl, (blk_cell BK156.out 1).trans rfl, (blk_cell BK157.out 0).trans rfl, (blk_cell BK157.out 1).trans rfl⟩ (fun hHeld => ?_)
  clear hK K
  refine norm_ (a' := ?_) ?_ ?_
  rotate_left
  · show Act.put _ (some 16) _ = _
    simp only [Act.put, List.setIfInBounds_toArray, List.set_cons_zero, List.set_cons_succ, i64_w, i32_w]
    rfl
  refine pure_ (i := 12) (N := some 4) (v := ?_) (a' := ?_) #[true, true, true, true, true, true, true, true, true, true, true, true, true] rfl rfl (any_of HT_.out (by kernel_rfl)) (fun _ _ _ h => h) (Or.inl ⟨by rfl, ?_⟩) ?_ ?_
  rotate_left
  · intro w'
    go_simp
    with_reducible rfl
  rotate_left
  · simp only [Act.put, List.setIfInBounds_toArray, List.set_cons_zero, List.set_cons_succ, i64_w, i32_w]
    rfl
  refine done_ (done_of HT_.out (by kernel_rfl)) ?_
  try go_wp2
  go_ret
  exact ⟨by first | rfl | (simp [errW_none, errW_some] <;> rfl) | (simp [*, errW_none, errW_some] <;> rfl), by repeat (first | (with_reducible first | exact HB.out | apply below_alloc | apply pw_below_drewN | apply below_drew1 | refine below_set ?_ GE156.out | refine below_set ?_ GE157.out) | exact HB.out)⟩
def fixed_exact_plus.f (k : Nat) (a0_0 : Bool) (a0_1 : Int) (a0_2 : Int) (a1_0 : Bool) (a1_1 : Int) (a1_2 : Int) : Option (Bool × Int × Int) := if (a0_0 == a1_0) = true then (if add64c a0_1 a1_1 0 ≤ 1 then (some (a0_0, add64s a0_1 a1_1 0, add64s a0_2 a1_2 (add64c a0_1 a1_1 0))) else (none)) else ((fixed_words_compare.f k a0_1 a0_2 a1_1 a1_2).bind fun t167 => (if t167 < 0 then (some (a1_0, sub64s a1_1 a0_1 0, sub64s a1_2 a0_2 (sub64c a1_1 a0_1 0))) else (some (a0_0, sub64s a0_1 a1_1 0, sub64s a0_2 a1_2 (sub64c a0_1 a1_1 0)))))
set_option maxHeartbeats 8000000 in
set_option maxRecDepth 100000 in
theorem fixed_exact_plus.calls (k : Nat) (a0_0 : Bool) (a0_1 : Int) (a0_2 : Int) (a1_0 : Bool) (a1_1 : Int) (a1_2 : Int) (r1 : Bool) (r2 : Int) (r3 : Int) (w : World) (h : fixed_exact_plus.f k a0_0 a0_1 a0_2 a1_0 a1_1 a1_2 = some (r1, r2, r3)) :
    Calls Try.prog 75 #[.agg #[.bool a0_0, .int .u64 a0_1, .int .u64 a0_2], .agg #[.bool a1_0, .int .u64 a1_1, .int .u64 a1_2]] w fun e w' => e = .returned (.agg #[.bool r1, .int .u64 r2, .int .u64 r3]) ∧ Below w.heap.size w w' := by
  have hu60 := Try.underlying60
  have hu58 := Try.underlying58
  have hx1080 := @ext108_0
  have hx1081 := @ext108_1
  have hx1100 := @ext110_0
  have hx1101 := @ext110_1
  have HB := Aside0.mk (Below.refl w.heap.size w)
  have H : (if (a0_0 == a1_0) = true then (if add64c a0_1 a1_1 0 ≤ 1 then (some (a0_0, add64s a0_1 a1_1 0, add64s a0_2 a1_2 (add64c a0_1 a1_1 0))) else (none)) else ((fixed_words_compare.f k a0_1 a0_2 a1_1 a1_2).bind fun t167 => (if t167 < 0 then (some (a1_0, sub64s a1_1 a0_1 0, sub64s a1_2 a0_2 (sub64c a1_1 a0_1 0))) else (some (a0_0, sub64s a0_1 a1_1 0, sub64s a0_2 a1_2 (sub64c a0_1 a1_1 0)))))) = some (r1, r2, r3) := h
  clear h
  by_cases c3 : (a0_0 == a1_0) = true
  · rw [if_pos c3] at H
    have c3b0 : (a0_0 == a1_0) = true := c3
    (try (have c3b1 : decide (a0_0 = a1_0) = true := by simpa using c3))
    (try (have c3b2 : (a0_0 == a1_0) = true := by simpa using c3))
    clear c3
    by_cases c4 : add64c a0_1 a1_1 0 ≤ 1
    · rw [if_pos c4] at H
      have c4b0 := eq_true c4
      have c4b1 : decide (add64c a0_1 a1_1 0 ≤ 1) = true := decide_eq_true c4
      clear c4
      simp only [Option.some.injEq, Prod.mk.injEq] at H
      obtain ⟨rfl, rfl, rfl⟩ := H
      go_enter Try.func75, Try.ntmps75
      go_wp2_with (first | ((with_reducible refine gate_dst (N := 2) rfl ?_); refine box_event ?hg (N := 2) ?hd (cs := #[.bool a0_0, .int .u64 a0_1, .int .u64 a0_2]) (t := 60) ?hr ?_; (case hd => rfl); (case hg => rfl); (case hr => first | (go_simp; done) | (go_simp; rfl)); intro gb164 hg w5 hbox hb; have n0_ := Aside0.mk (below_step (by repeat (first | (with_reducible first | exact HB.out | apply below_alloc | apply pw_below_drewN | apply below_drew1) | exact HB.out)) hb); have n1_ := Aside0.mk (hbox); have n2_ := Aside0.mk ((by rw [hg]; exact (below_size (by repeat (first | (with_reducible first | exact HB.out | apply below_alloc | apply pw_below_drewN | apply below_drew1) | exact HB.out))) : w.heap.size ≤ gb164)); have n3_ := Aside0.mk ((by rw [hg]; exact (below_size (by repeat (first | (with_reducible first | exact HB.out | apply below_alloc | apply pw_below_drewN | apply below_drew1) | exact HB.out))) : w.heap.size ≤ gb164)); clear HB; have HB := n0_; have BK164 := n1_; have GW164 := n2_; have GE164 := n3_; clear n0_ n1_ n2_ n3_; clear hb hbox hg) | ((with_reducible refine gate_dst (N := 3) rfl ?_); refine box_event ?hg (N := 3) ?hd (cs := #[.bool a1_0, .int .u64 a1_1, .int .u64 a1_2]) (t := 60) ?hr ?_; (case hd => rfl); (case hg => rfl); (case hr => first | (go_simp; done) | (go_simp; rfl)); intro gb165 hg w6 hbox hb; have n0_ := Aside0.mk (blk_below (g := gb164) (o := .cells #[.bool a0_0, .int .u64 a0_1, .int .u64 a0_2] 60 (0, 0)) (by (with_reducible repeat (first | refine blk_drewN ?_ _ | refine blk_drew ?_ | refine blk_alloc ?_ _)); exact BK164.out) hb); have n1_ := Aside0.mk (below_step (by repeat (first | (with_reducible first | exact HB.out | apply below_alloc | apply pw_below_drewN | apply below_drew1 | refine below_set ?_ GE164.out) | exact HB.out)) hb); have n2_ := Aside0.mk (hbox); have n3_ := Aside0.mk ((by rw [hg]; exact (below_size (by repeat (first | (with_reducible first | exact HB.out | apply below_alloc | apply pw_below_drewN | apply below_drew1 | refine below_set ?_ GE164.out) | exact HB.out))) : w.heap.size ≤ gb165)); have n4_ := Aside0.mk ((by rw [hg]; exact (below_size (by repeat (first | (with_reducible first | exact HB.out | apply below_alloc | apply pw_below_drewN | apply below_drew1 | refine below_set ?_ GE164.out) | exact HB.out))) : w.heap.size ≤ gb165)); have n5_ := Aside0.mk ((by rw [hg]; exact Nat.ne_of_lt (blk_lt (g := gb164) (o := .cells #[.bool a0_0, .int .u64 a0_1, .int .u64 a0_2] 60 (0, 0)) (by (with_reducible repeat (first | refine blk_drewN ?_ _ | refine blk_drew ?_ | refine blk_alloc ?_ _)); exact BK164.out)) : gb164 ≠ gb165)); have n6_ := Aside0.mk ((by rw [hg]; exact Nat.ne_of_gt (blk_lt (g := gb164) (o := .cells #[.bool a0_0, .int .u64 a0_1, .int .u64 a0_2] 60 (0, 0)) (by (with_reducible repeat (first | refine blk_drewN ?_ _ | refine blk_drew ?_ | refine blk_alloc ?_ _)); exact BK164.out)) : gb165 ≠ gb164)); clear BK164; clear HB; have BK164 := n0_; have HB := n1_; have BK165 := n2_; have GW165 := n3_; have GE165 := n4_; have NB164_165 := n5_; have NB165_164 := n6_; clear n0_ n1_ n2_ n3_ n4_ n5_ n6_; clear hb hbox hg) | ((with_reducible refine gate_dst (N := 4) rfl ?_); refine box_event ?hg (N := 4) ?hd (cs := #[.bool false, .int .u64 0, .int .u64 0]) (t := 60) ?hr ?_; (case hd => rfl); (case hg => rfl); (case hr => first | (go_simp; done) | (go_simp; rfl)); intro gb166 hg w7 hbox hb; have n0_ := Aside0.mk (blk_below (g := gb164) (o := .cells #[.bool a0_0, .int .u64 a0_1, .int .u64 a0_2] 60 (0, 0)) (by (with_reducible repeat (first | refine blk_drewN ?_ _ | refine blk_drew ?_ | refine blk_alloc ?_ _)); exact BK164.out) hb); have n1_ := Aside0.mk (blk_below (g := gb165) (o := .cells #[.bool a1_0, .int .u64 a1_1, .int .u64 a1_2] 60 (0, 0)) (by (with_reducible repeat (first | refine blk_drewN ?_ _ | refine blk_drew ?_ | refine blk_alloc ?_ _)); exact BK165.out) hb); have n2_ := Aside0.mk (below_step (by repeat (first | (with_reducible first | exact HB.out | apply below_alloc | apply pw_below_drewN | apply below_drew1 | refine below_set ?_ GE164.out | refine below_set ?_ GE165.out) | exact HB.out)) hb); have n3_ := Aside0.mk (hbox); have n4_ := Aside0.mk ((by rw [hg]; exact (below_size (by repeat (first | (with_reducible first | exact HB.out | apply below_alloc | apply pw_below_drewN | apply below_drew1 | refine below_set ?_ GE164.out | refine below_set ?_ GE165.out) | exact HB.out))) : w.heap.size ≤ gb166)); have n5_ := Aside0.mk ((by rw [hg]; exact (below_size (by repeat (first | (with_reducible first | exact HB.out | apply below_alloc | apply pw_below_drewN | apply below_drew1 | refine below_set ?_ GE164.out | refine below_set ?_ GE165.out) | exact HB.out))) : w.heap.size ≤ gb166)); have n6_ := Aside0.mk ((by rw [hg]; exact Nat.ne_of_lt (blk_lt (g := gb164) (o := .cells #[.bool a0_0, .int .u64 a0_1, .int .u64 a0_2] 60 (0, 0)) (by (with_reducible repeat (first | refine blk_drewN ?_ _ | refine blk_drew ?_ | refine blk_alloc ?_ _)); exact BK164.out)) : gb164 ≠ gb166)); have n7_ := Aside0.mk ((by rw [hg]; exact Nat.ne_of_gt (blk_lt (g := gb164) (o := .cells #[.bool a0_0, .int .u64 a0_1, .int .u64 a0_2] 60 (0, 0)) (by (with_reducible repeat (first | refine blk_drewN ?_ _ | refine blk_drew ?_ | refine blk_alloc ?_ _)); exact BK164.out)) : gb166 ≠ gb164)); have n8_ := Aside0.mk ((by rw [hg]; exact Nat.ne_of_lt (blk_lt (g := gb165) (o := .cells #[.bool a1_0, .int .u64 a1_1, .int .u64 a1_2] 60 (0, 0)) (by (with_reducible repeat (first | refine blk_drewN ?_ _ | refine blk_drew ?_ | refine blk_alloc ?_ _)); exact BK165.out)) : gb165 ≠ gb166)); have n9_ := Aside0.mk ((by rw [hg]; exact Nat.ne_of_gt (blk_lt (g := gb165) (o := .cells #[.bool a1_0, .int .u64 a1_1, .int .u64 a1_2] 60 (0, 0)) (by (with_reducible repeat (first | refine blk_drewN ?_ _ | refine blk_drew ?_ | refine blk_alloc ?_ _)); exact BK165.out)) : gb166 ≠ gb165)); clear BK164; clear BK165; clear HB; have BK164 := n0_; have BK165 := n1_; have HB := n2_; have BK166 := n3_; have GW166 := n4_; have GE166 := n5_; have NB164_166 := n6_; have NB166_164 := n7_; have NB165_166 := n8_; have NB166_165 := n9_; clear n0_ n1_ n2_ n3_ n4_ n5_ n6_ n7_ n8_ n9_; clear hb hbox hg; have hnb8 := NB164_165.out; have hnc8 := NB165_164.out; have hnb9 := NB164_166.out; have hnc9 := NB166_164.out; have hcz10_0 : w7.cell? ⟨gb164, 0, none⟩ = some (.bool a0_0) := (blk_cell BK164.out 0).trans rfl; have hcz10_1 : w7.cell? ⟨gb164, 1, none⟩ = some (.int .u64 a0_1) := (blk_cell BK164.out 1).trans rfl; have hcz10_2 : w7.cell? ⟨gb164, 2, none⟩ = some (.int .u64 a0_2) := (blk_cell BK164.out 2).trans rfl; have hfz10_0 := blk_frozen BK164.out 0; have hfz10_1 := blk_frozen BK164.out 1; have hfz10_2 := blk_frozen BK164.out 2; have hnb11 := NB165_166.out; have hnc11 := NB166_165.out; have hcz12_0 : w7.cell? ⟨gb165, 0, none⟩ = some (.bool a1_0) := (blk_cell BK165.out 0).trans rfl; have hcz12_1 : w7.cell? ⟨gb165, 1, none⟩ = some (.int .u64 a1_1) := (blk_cell BK165.out 1).trans rfl; have hcz12_2 : w7.cell? ⟨gb165, 2, none⟩ = some (.int .u64 a1_2) := (blk_cell BK165.out 2).trans rfl; have hfz12_0 := blk_frozen BK165.out 0; have hfz12_1 := blk_frozen BK165.out 1; have hfz12_2 := blk_frozen BK165.out 2; have hcz13_0 : w7.cell? ⟨gb166, 0, none⟩ = some (.bool false) := (blk_cell BK166.out 0).trans rfl; have hcz13_1 : w7.cell? ⟨gb166, 1, none⟩ = some (.int .u64 0) := (blk_cell BK166.out 1).trans rfl; have hcz13_2 : w7.cell? ⟨gb166, 2, none⟩ = some (.int .u64 0) := (blk_cell BK166.out 2).trans rfl; have hfz13_0 := blk_frozen BK166.out 0; have hfz13_1 := blk_frozen BK166.out 1; have hfz13_2 := blk_frozen BK166.out 2))
      refine bodyPost_ret (results_cell_row rfl _ _ gb166 60 #[.bool a0_0, .int .u64 (add64s a0_1 a1_1 0), .int .u64 (add64s a0_2 a1_2 (add64c a0_1 a1_1 0))] (0, 0) _ rfl (by (with_reducible repeat (first | refine blk_drewN ?_ _ | refine blk_drew ?_ | refine blk_alloc ?_ _)); refine blk_put (cs := #[.bool a0_0, .int .u64 (add64s a0_1 a1_1 0), .int .u64 0]) ?_ 2 _ rfl; (with_reducible repeat (first | refine blk_drewN ?_ _ | refine blk_drew ?_ | refine blk_alloc ?_ _)); refine blk_put (cs := #[.bool a0_0, .int .u64 0, .int .u64 0]) ?_ 1 _ rfl; (with_reducible repeat (first | refine blk_drewN ?_ _ | refine blk_drew ?_ | refine blk_alloc ?_ _)); refine blk_put (cs := #[.bool false, .int .u64 0, .int .u64 0]) ?_ 0 _ rfl; (with_reducible repeat (first | refine blk_drewN ?_ _ | refine blk_drew ?_ | refine blk_alloc ?_ _)); exact BK166.out) Try.underlying60 rfl (by kernel_rfl)) rfl ?_
      exact ⟨by first | rfl | (simp [errW_none, errW_some] <;> rfl) | (simp [*, errW_none, errW_some] <;> rfl), by repeat (first | (with_reducible first | exact HB.out | apply below_alloc | apply pw_below_drewN | apply below_drew1 | refine below_set ?_ GE164.out | refine below_set ?_ GE165.out | refine below_set ?_ GE166.out) | exact HB.out)⟩
    · rw [if_neg c4] at H
      exact absurd H (by simp)
  · rw [if_neg c3] at H
    have c3b0 : (a0_0 == a1_0) = false := by simpa using c3
    (try (have c3b1 : decide (a0_0 = a1_0) = false := by simpa using c3))
    (try (have c3b2 : (a0_0 == a1_0) = false := by simpa using c3))
    (try (have c3b3 : ¬ (a0_0 = a1_0) := by simpa using c3))
    clear c3
    replace H := Option.bind_eq_some_iff.mp H
    obtain ⟨t167, A140, H⟩ := H
    replace H : (if t167 < 0 then (some (a1_0, sub64s a1_1 a0_1 0, sub64s a1_2 a0_2 (sub64c a1_1 a0_1 0))) else (some (a0_0, sub64s a0_1 a1_1 0, sub64s a0_2 a1_2 (sub64c a0_1 a1_1 0)))) = some (r1, r2, r3) := H
    have A14 := Aside0.mk A140
    clear A140
    by_cases c15 : t167 < 0
    · rw [if_pos c15] at H
      have c15b0 : decide (t167 < 0) = true := decide_eq_true c15
      clear c15
      simp only [Option.some.injEq, Prod.mk.injEq] at H
      obtain ⟨rfl, rfl, rfl⟩ := H
      go_enter Try.func75, Try.ntmps75
      go_wp2_with (first | ((with_reducible refine gate_dst (N := 2) rfl ?_); refine box_event ?hg (N := 2) ?hd (cs := #[.bool a0_0, .int .u64 a0_1, .int .u64 a0_2]) (t := 60) ?hr ?_; (case hd => rfl); (case hg => rfl); (case hr => first | (go_simp; done) | (go_simp; rfl)); intro gb164 hg w16 hbox hb; have n0_ := Aside0.mk (below_step (by repeat (first | (with_reducible first | exact HB.out | apply below_alloc | apply pw_below_drewN | apply below_drew1) | exact HB.out)) hb); have n1_ := Aside0.mk (hbox); have n2_ := Aside0.mk ((by rw [hg]; exact (below_size (by repeat (first | (with_reducible first | exact HB.out | apply below_alloc | apply pw_below_drewN | apply below_drew1) | exact HB.out))) : w.heap.size ≤ gb164)); have n3_ := Aside0.mk ((by rw [hg]; exact (below_size (by repeat (first | (with_reducible first | exact HB.out | apply below_alloc | apply pw_below_drewN | apply below_drew1) | exact HB.out))) : w.heap.size ≤ gb164)); clear HB; have HB := n0_; have BK164 := n1_; have GW164 := n2_; have GE164 := n3_; clear n0_ n1_ n2_ n3_; clear hb hbox hg) | ((with_reducible refine gate_dst (N := 3) rfl ?_); refine box_event ?hg (N := 3) ?hd (cs := #[.bool a1_0, .int .u64 a1_1, .int .u64 a1_2]) (t := 60) ?hr ?_; (case hd => rfl); (case hg => rfl); (case hr => first | (go_simp; done) | (go_simp; rfl)); intro gb165 hg w17 hbox hb; have n0_ := Aside0.mk (blk_below (g := gb164) (o := .cells #[.bool a0_0, .int .u64 a0_1, .int .u64 a0_2] 60 (0, 0)) (by (with_reducible repeat (first | refine blk_drewN ?_ _ | refine blk_drew ?_ | refine blk_alloc ?_ _)); exact BK164.out) hb); have n1_ := Aside0.mk (below_step (by repeat (first | (with_reducible first | exact HB.out | apply below_alloc | apply pw_below_drewN | apply below_drew1 | refine below_set ?_ GE164.out) | exact HB.out)) hb); have n2_ := Aside0.mk (hbox); have n3_ := Aside0.mk ((by rw [hg]; exact (below_size (by repeat (first | (with_reducible first | exact HB.out | apply below_alloc | apply pw_below_drewN | apply below_drew1 | refine below_set ?_ GE164.out) | exact HB.out))) : w.heap.size ≤ gb165)); have n4_ := Aside0.mk ((by rw [hg]; exact (below_size (by repeat (first | (with_reducible first | exact HB.out | apply below_alloc | apply pw_below_drewN | apply below_drew1 | refine below_set ?_ GE164.out) | exact HB.out))) : w.heap.size ≤ gb165)); have n5_ := Aside0.mk ((by rw [hg]; exact Nat.ne_of_lt (blk_lt (g := gb164) (o := .cells #[.bool a0_0, .int .u64 a0_1, .int .u64 a0_2] 60 (0, 0)) (by (with_reducible repeat (first | refine blk_drewN ?_ _ | refine blk_drew ?_ | refine blk_alloc ?_ _)); exact BK164.out)) : gb164 ≠ gb165)); have n6_ := Aside0.mk ((by rw [hg]; exact Nat.ne_of_gt (blk_lt (g := gb164) (o := .cells #[.bool a0_0, .int .u64 a0_1, .int .u64 a0_2] 60 (0, 0)) (by (with_reducible repeat (first | refine blk_drewN ?_ _ | refine blk_drew ?_ | refine blk_alloc ?_ _)); exact BK164.out)) : gb165 ≠ gb164)); clear BK164; clear HB; have BK164 := n0_; have HB := n1_; have BK165 := n2_; have GW165 := n3_; have GE165 := n4_; have NB164_165 := n5_; have NB165_164 := n6_; clear n0_ n1_ n2_ n3_ n4_ n5_ n6_; clear hb hbox hg) | ((with_reducible refine gate_dst (N := 4) rfl ?_); refine box_event ?hg (N := 4) ?hd (cs := #[.bool false, .int .u64 0, .int .u64 0]) (t := 60) ?hr ?_; (case hd => rfl); (case hg => rfl); (case hr => first | (go_simp; done) | (go_simp; rfl)); intro gb166 hg w18 hbox hb; have n0_ := Aside0.mk (blk_below (g := gb164) (o := .cells #[.bool a0_0, .int .u64 a0_1, .int .u64 a0_2] 60 (0, 0)) (by (with_reducible repeat (first | refine blk_drewN ?_ _ | refine blk_drew ?_ | refine blk_alloc ?_ _)); exact BK164.out) hb); have n1_ := Aside0.mk (blk_below (g := gb165) (o := .cells #[.bool a1_0, .int .u64 a1_1, .int .u64 a1_2] 60 (0, 0)) (by (with_reducible repeat (first | refine blk_drewN ?_ _ | refine blk_drew ?_ | refine blk_alloc ?_ _)); exact BK165.out) hb); have n2_ := Aside0.mk (below_step (by repeat (first | (with_reducible first | exact HB.out | apply below_alloc | apply pw_below_drewN | apply below_drew1 | refine below_set ?_ GE164.out | refine below_set ?_ GE165.out) | exact HB.out)) hb); have n3_ := Aside0.mk (hbox); have n4_ := Aside0.mk ((by rw [hg]; exact (below_size (by repeat (first | (with_reducible first | exact HB.out | apply below_alloc | apply pw_below_drewN | apply below_drew1 | refine below_set ?_ GE164.out | refine below_set ?_ GE165.out) | exact HB.out))) : w.heap.size ≤ gb166)); have n5_ := Aside0.mk ((by rw [hg]; exact (below_size (by repeat (first | (with_reducible first | exact HB.out | apply below_alloc | apply pw_below_drewN | apply below_drew1 | refine below_set ?_ GE164.out | refine below_set ?_ GE165.out) | exact HB.out))) : w.heap.size ≤ gb166)); have n6_ := Aside0.mk ((by rw [hg]; exact Nat.ne_of_lt (blk_lt (g := gb164) (o := .cells #[.bool a0_0, .int .u64 a0_1, .int .u64 a0_2] 60 (0, 0)) (by (with_reducible repeat (first | refine blk_drewN ?_ _ | refine blk_drew ?_ | refine blk_alloc ?_ _)); exact BK164.out)) : gb164 ≠ gb166)); have n7_ := Aside0.mk ((by rw [hg]; exact Nat.ne_of_gt (blk_lt (g := gb164) (o := .cells #[.bool a0_0, .int .u64 a0_1, .int .u64 a0_2] 60 (0, 0)) (by (with_reducible repeat (first | refine blk_drewN ?_ _ | refine blk_drew ?_ | refine blk_alloc ?_ _)); exact BK164.out)) : gb166 ≠ gb164)); have n8_ := Aside0.mk ((by rw [hg]; exact Nat.ne_of_lt (blk_lt (g := gb165) (o := .cells #[.bool a1_0, .int .u64 a1_1, .int .u64 a1_2] 60 (0, 0)) (by (with_reducible repeat (first | refine blk_drewN ?_ _ | refine blk_drew ?_ | refine blk_alloc ?_ _)); exact BK165.out)) : gb165 ≠ gb166)); have n9_ := Aside0.mk ((by rw [hg]; exact Nat.ne_of_gt (blk_lt (g := gb165) (o := .cells #[.bool a1_0, .int .u64 a1_1, .int .u64 a1_2] 60 (0, 0)) (by (with_reducible repeat (first | refine blk_drewN ?_ _ | refine blk_drew ?_ | refine blk_alloc ?_ _)); exact BK165.out)) : gb166 ≠ gb165)); clear BK164; clear BK165; clear HB; have BK164 := n0_; have BK165 := n1_; have HB := n2_; have BK166 := n3_; have GW166 := n4_; have GE166 := n5_; have NB164_166 := n6_; have NB166_164 := n7_; have NB165_166 := n8_; have NB166_165 := n9_; clear n0_ n1_ n2_ n3_ n4_ n5_ n6_ n7_ n8_ n9_; clear hb hbox hg; have hnb19 := NB164_165.out; have hnc19 := NB165_164.out; have hnb20 := NB164_166.out; have hnc20 := NB166_164.out; have hcz21_0 : w18.cell? ⟨gb164, 0, none⟩ = some (.bool a0_0) := (blk_cell BK164.out 0).trans rfl; have hcz21_1 : w18.cell? ⟨gb164, 1, none⟩ = some (.int .u64 a0_1) := (blk_cell BK164.out 1).trans rfl; have hcz21_2 : w18.cell? ⟨gb164, 2, none⟩ = some (.int .u64 a0_2) := (blk_cell BK164.out 2).trans rfl; have hfz21_0 := blk_frozen BK164.out 0; have hfz21_1 := blk_frozen BK164.out 1; have hfz21_2 := blk_frozen BK164.out 2; have hnb22 := NB165_166.out; have hnc22 := NB166_165.out; have hcz23_0 : w18.cell? ⟨gb165, 0, none⟩ = some (.bool a1_0) := (blk_cell BK165.out 0).trans rfl; have hcz23_1 : w18.cell? ⟨gb165, 1, none⟩ = some (.int .u64 a1_1) := (blk_cell BK165.out 1).trans rfl; have hcz23_2 : w18.cell? ⟨gb165, 2, none⟩ = some (.int .u64 a1_2) := (blk_cell BK165.out 2).trans rfl; have hfz23_0 := blk_frozen BK165.out 0; have hfz23_1 := blk_frozen BK165.out 1; have hfz23_2 := blk_frozen BK165.out 2) | ((with_reducible refine gate_callee (f := 109) rfl ?_); refine goesL_ (some 49) rfl rfl Try.func109 (by kernel_rfl) rfl #[.agg #[.int .u64 a0_1, .int .u64 a0_2], .agg #[.int .u64 a1_1, .int .u64 a1_2]] rfl (by (try simp only [List.map_toArray, List.map_cons, List.map_nil]); first | done | rfl | (simp only [List.length_drop, List.length_take]; rfl)) ?_; (with_reducible refine (fixed_words_compare.calls k a0_1 a0_2 a1_1 a1_2 t167 _ A14.out).mono ?_); rintro e w24 ⟨rfl, hb⟩; refine ⟨_, rfl, ?_⟩; have n0_ := Aside0.mk (blk_below (g := gb164) (o := .cells #[.bool a0_0, .int .u64 a0_1, .int .u64 a0_2] 60 (0, 0)) (by (with_reducible repeat (first | refine blk_drewN ?_ _ | refine blk_drew ?_ | refine blk_alloc ?_ _)); exact BK164.out) hb); have n1_ := Aside0.mk (blk_below (g := gb165) (o := .cells #[.bool a1_0, .int .u64 a1_1, .int .u64 a1_2] 60 (0, 0)) (by (with_reducible repeat (first | refine blk_drewN ?_ _ | refine blk_drew ?_ | refine blk_alloc ?_ _)); exact BK165.out) hb); have n2_ := Aside0.mk (blk_below (g := gb166) (o := .cells #[.bool false, .int .u64 0, .int .u64 0] 60 (0, 0)) (by (with_reducible repeat (first | refine blk_drewN ?_ _ | refine blk_drew ?_ | refine blk_alloc ?_ _)); exact BK166.out) hb); have n3_ := Aside0.mk (below_step (by repeat (first | (with_reducible first | exact HB.out | apply below_alloc | apply pw_below_drewN | apply below_drew1 | refine below_set ?_ GE164.out | refine below_set ?_ GE165.out | refine below_set ?_ GE166.out) | exact HB.out)) hb); clear BK164; clear BK165; clear BK166; clear HB; have BK164 := n0_; have BK165 := n1_; have BK166 := n2_; have HB := n3_; clear n0_ n1_ n2_ n3_; (try clear hb); (try clear hb2); (try clear hk); (try clear hi); have hcz25_0 : w24.cell? ⟨gb165, 0, none⟩ = some (.bool a1_0) := (blk_cell BK165.out 0).trans rfl; have hcz25_1 : w24.cell? ⟨gb165, 1, none⟩ = some (.int .u64 a1_1) := (blk_cell BK165.out 1).trans rfl; have hcz25_2 : w24.cell? ⟨gb165, 2, none⟩ = some (.int .u64 a1_2) := (blk_cell BK165.out 2).trans rfl; have hfz25_0 := blk_frozen BK165.out 0; have hfz25_1 := blk_frozen BK165.out 1; have hfz25_2 := blk_frozen BK165.out 2; have hcz26_0 : w24.cell? ⟨gb164, 0, none⟩ = some (.bool a0_0) := (blk_cell BK164.out 0).trans rfl; have hcz26_1 : w24.cell? ⟨gb164, 1, none⟩ = some (.int .u64 a0_1) := (blk_cell BK164.out 1).trans rfl; have hcz26_2 : w24.cell? ⟨gb164, 2, none⟩ = some (.int .u64 a0_2) := (blk_cell BK164.out 2).trans rfl; have hfz26_0 := blk_frozen BK164.out 0; have hfz26_1 := blk_frozen BK164.out 1; have hfz26_2 := blk_frozen BK164.out 2; have hcz27_0 : w24.cell? ⟨gb166, 0, none⟩ = some (.bool false) := (blk_cell BK166.out 0).trans rfl; have hcz27_1 : w24.cell? ⟨gb166, 1, none⟩ = some (.int .u64 0) := (blk_cell BK166.out 1).trans rfl; have hcz27_2 : w24.cell? ⟨gb166, 2, none⟩ = some (.int .u64 0) := (blk_cell BK166.out 2).trans rfl; have hfz27_0 := blk_frozen BK166.out 0; have hfz27_1 := blk_frozen BK166.out 1; have hfz27_2 := blk_frozen BK166.out 2))
      refine bodyPost_ret (results_cell_row rfl _ _ gb166 60 #[.bool a1_0, .int .u64 (sub64s a1_1 a0_1 0), .int .u64 (sub64s a1_2 a0_2 (sub64c a1_1 a0_1 0))] (0, 0) _ rfl (by (with_reducible repeat (first | refine blk_drewN ?_ _ | refine blk_drew ?_ | refine blk_alloc ?_ _)); refine blk_put (cs := #[.bool a1_0, .int .u64 (sub64s a1_1 a0_1 0), .int .u64 0]) ?_ 2 _ rfl; (with_reducible repeat (first | refine blk_drewN ?_ _ | refine blk_drew ?_ | refine blk_alloc ?_ _)); refine blk_put (cs := #[.bool a1_0, .int .u64 0, .int .u64 0]) ?_ 1 _ rfl; (with_reducible repeat (first | refine blk_drewN ?_ _ | refine blk_drew ?_ | refine blk_alloc ?_ _)); refine blk_put (cs := #[.bool false, .int .u64 0, .int .u64 0]) ?_ 0 _ rfl; (with_reducible repeat (first | refine blk_drewN ?_ _ | refine blk_drew ?_ | refine blk_alloc ?_ _)); refine blk_far ?_ NB166_165.out _; (with_reducible repeat (first | refine blk_drewN ?_ _ | refine blk_drew ?_ | refine blk_alloc ?_ _)); refine blk_far ?_ NB166_165.out _; (with_reducible repeat (first | refine blk_drewN ?_ _ | refine blk_drew ?_ | refine blk_alloc ?_ _)); refine blk_far ?_ NB166_165.out _; (with_reducible repeat (first | refine blk_drewN ?_ _ | refine blk_drew ?_ | refine blk_alloc ?_ _)); refine blk_far ?_ NB166_164.out _; (with_reducible repeat (first | refine blk_drewN ?_ _ | refine blk_drew ?_ | refine blk_alloc ?_ _)); refine blk_far ?_ NB166_164.out _; (with_reducible repeat (first | refine blk_drewN ?_ _ | refine blk_drew ?_ | refine blk_alloc ?_ _)); refine blk_far ?_ NB166_164.out _; (with_reducible repeat (first | refine blk_drewN ?_ _ | refine blk_drew ?_ | refine blk_alloc ?_ _)); exact BK166.out) Try.underlying60 rfl (by kernel_rfl)) rfl ?_
      exact ⟨by first | rfl | (simp [errW_none, errW_some] <;> rfl) | (simp [*, errW_none, errW_some] <;> rfl), by repeat (first | (with_reducible first | exact HB.out | apply below_alloc | apply pw_below_drewN | apply below_drew1 | refine below_set ?_ GE164.out | refine below_set ?_ GE165.out | refine below_set ?_ GE166.out) | exact HB.out)⟩
    · rw [if_neg c15] at H
      have c15b0 : decide (t167 < 0) = false := decide_eq_false c15
      clear c15
      simp only [Option.some.injEq, Prod.mk.injEq] at H
      obtain ⟨rfl, rfl, rfl⟩ := H
      go_enter Try.func75, Try.ntmps75
      go_wp2_with (first | ((with_reducible refine gate_dst (N := 2) rfl ?_); refine box_event ?hg (N := 2) ?hd (cs := #[.bool a0_0, .int .u64 a0_1, .int .u64 a0_2]) (t := 60) ?hr ?_; (case hd => rfl); (case hg => rfl); (case hr => first | (go_simp; done) | (go_simp; rfl)); intro gb164 hg w28 hbox hb; have n0_ := Aside0.mk (below_step (by repeat (first | (with_reducible first | exact HB.out | apply below_alloc | apply pw_below_drewN | apply below_drew1) | exact HB.out)) hb); have n1_ := Aside0.mk (hbox); have n2_ := Aside0.mk ((by rw [hg]; exact (below_size (by repeat (first | (with_reducible first | exact HB.out | apply below_alloc | apply pw_below_drewN | apply below_drew1) | exact HB.out))) : w.heap.size ≤ gb164)); have n3_ := Aside0.mk ((by rw [hg]; exact (below_size (by repeat (first | (with_reducible first | exact HB.out | apply below_alloc | apply pw_below_drewN | apply below_drew1) | exact HB.out))) : w.heap.size ≤ gb164)); clear HB; have HB := n0_; have BK164 := n1_; have GW164 := n2_; have GE164 := n3_; clear n0_ n1_ n2_ n3_; clear hb hbox hg) | ((with_reducible refine gate_dst (N := 3) rfl ?_); refine box_event ?hg (N := 3) ?hd (cs := #[.bool a1_0, .int .u64 a1_1, .int .u64 a1_2]) (t := 60) ?hr ?_; (case hd => rfl); (case hg => rfl); (case hr => first | (go_simp; done) | (go_simp; rfl)); intro gb165 hg w29 hbox hb; have n0_ := Aside0.mk (blk_below (g := gb164) (o := .cells #[.bool a0_0, .int .u64 a0_1, .int .u64 a0_2] 60 (0, 0)) (by (with_reducible repeat (first | refine blk_drewN ?_ _ | refine blk_drew ?_ | refine blk_alloc ?_ _)); exact BK164.out) hb); have n1_ := Aside0.mk (below_step (by repeat (first | (with_reducible first | exact HB.out | apply below_alloc | apply pw_below_drewN | apply below_drew1 | refine below_set ?_ GE164.out) | exact HB.out)) hb); have n2_ := Aside0.mk (hbox); have n3_ := Aside0.mk ((by rw [hg]; exact (below_size (by repeat (first | (with_reducible first | exact HB.out | apply below_alloc | apply pw_below_drewN | apply below_drew1 | refine below_set ?_ GE164.out) | exact HB.out))) : w.heap.size ≤ gb165)); have n4_ := Aside0.mk ((by rw [hg]; exact (below_size (by repeat (first | (with_reducible first | exact HB.out | apply below_alloc | apply pw_below_drewN | apply below_drew1 | refine below_set ?_ GE164.out) | exact HB.out))) : w.heap.size ≤ gb165)); have n5_ := Aside0.mk ((by rw [hg]; exact Nat.ne_of_lt (blk_lt (g := gb164) (o := .cells #[.bool a0_0, .int .u64 a0_1, .int .u64 a0_2] 60 (0, 0)) (by (with_reducible repeat (first | refine blk_drewN ?_ _ | refine blk_drew ?_ | refine blk_alloc ?_ _)); exact BK164.out)) : gb164 ≠ gb165)); have n6_ := Aside0.mk ((by rw [hg]; exact Nat.ne_of_gt (blk_lt (g := gb164) (o := .cells #[.bool a0_0, .int .u64 a0_1, .int .u64 a0_2] 60 (0, 0)) (by (with_reducible repeat (first | refine blk_drewN ?_ _ | refine blk_drew ?_ | refine blk_alloc ?_ _)); exact BK164.out)) : gb165 ≠ gb164)); clear BK164; clear HB; have BK164 := n0_; have HB := n1_; have BK165 := n2_; have GW165 := n3_; have GE165 := n4_; have NB164_165 := n5_; have NB165_164 := n6_; clear n0_ n1_ n2_ n3_ n4_ n5_ n6_; clear hb hbox hg) | ((with_reducible refine gate_dst (N := 4) rfl ?_); refine box_event ?hg (N := 4) ?hd (cs := #[.bool false, .int .u64 0, .int .u64 0]) (t := 60) ?hr ?_; (case hd => rfl); (case hg => rfl); (case hr => first | (go_simp; done) | (go_simp; rfl)); intro gb166 hg w30 hbox hb; have n0_ := Aside0.mk (blk_below (g := gb164) (o := .cells #[.bool a0_0, .int .u64 a0_1, .int .u64 a0_2] 60 (0, 0)) (by (with_reducible repeat (first | refine blk_drewN ?_ _ | refine blk_drew ?_ | refine blk_alloc ?_ _)); exact BK164.out) hb); have n1_ := Aside0.mk (blk_below (g := gb165) (o := .cells #[.bool a1_0, .int .u64 a1_1, .int .u64 a1_2] 60 (0, 0)) (by (with_reducible repeat (first | refine blk_drewN ?_ _ | refine blk_drew ?_ | refine blk_alloc ?_ _)); exact BK165.out) hb); have n2_ := Aside0.mk (below_step (by repeat (first | (with_reducible first | exact HB.out | apply below_alloc | apply pw_below_drewN | apply below_drew1 | refine below_set ?_ GE164.out | refine below_set ?_ GE165.out) | exact HB.out)) hb); have n3_ := Aside0.mk (hbox); have n4_ := Aside0.mk ((by rw [hg]; exact (below_size (by repeat (first | (with_reducible first | exact HB.out | apply below_alloc | apply pw_below_drewN | apply below_drew1 | refine below_set ?_ GE164.out | refine below_set ?_ GE165.out) | exact HB.out))) : w.heap.size ≤ gb166)); have n5_ := Aside0.mk ((by rw [hg]; exact (below_size (by repeat (first | (with_reducible first | exact HB.out | apply below_alloc | apply pw_below_drewN | apply below_drew1 | refine below_set ?_ GE164.out | refine below_set ?_ GE165.out) | exact HB.out))) : w.heap.size ≤ gb166)); have n6_ := Aside0.mk ((by rw [hg]; exact Nat.ne_of_lt (blk_lt (g := gb164) (o := .cells #[.bool a0_0, .int .u64 a0_1, .int .u64 a0_2] 60 (0, 0)) (by (with_reducible repeat (first | refine blk_drewN ?_ _ | refine blk_drew ?_ | refine blk_alloc ?_ _)); exact BK164.out)) : gb164 ≠ gb166)); have n7_ := Aside0.mk ((by rw [hg]; exact Nat.ne_of_gt (blk_lt (g := gb164) (o := .cells #[.bool a0_0, .int .u64 a0_1, .int .u64 a0_2] 60 (0, 0)) (by (with_reducible repeat (first | refine blk_drewN ?_ _ | refine blk_drew ?_ | refine blk_alloc ?_ _)); exact BK164.out)) : gb166 ≠ gb164)); have n8_ := Aside0.mk ((by rw [hg]; exact Nat.ne_of_lt (blk_lt (g := gb165) (o := .cells #[.bool a1_0, .int .u64 a1_1, .int .u64 a1_2] 60 (0, 0)) (by (with_reducible repeat (first | refine blk_drewN ?_ _ | refine blk_drew ?_ | refine blk_alloc ?_ _)); exact BK165.out)) : gb165 ≠ gb166)); have n9_ := Aside0.mk ((by rw [hg]; exact Nat.ne_of_gt (blk_lt (g := gb165) (o := .cells #[.bool a1_0, .int .u64 a1_1, .int .u64 a1_2] 60 (0, 0)) (by (with_reducible repeat (first | refine blk_drewN ?_ _ | refine blk_drew ?_ | refine blk_alloc ?_ _)); exact BK165.out)) : gb166 ≠ gb165)); clear BK164; clear BK165; clear HB; have BK164 := n0_; have BK165 := n1_; have HB := n2_; have BK166 := n3_; have GW166 := n4_; have GE166 := n5_; have NB164_166 := n6_; have NB166_164 := n7_; have NB165_166 := n8_; have NB166_165 := n9_; clear n0_ n1_ n2_ n3_ n4_ n5_ n6_ n7_ n8_ n9_; clear hb hbox hg; have hnb31 := NB164_165.out; have hnc31 := NB165_164.out; have hnb32 := NB164_166.out; have hnc32 := NB166_164.out; have hcz33_0 : w30.cell? ⟨gb164, 0, none⟩ = some (.bool a0_0) := (blk_cell BK164.out 0).trans rfl; have hcz33_1 : w30.cell? ⟨gb164, 1, none⟩ = some (.int .u64 a0_1) := (blk_cell BK164.out 1).trans rfl; have hcz33_2 : w30.cell? ⟨gb164, 2, none⟩ = some (.int .u64 a0_2) := (blk_cell BK164.out 2).trans rfl; have hfz33_0 := blk_frozen BK164.out 0; have hfz33_1 := blk_frozen BK164.out 1; have hfz33_2 := blk_frozen BK164.out 2; have hnb34 := NB165_166.out; have hnc34 := NB166_165.out; have hcz35_0 : w30.cell? ⟨gb165, 0, none⟩ = some (.bool a1_0) := (blk_cell BK165.out 0).trans rfl; have hcz35_1 : w30.cell? ⟨gb165, 1, none⟩ = some (.int .u64 a1_1) := (blk_cell BK165.out 1).trans rfl; have hcz35_2 : w30.cell? ⟨gb165, 2, none⟩ = some (.int .u64 a1_2) := (blk_cell BK165.out 2).trans rfl; have hfz35_0 := blk_frozen BK165.out 0; have hfz35_1 := blk_frozen BK165.out 1; have hfz35_2 := blk_frozen BK165.out 2) | ((with_reducible refine gate_callee (f := 109) rfl ?_); refine goesL_ (some 49) rfl rfl Try.func109 (by kernel_rfl) rfl #[.agg #[.int .u64 a0_1, .int .u64 a0_2], .agg #[.int .u64 a1_1, .int .u64 a1_2]] rfl (by (try simp only [List.map_toArray, List.map_cons, List.map_nil]); first | done | rfl | (simp only [List.length_drop, List.length_take]; rfl)) ?_; (with_reducible refine (fixed_words_compare.calls k a0_1 a0_2 a1_1 a1_2 t167 _ A14.out).mono ?_); rintro e w36 ⟨rfl, hb⟩; refine ⟨_, rfl, ?_⟩; have n0_ := Aside0.mk (blk_below (g := gb164) (o := .cells #[.bool a0_0, .int .u64 a0_1, .int .u64 a0_2] 60 (0, 0)) (by (with_reducible repeat (first | refine blk_drewN ?_ _ | refine blk_drew ?_ | refine blk_alloc ?_ _)); exact BK164.out) hb); have n1_ := Aside0.mk (blk_below (g := gb165) (o := .cells #[.bool a1_0, .int .u64 a1_1, .int .u64 a1_2] 60 (0, 0)) (by (with_reducible repeat (first | refine blk_drewN ?_ _ | refine blk_drew ?_ | refine blk_alloc ?_ _)); exact BK165.out) hb); have n2_ := Aside0.mk (blk_below (g := gb166) (o := .cells #[.bool false, .int .u64 0, .int .u64 0] 60 (0, 0)) (by (with_reducible repeat (first | refine blk_drewN ?_ _ | refine blk_drew ?_ | refine blk_alloc ?_ _)); exact BK166.out) hb); have n3_ := Aside0.mk (below_step (by repeat (first | (with_reducible first | exact HB.out | apply below_alloc | apply pw_below_drewN | apply below_drew1 | refine below_set ?_ GE164.out | refine below_set ?_ GE165.out | refine below_set ?_ GE166.out) | exact HB.out)) hb); clear BK164; clear BK165; clear BK166; clear HB; have BK164 := n0_; have BK165 := n1_; have BK166 := n2_; have HB := n3_; clear n0_ n1_ n2_ n3_; (try clear hb); (try clear hb2); (try clear hk); (try clear hi); have hcz37_0 : w36.cell? ⟨gb164, 0, none⟩ = some (.bool a0_0) := (blk_cell BK164.out 0).trans rfl; have hcz37_1 : w36.cell? ⟨gb164, 1, none⟩ = some (.int .u64 a0_1) := (blk_cell BK164.out 1).trans rfl; have hcz37_2 : w36.cell? ⟨gb164, 2, none⟩ = some (.int .u64 a0_2) := (blk_cell BK164.out 2).trans rfl; have hfz37_0 := blk_frozen BK164.out 0; have hfz37_1 := blk_frozen BK164.out 1; have hfz37_2 := blk_frozen BK164.out 2; have hcz38_0 : w36.cell? ⟨gb165, 0, none⟩ = some (.bool a1_0) := (blk_cell BK165.out 0).trans rfl; have hcz38_1 : w36.cell? ⟨gb165, 1, none⟩ = some (.int .u64 a1_1) := (blk_cell BK165.out 1).trans rfl; have hcz38_2 : w36.cell? ⟨gb165, 2, none⟩ = some (.int .u64 a1_2) := (blk_cell BK165.out 2).trans rfl; have hfz38_0 := blk_frozen BK165.out 0; have hfz38_1 := blk_frozen BK165.out 1; have hfz38_2 := blk_frozen BK165.out 2; have hcz39_0 : w36.cell? ⟨gb166, 0, none⟩ = some (.bool false) := (blk_cell BK166.out 0).trans rfl; have hcz39_1 : w36.cell? ⟨gb166, 1, none⟩ = some (.int .u64 0) := (blk_cell BK166.out 1).trans rfl; have hcz39_2 : w36.cell? ⟨gb166, 2, none⟩ = some (.int .u64 0) := (blk_cell BK166.out 2).trans rfl; have hfz39_0 := blk_frozen BK166.out 0; have hfz39_1 := blk_frozen BK166.out 1; have hfz39_2 := blk_frozen BK166.out 2))
      refine bodyPost_ret (results_cell_row rfl _ _ gb166 60 #[.bool a0_0, .int .u64 (sub64s a0_1 a1_1 0), .int .u64 (sub64s a0_2 a1_2 (sub64c a0_1 a1_1 0))] (0, 0) _ rfl (by (with_reducible repeat (first | refine blk_drewN ?_ _ | refine blk_drew ?_ | refine blk_alloc ?_ _)); refine blk_put (cs := #[.bool a0_0, .int .u64 (sub64s a0_1 a1_1 0), .int .u64 0]) ?_ 2 _ rfl; (with_reducible repeat (first | refine blk_drewN ?_ _ | refine blk_drew ?_ | refine blk_alloc ?_ _)); refine blk_put (cs := #[.bool a0_0, .int .u64 0, .int .u64 0]) ?_ 1 _ rfl; (with_reducible repeat (first | refine blk_drewN ?_ _ | refine blk_drew ?_ | refine blk_alloc ?_ _)); refine blk_put (cs := #[.bool false, .int .u64 0, .int .u64 0]) ?_ 0 _ rfl; (with_reducible repeat (first | refine blk_drewN ?_ _ | refine blk_drew ?_ | refine blk_alloc ?_ _)); exact BK166.out) Try.underlying60 rfl (by kernel_rfl)) rfl ?_
      exact ⟨by first | rfl | (simp [errW_none, errW_some] <;> rfl) | (simp [*, errW_none, errW_some] <;> rfl), by repeat (first | (with_reducible first | exact HB.out | apply below_alloc | apply pw_below_drewN | apply below_drew1 | refine below_set ?_ GE164.out | refine below_set ?_ GE165.out | refine below_set ?_ GE166.out) | exact HB.out)⟩
def fixed_Order.f (k : Nat) (a0 : Int) (a1 : Int) (a2 : Int) (a3 : Int) : Option (Int) := (fixed_product.f a0 a1).bind fun bt168 => ((fixed_product.f a2 a3).bind fun bt172 => ((fixed_exact_plus.f k bt168.1 bt168.2.1 bt168.2.2 (!bt172.1) bt172.2.1 bt172.2.2).bind fun bt176 => (if (bt176.2.1 == 0 && (bt176.2.2 == 0)) = true then (some 0) else (if bt176.1 = true then (some (-1)) else (some 1)))))
set_option maxHeartbeats 8000000 in
set_option maxRecDepth 100000 in
theorem fixed_Order.calls (k : Nat) (a0 : Int) (a1 : Int) (a2 : Int) (a3 : Int) (r : Int) (w : World) (h : fixed_Order.f k a0 a1 a2 a3 = some r) :
    Calls Try.prog 21 #[.int .i64 a0, .int .i64 a1, .int .i64 a2, .int .i64 a3] w fun e w' => e = .returned (.int .i64 r) ∧ Below w.heap.size w w' := by
  have hu60 := Try.underlying60
  have hu58 := Try.underlying58
  have HB := Aside0.mk (Below.refl w.heap.size w)
  have H : ((fixed_product.f a0 a1).bind fun bt168 => ((fixed_product.f a2 a3).bind fun bt172 => ((fixed_exact_plus.f k bt168.1 bt168.2.1 bt168.2.2 (!bt172.1) bt172.2.1 bt172.2.2).bind fun bt176 => (if (bt176.2.1 == 0 && (bt176.2.2 == 0)) = true then (some 0) else (if bt176.1 = true then (some (-1)) else (some 1)))))) = some r := h
  clear h
  replace H := Option.bind_eq_some_iff.mp H
  obtain ⟨⟨t168, t169, t170⟩, A50, H⟩ := H
  replace H : ((fixed_product.f a2 a3).bind fun bt172 => ((fixed_exact_plus.f k t168 t169 t170 (!bt172.1) bt172.2.1 bt172.2.2).bind fun bt176 => (if (bt176.2.1 == 0 && (bt176.2.2 == 0)) = true then (some 0) else (if bt176.1 = true then (some (-1)) else (some 1))))) = some r := H
  have A5 := Aside0.mk A50
  clear A50
  replace H := Option.bind_eq_some_iff.mp H
  obtain ⟨⟨t172, t173, t174⟩, A60, H⟩ := H
  replace H : ((fixed_exact_plus.f k t168 t169 t170 (!t172) t173 t174).bind fun bt176 => (if (bt176.2.1 == 0 && (bt176.2.2 == 0)) = true then (some 0) else (if bt176.1 = true then (some (-1)) else (some 1)))) = some r := H
  have A6 := Aside0.mk A60
  clear A60
  replace H := Option.bind_eq_some_iff.mp H
  obtain ⟨⟨t176, t177, t178⟩, A70, H⟩ := H
  replace H : (if (t177 == 0 && (t178 == 0)) = true then (some 0) else (if t176 = true then (some (-1)) else (some 1))) = some r := H
  have A7 := Aside0.mk A70
  clear A70
  by_cases c8 : (t177 == 0 && (t178 == 0)) = true
  · rw [if_pos c8] at H
    have c8b0 : (t177 == 0 && (t178 == 0)) = true := c8
    (try (have c8b1 : decide (t177 = 0 && (t178 == 0)) = true := by simpa using c8))
    (try (have c8b2 : (t177 == 0 && (t178 == 0)) = true := by simpa using c8))
    clear c8
    obtain rfl := Option.some.inj H
    go_enter Try.func21, Try.ntmps21
    go_wp2_with (first | ((with_reducible refine gate_callee (f := 74) rfl ?_); refine goesL_ (some 14) rfl rfl Try.func74 (by kernel_rfl) rfl #[.int .i64 a0, .int .i64 a1] rfl (by (try simp only [List.map_toArray, List.map_cons, List.map_nil]); first | done | rfl | (simp only [List.length_drop, List.length_take]; rfl)) ?_; (with_reducible refine (fixed_product.calls a0 a1 t168 t169 t170 _ A5.out).mono ?_); rintro e w9 ⟨rfl, hb⟩; refine ⟨_, rfl, ?_⟩; have n0_ := Aside0.mk (below_step (by repeat (first | (with_reducible first | exact HB.out | apply below_alloc | apply pw_below_drewN | apply below_drew1) | exact HB.out)) hb); clear HB; have HB := n0_; clear n0_; (try clear hb); (try clear hb2); (try clear hk); (try clear hi)) | ((with_reducible refine gate_dst (N := 9) rfl ?_); refine box_event ?hg (N := 9) ?hd (cs := #[.bool false, .int .u64 0, .int .u64 0]) (t := 60) ?hr ?_; (case hd => rfl); (case hg => rfl); (case hr => first | (go_simp; done) | (go_simp; rfl)); intro gb171 hg w10 hbox hb; have n0_ := Aside0.mk (below_step (by repeat (first | (with_reducible first | exact HB.out | apply below_alloc | apply pw_below_drewN | apply below_drew1) | exact HB.out)) hb); have n1_ := Aside0.mk (hbox); have n2_ := Aside0.mk ((by rw [hg]; exact (below_size (by repeat (first | (with_reducible first | exact HB.out | apply below_alloc | apply pw_below_drewN | apply below_drew1) | exact HB.out))) : w.heap.size ≤ gb171)); have n3_ := Aside0.mk ((by rw [hg]; exact (below_size (by repeat (first | (with_reducible first | exact HB.out | apply below_alloc | apply pw_below_drewN | apply below_drew1) | exact HB.out))) : w.heap.size ≤ gb171)); clear HB; have HB := n0_; have BK171 := n1_; have GW171 := n2_; have GE171 := n3_; clear n0_ n1_ n2_ n3_; clear hb hbox hg; have hcz11_0 : w10.cell? ⟨gb171, 0, none⟩ = some (.bool false) := (blk_cell BK171.out 0).trans rfl; have hcz11_1 : w10.cell? ⟨gb171, 1, none⟩ = some (.int .u64 0) := (blk_cell BK171.out 1).trans rfl; have hcz11_2 : w10.cell? ⟨gb171, 2, none⟩ = some (.int .u64 0) := (blk_cell BK171.out 2).trans rfl; have hfz11_0 := blk_frozen BK171.out 0; have hfz11_1 := blk_frozen BK171.out 1; have hfz11_2 := blk_frozen BK171.out 2) | ((with_reducible refine gate_callee (f := 74) rfl ?_); refine goesL_ (some 17) rfl rfl Try.func74 (by kernel_rfl) rfl #[.int .i64 a2, .int .i64 a3] rfl (by (try simp only [List.map_toArray, List.map_cons, List.map_nil]); first | done | rfl | (simp only [List.length_drop, List.length_take]; rfl)) ?_; (with_reducible refine (fixed_product.calls a2 a3 t172 t173 t174 _ A6.out).mono ?_); rintro e w12 ⟨rfl, hb⟩; refine ⟨_, rfl, ?_⟩; have n0_ := Aside0.mk (blk_below (g := gb171) (o := .cells #[.bool t168, .int .u64 t169, .int .u64 t170] 60 (0, 0)) (by (with_reducible repeat (first | refine blk_drewN ?_ _ | refine blk_drew ?_ | refine blk_alloc ?_ _)); refine blk_put (cs := #[.bool t168, .int .u64 t169, .int .u64 0]) ?_ 2 _ rfl; (with_reducible repeat (first | refine blk_drewN ?_ _ | refine blk_drew ?_ | refine blk_alloc ?_ _)); refine blk_put (cs := #[.bool t168, .int .u64 0, .int .u64 0]) ?_ 1 _ rfl; (with_reducible repeat (first | refine blk_drewN ?_ _ | refine blk_drew ?_ | refine blk_alloc ?_ _)); refine blk_put (cs := #[.bool false, .int .u64 0, .int .u64 0]) ?_ 0 _ rfl; (with_reducible repeat (first | refine blk_drewN ?_ _ | refine blk_drew ?_ | refine blk_alloc ?_ _)); exact BK171.out) hb); have n1_ := Aside0.mk (below_step (by repeat (first | (with_reducible first | exact HB.out | apply below_alloc | apply pw_below_drewN | apply below_drew1 | refine below_set ?_ GE171.out) | exact HB.out)) hb); clear BK171; clear HB; have BK171 := n0_; have HB := n1_; clear n0_ n1_; (try clear hb); (try clear hb2); (try clear hk); (try clear hi)) | ((with_reducible refine gate_dst (N := 10) rfl ?_); refine box_event ?hg (N := 10) ?hd (cs := #[.bool false, .int .u64 0, .int .u64 0]) (t := 60) ?hr ?_; (case hd => rfl); (case hg => rfl); (case hr => first | (go_simp; done) | (go_simp; rfl)); intro gb175 hg w13 hbox hb; have n0_ := Aside0.mk (blk_below (g := gb171) (o := .cells #[.bool t168, .int .u64 t169, .int .u64 t170] 60 (0, 0)) (by (with_reducible repeat (first | refine blk_drewN ?_ _ | refine blk_drew ?_ | refine blk_alloc ?_ _)); exact BK171.out) hb); have n1_ := Aside0.mk (below_step (by repeat (first | (with_reducible first | exact HB.out | apply below_alloc | apply pw_below_drewN | apply below_drew1 | refine below_set ?_ GE171.out) | exact HB.out)) hb); have n2_ := Aside0.mk (hbox); have n3_ := Aside0.mk ((by rw [hg]; exact (below_size (by repeat (first | (with_reducible first | exact HB.out | apply below_alloc | apply pw_below_drewN | apply below_drew1 | refine below_set ?_ GE171.out) | exact HB.out))) : w.heap.size ≤ gb175)); have n4_ := Aside0.mk ((by rw [hg]; exact (below_size (by repeat (first | (with_reducible first | exact HB.out | apply below_alloc | apply pw_below_drewN | apply below_drew1 | refine below_set ?_ GE171.out) | exact HB.out))) : w.heap.size ≤ gb175)); have n5_ := Aside0.mk ((by rw [hg]; exact Nat.ne_of_lt (blk_lt (g := gb171) (o := .cells #[.bool t168, .int .u64 t169, .int .u64 t170] 60 (0, 0)) (by (with_reducible repeat (first | refine blk_drewN ?_ _ | refine blk_drew ?_ | refine blk_alloc ?_ _)); exact BK171.out)) : gb171 ≠ gb175)); have n6_ := Aside0.mk ((by rw [hg]; exact Nat.ne_of_gt (blk_lt (g := gb171) (o := .cells #[.bool t168, .int .u64 t169, .int .u64 t170] 60 (0, 0)) (by (with_reducible repeat (first | refine blk_drewN ?_ _ | refine blk_drew ?_ | refine blk_alloc ?_ _)); exact BK171.out)) : gb175 ≠ gb171)); clear BK171; clear HB; have BK171 := n0_; have HB := n1_; have BK175 := n2_; have GW175 := n3_; have GE175 := n4_; have NB171_175 := n5_; have NB175_171 := n6_; clear n0_ n1_ n2_ n3_ n4_ n5_ n6_; clear hb hbox hg; have hnb14 := NB175_171.out; have hnc14 := NB171_175.out; have hcz15_0 : w13.cell? ⟨gb175, 0, none⟩ = some (.bool false) := (blk_cell BK175.out 0).trans rfl; have hcz15_1 : w13.cell? ⟨gb175, 1, none⟩ = some (.int .u64 0) := (blk_cell BK175.out 1).trans rfl; have hcz15_2 : w13.cell? ⟨gb175, 2, none⟩ = some (.int .u64 0) := (blk_cell BK175.out 2).trans rfl; have hfz15_0 := blk_frozen BK175.out 0; have hfz15_1 := blk_frozen BK175.out 1; have hfz15_2 := blk_frozen BK175.out 2; have hcz16_0 : w13.cell? ⟨gb171, 0, none⟩ = some (.bool t168) := (blk_cell BK171.out 0).trans rfl; have hcz16_1 : w13.cell? ⟨gb171, 1, none⟩ = some (.int .u64 t169) := (blk_cell BK171.out 1).trans rfl; have hcz16_2 : w13.cell? ⟨gb171, 2, none⟩ = some (.int .u64 t170) := (blk_cell BK171.out 2).trans rfl; have hfz16_0 := blk_frozen BK171.out 0; have hfz16_1 := blk_frozen BK171.out 1; have hfz16_2 := blk_frozen BK171.out 2) | ((with_reducible refine gate_callee (f := 75) rfl ?_); refine goesL_ (some 24) rfl rfl Try.func75 (by kernel_rfl) rfl #[.agg #[.bool t168, .int .u64 t169, .int .u64 t170], .agg #[.bool (!t172), .int .u64 t173, .int .u64 t174]] rfl (by (try simp only [List.map_toArray, List.map_cons, List.map_nil]); first | done | rfl | (simp only [List.length_drop, List.length_take]; rfl)) ?_; (with_reducible refine (fixed_exact_plus.calls k t168 t169 t170 (!t172) t173 t174 t176 t177 t178 _ A7.out).mono ?_); rintro e w17 ⟨rfl, hb⟩; refine ⟨_, rfl, ?_⟩; have n0_ := Aside0.mk (blk_below (g := gb171) (o := .cells #[.bool t168, .int .u64 t169, .int .u64 t170] 60 (0, 0)) (by (with_reducible repeat (first | refine blk_drewN ?_ _ | refine blk_drew ?_ | refine blk_alloc ?_ _)); refine blk_far ?_ NB171_175.out _; (with_reducible repeat (first | refine blk_drewN ?_ _ | refine blk_drew ?_ | refine blk_alloc ?_ _)); refine blk_far ?_ NB171_175.out _; (with_reducible repeat (first | refine blk_drewN ?_ _ | refine blk_drew ?_ | refine blk_alloc ?_ _)); refine blk_far ?_ NB171_175.out _; (with_reducible repeat (first | refine blk_drewN ?_ _ | refine blk_drew ?_ | refine blk_alloc ?_ _)); refine blk_far ?_ NB171_175.out _; (with_reducible repeat (first | refine blk_drewN ?_ _ | refine blk_drew ?_ | refine blk_alloc ?_ _)); exact BK171.out) hb); have n1_ := Aside0.mk (blk_below (g := gb175) (o := .cells #[.bool (!t172), .int .u64 t173, .int .u64 t174] 60 (0, 0)) (by (with_reducible repeat (first | refine blk_drewN ?_ _ | refine blk_drew ?_ | refine blk_alloc ?_ _)); refine blk_put (cs := #[.bool t172, .int .u64 t173, .int .u64 t174]) ?_ 0 _ rfl; (with_reducible repeat (first | refine blk_drewN ?_ _ | refine blk_drew ?_ | refine blk_alloc ?_ _)); refine blk_put (cs := #[.bool t172, .int .u64 t173, .int .u64 0]) ?_ 2 _ rfl; (with_reducible repeat (first | refine blk_drewN ?_ _ | refine blk_drew ?_ | refine blk_alloc ?_ _)); refine blk_put (cs := #[.bool t172, .int .u64 0, .int .u64 0]) ?_ 1 _ rfl; (with_reducible repeat (first | refine blk_drewN ?_ _ | refine blk_drew ?_ | refine blk_alloc ?_ _)); refine blk_put (cs := #[.bool false, .int .u64 0, .int .u64 0]) ?_ 0 _ rfl; (with_reducible repeat (first | refine blk_drewN ?_ _ | refine blk_drew ?_ | refine blk_alloc ?_ _)); exact BK175.out) hb); have n2_ := Aside0.mk (below_step (by repeat (first | (with_reducible first | exact HB.out | apply below_alloc | apply pw_below_drewN | apply below_drew1 | refine below_set ?_ GE171.out | refine below_set ?_ GE175.out) | exact HB.out)) hb); clear BK171; clear BK175; clear HB; have BK171 := n0_; have BK175 := n1_; have HB := n2_; clear n0_ n1_ n2_; (try clear hb); (try clear hb2); (try clear hk); (try clear hi)) | ((with_reducible refine gate_dst (N := 11) rfl ?_); refine box_event ?hg (N := 11) ?hd (cs := #[.bool false, .int .u64 0, .int .u64 0]) (t := 60) ?hr ?_; (case hd => rfl); (case hg => rfl); (case hr => first | (go_simp; done) | (go_simp; rfl)); intro gb179 hg w18 hbox hb; have n0_ := Aside0.mk (blk_below (g := gb171) (o := .cells #[.bool t168, .int .u64 t169, .int .u64 t170] 60 (0, 0)) (by (with_reducible repeat (first | refine blk_drewN ?_ _ | refine blk_drew ?_ | refine blk_alloc ?_ _)); exact BK171.out) hb); have n1_ := Aside0.mk (blk_below (g := gb175) (o := .cells #[.bool (!t172), .int .u64 t173, .int .u64 t174] 60 (0, 0)) (by (with_reducible repeat (first | refine blk_drewN ?_ _ | refine blk_drew ?_ | refine blk_alloc ?_ _)); exact BK175.out) hb); have n2_ := Aside0.mk (below_step (by repeat (first | (with_reducible first | exact HB.out | apply below_alloc | apply pw_below_drewN | apply below_drew1 | refine below_set ?_ GE171.out | refine below_set ?_ GE175.out) | exact HB.out)) hb); have n3_ := Aside0.mk (hbox); have n4_ := Aside0.mk ((by rw [hg]; exact (below_size (by repeat (first | (with_reducible first | exact HB.out | apply below_alloc | apply pw_below_drewN | apply below_drew1 | refine below_set ?_ GE171.out | refine below_set ?_ GE175.out) | exact HB.out))) : w.heap.size ≤ gb179)); have n5_ := Aside0.mk ((by rw [hg]; exact (below_size (by repeat (first | (with_reducible first | exact HB.out | apply below_alloc | apply pw_below_drewN | apply below_drew1 | refine below_set ?_ GE171.out | refine below_set ?_ GE175.out) | exact HB.out))) : w.heap.size ≤ gb179)); have n6_ := Aside0.mk ((by rw [hg]; exact Nat.ne_of_lt (blk_lt (g := gb171) (o := .cells #[.bool t168, .int .u64 t169, .int .u64 t170] 60 (0, 0)) (by (with_reducible repeat (first | refine blk_drewN ?_ _ | refine blk_drew ?_ | refine blk_alloc ?_ _)); exact BK171.out)) : gb171 ≠ gb179)); have n7_ := Aside0.mk ((by rw [hg]; exact Nat.ne_of_gt (blk_lt (g := gb171) (o := .cells #[.bool t168, .int .u64 t169, .int .u64 t170] 60 (0, 0)) (by (with_reducible repeat (first | refine blk_drewN ?_ _ | refine blk_drew ?_ | refine blk_alloc ?_ _)); exact BK171.out)) : gb179 ≠ gb171)); have n8_ := Aside0.mk ((by rw [hg]; exact Nat.ne_of_lt (blk_lt (g := gb175) (o := .cells #[.bool (!t172), .int .u64 t173, .int .u64 t174] 60 (0, 0)) (by (with_reducible repeat (first | refine blk_drewN ?_ _ | refine blk_drew ?_ | refine blk_alloc ?_ _)); exact BK175.out)) : gb175 ≠ gb179)); have n9_ := Aside0.mk ((by rw [hg]; exact Nat.ne_of_gt (blk_lt (g := gb175) (o := .cells #[.bool (!t172), .int .u64 t173, .int .u64 t174] 60 (0, 0)) (by (with_reducible repeat (first | refine blk_drewN ?_ _ | refine blk_drew ?_ | refine blk_alloc ?_ _)); exact BK175.out)) : gb179 ≠ gb175)); clear BK171; clear BK175; clear HB; have BK171 := n0_; have BK175 := n1_; have HB := n2_; have BK179 := n3_; have GW179 := n4_; have GE179 := n5_; have NB171_179 := n6_; have NB179_171 := n7_; have NB175_179 := n8_; have NB179_175 := n9_; clear n0_ n1_ n2_ n3_ n4_ n5_ n6_ n7_ n8_ n9_; clear hb hbox hg; have hnb19 := NB179_171.out; have hnc19 := NB171_179.out; have hnb20 := NB179_175.out; have hnc20 := NB175_179.out; have hcz21_0 : w18.cell? ⟨gb179, 0, none⟩ = some (.bool false) := (blk_cell BK179.out 0).trans rfl; have hcz21_1 : w18.cell? ⟨gb179, 1, none⟩ = some (.int .u64 0) := (blk_cell BK179.out 1).trans rfl; have hcz21_2 : w18.cell? ⟨gb179, 2, none⟩ = some (.int .u64 0) := (blk_cell BK179.out 2).trans rfl; have hfz21_0 := blk_frozen BK179.out 0; have hfz21_1 := blk_frozen BK179.out 1; have hfz21_2 := blk_frozen BK179.out 2))
    go_ret
    exact ⟨by first | rfl | (simp [errW_none, errW_some] <;> rfl) | (simp [*, errW_none, errW_some] <;> rfl), by repeat (first | (with_reducible first | exact HB.out | apply below_alloc | apply pw_below_drewN | apply below_drew1 | refine below_set ?_ GE171.out | refine below_set ?_ GE175.out | refine below_set ?_ GE179.out) | exact HB.out)⟩
  · rw [if_neg c8] at H
    have c8b0 : (t177 == 0 && (t178 == 0)) = false := by simpa using c8
    (try (have c8b1 : decide (t177 = 0 && (t178 == 0)) = false := by simpa using c8))
    (try (have c8b2 : (t177 == 0 && (t178 == 0)) = false := by simpa using c8))
    (try (have c8b3 : ¬ (t177 = 0 && (t178 == 0)) := by simpa using c8))
    clear c8
    by_cases c22 : t176 = true
    · subst c22
      have H1 : (some (-1)) = some r := by rw [if_pos rfl] at H; exact H
      clear H
      have H := H1
      clear H1
      obtain rfl := Option.some.inj H
      go_enter Try.func21, Try.ntmps21
      go_wp2_with (first | ((with_reducible refine gate_callee (f := 74) rfl ?_); refine goesL_ (some 14) rfl rfl Try.func74 (by kernel_rfl) rfl #[.int .i64 a0, .int .i64 a1] rfl (by (try simp only [List.map_toArray, List.map_cons, List.map_nil]); first | done | rfl | (simp only [List.length_drop, List.length_take]; rfl)) ?_; (with_reducible refine (fixed_product.calls a0 a1 t168 t169 t170 _ A5.out).mono ?_); rintro e w23 ⟨rfl, hb⟩; refine ⟨_, rfl, ?_⟩; have n0_ := Aside0.mk (below_step (by repeat (first | (with_reducible first | exact HB.out | apply below_alloc | apply pw_below_drewN | apply below_drew1) | exact HB.out)) hb); clear HB; have HB := n0_; clear n0_; (try clear hb); (try clear hb2); (try clear hk); (try clear hi)) | ((with_reducible refine gate_dst (N := 9) rfl ?_); refine box_event ?hg (N := 9) ?hd (cs := #[.bool false, .int .u64 0, .int .u64 0]) (t := 60) ?hr ?_; (case hd => rfl); (case hg => rfl); (case hr => first | (go_simp; done) | (go_simp; rfl)); intro gb171 hg w24 hbox hb; have n0_ := Aside0.mk (below_step (by repeat (first | (with_reducible first | exact HB.out | apply below_alloc | apply pw_below_drewN | apply below_drew1) | exact HB.out)) hb); have n1_ := Aside0.mk (hbox); have n2_ := Aside0.mk ((by rw [hg]; exact (below_size (by repeat (first | (with_reducible first | exact HB.out | apply below_alloc | apply pw_below_drewN | apply below_drew1) | exact HB.out))) : w.heap.size ≤ gb171)); have n3_ := Aside0.mk ((by rw [hg]; exact (below_size (by repeat (first | (with_reducible first | exact HB.out | apply below_alloc | apply pw_below_drewN | apply below_drew1) | exact HB.out))) : w.heap.size ≤ gb171)); clear HB; have HB := n0_; have BK171 := n1_; have GW171 := n2_; have GE171 := n3_; clear n0_ n1_ n2_ n3_; clear hb hbox hg; have hcz25_0 : w24.cell? ⟨gb171, 0, none⟩ = some (.bool false) := (blk_cell BK171.out 0).trans rfl; have hcz25_1 : w24.cell? ⟨gb171, 1, none⟩ = some (.int .u64 0) := (blk_cell BK171.out 1).trans rfl; have hcz25_2 : w24.cell? ⟨gb171, 2, none⟩ = some (.int .u64 0) := (blk_cell BK171.out 2).trans rfl; have hfz25_0 := blk_frozen BK171.out 0; have hfz25_1 := blk_frozen BK171.out 1; have hfz25_2 := blk_frozen BK171.out 2) | ((with_reducible refine gate_callee (f := 74) rfl ?_); refine goesL_ (some 17) rfl rfl Try.func74 (by kernel_rfl) rfl #[.int .i64 a2, .int .i64 a3] rfl (by (try simp only [List.map_toArray, List.map_cons, List.map_nil]); first | done | rfl | (simp only [List.length_drop, List.length_take]; rfl)) ?_; (with_reducible refine (fixed_product.calls a2 a3 t172 t173 t174 _ A6.out).mono ?_); rintro e w26 ⟨rfl, hb⟩; refine ⟨_, rfl, ?_⟩; have n0_ := Aside0.mk (blk_below (g := gb171) (o := .cells #[.bool t168, .int .u64 t169, .int .u64 t170] 60 (0, 0)) (by (with_reducible repeat (first | refine blk_drewN ?_ _ | refine blk_drew ?_ | refine blk_alloc ?_ _)); refine blk_put (cs := #[.bool t168, .int .u64 t169, .int .u64 0]) ?_ 2 _ rfl; (with_reducible repeat (first | refine blk_drewN ?_ _ | refine blk_drew ?_ | refine blk_alloc ?_ _)); refine blk_put (cs := #[.bool t168, .int .u64 0, .int .u64 0]) ?_ 1 _ rfl; (with_reducible repeat (first | refine blk_drewN ?_ _ | refine blk_drew ?_ | refine blk_alloc ?_ _)); refine blk_put (cs := #[.bool false, .int .u64 0, .int .u64 0]) ?_ 0 _ rfl; (with_reducible repeat (first | refine blk_drewN ?_ _ | refine blk_drew ?_ | refine blk_alloc ?_ _)); exact BK171.out) hb); have n1_ := Aside0.mk (below_step (by repeat (first | (with_reducible first | exact HB.out | apply below_alloc | apply pw_below_drewN | apply below_drew1 | refine below_set ?_ GE171.out) | exact HB.out)) hb); clear BK171; clear HB; have BK171 := n0_; have HB := n1_; clear n0_ n1_; (try clear hb); (try clear hb2); (try clear hk); (try clear hi)) | ((with_reducible refine gate_dst (N := 10) rfl ?_); refine box_event ?hg (N := 10) ?hd (cs := #[.bool false, .int .u64 0, .int .u64 0]) (t := 60) ?hr ?_; (case hd => rfl); (case hg => rfl); (case hr => first | (go_simp; done) | (go_simp; rfl)); intro gb175 hg w27 hbox hb; have n0_ := Aside0.mk (blk_below (g := gb171) (o := .cells #[.bool t168, .int .u64 t169, .int .u64 t170] 60 (0, 0)) (by (with_reducible repeat (first | refine blk_drewN ?_ _ | refine blk_drew ?_ | refine blk_alloc ?_ _)); exact BK171.out) hb); have n1_ := Aside0.mk (below_step (by repeat (first | (with_reducible first | exact HB.out | apply below_alloc | apply pw_below_drewN | apply below_drew1 | refine below_set ?_ GE171.out) | exact HB.out)) hb); have n2_ := Aside0.mk (hbox); have n3_ := Aside0.mk ((by rw [hg]; exact (below_size (by repeat (first | (with_reducible first | exact HB.out | apply below_alloc | apply pw_below_drewN | apply below_drew1 | refine below_set ?_ GE171.out) | exact HB.out))) : w.heap.size ≤ gb175)); have n4_ := Aside0.mk ((by rw [hg]; exact (below_size (by repeat (first | (with_reducible first | exact HB.out | apply below_alloc | apply pw_below_drewN | apply below_drew1 | refine below_set ?_ GE171.out) | exact HB.out))) : w.heap.size ≤ gb175)); have n5_ := Aside0.mk ((by rw [hg]; exact Nat.ne_of_lt (blk_lt (g := gb171) (o := .cells #[.bool t168, .int .u64 t169, .int .u64 t170] 60 (0, 0)) (by (with_reducible repeat (first | refine blk_drewN ?_ _ | refine blk_drew ?_ | refine blk_alloc ?_ _)); exact BK171.out)) : gb171 ≠ gb175)); have n6_ := Aside0.mk ((by rw [hg]; exact Nat.ne_of_gt (blk_lt (g := gb171) (o := .cells #[.bool t168, .int .u64 t169, .int .u64 t170] 60 (0, 0)) (by (with_reducible repeat (first | refine blk_drewN ?_ _ | refine blk_drew ?_ | refine blk_alloc ?_ _)); exact BK171.out)) : gb175 ≠ gb171)); clear BK171; clear HB; have BK171 := n0_; have HB := n1_; have BK175 := n2_; have GW175 := n3_; have GE175 := n4_; have NB171_175 := n5_; have NB175_171 := n6_; clear n0_ n1_ n2_ n3_ n4_ n5_ n6_; clear hb hbox hg; have hnb28 := NB175_171.out; have hnc28 := NB171_175.out; have hcz29_0 : w27.cell? ⟨gb175, 0, none⟩ = some (.bool false) := (blk_cell BK175.out 0).trans rfl; have hcz29_1 : w27.cell? ⟨gb175, 1, none⟩ = some (.int .u64 0) := (blk_cell BK175.out 1).trans rfl; have hcz29_2 : w27.cell? ⟨gb175, 2, none⟩ = some (.int .u64 0) := (blk_cell BK175.out 2).trans rfl; have hfz29_0 := blk_frozen BK175.out 0; have hfz29_1 := blk_frozen BK175.out 1; have hfz29_2 := blk_frozen BK175.out 2; have hcz30_0 : w27.cell? ⟨gb171, 0, none⟩ = some (.bool t168) := (blk_cell BK171.out 0).trans rfl; have hcz30_1 : w27.cell? ⟨gb171, 1, none⟩ = some (.int .u64 t169) := (blk_cell BK171.out 1).trans rfl; have hcz30_2 : w27.cell? ⟨gb171, 2, none⟩ = some (.int .u64 t170) := (blk_cell BK171.out 2).trans rfl; have hfz30_0 := blk_frozen BK171.out 0; have hfz30_1 := blk_frozen BK171.out 1; have hfz30_2 := blk_frozen BK171.out 2) | ((with_reducible refine gate_callee (f := 75) rfl ?_); refine goesL_ (some 24) rfl rfl Try.func75 (by kernel_rfl) rfl #[.agg #[.bool t168, .int .u64 t169, .int .u64 t170], .agg #[.bool (!t172), .int .u64 t173, .int .u64 t174]] rfl (by (try simp only [List.map_toArray, List.map_cons, List.map_nil]); first | done | rfl | (simp only [List.length_drop, List.length_take]; rfl)) ?_; (with_reducible refine (fixed_exact_plus.calls k t168 t169 t170 (!t172) t173 t174 true t177 t178 _ A7.out).mono ?_); rintro e w31 ⟨rfl, hb⟩; refine ⟨_, rfl, ?_⟩; have n0_ := Aside0.mk (blk_below (g := gb171) (o := .cells #[.bool t168, .int .u64 t169, .int .u64 t170] 60 (0, 0)) (by (with_reducible repeat (first | refine blk_drewN ?_ _ | refine blk_drew ?_ | refine blk_alloc ?_ _)); refine blk_far ?_ NB171_175.out _; (with_reducible repeat (first | refine blk_drewN ?_ _ | refine blk_drew ?_ | refine blk_alloc ?_ _)); refine blk_far ?_ NB171_175.out _; (with_reducible repeat (first | refine blk_drewN ?_ _ | refine blk_drew ?_ | refine blk_alloc ?_ _)); refine blk_far ?_ NB171_175.out _; (with_reducible repeat (first | refine blk_drewN ?_ _ | refine blk_drew ?_ | refine blk_alloc ?_ _)); refine blk_far ?_ NB171_175.out _; (with_reducible repeat (first | refine blk_drewN ?_ _ | refine blk_drew ?_ | refine blk_alloc ?_ _)); exact BK171.out) hb); have n1_ := Aside0.mk (blk_below (g := gb175) (o := .cells #[.bool (!t172), .int .u64 t173, .int .u64 t174] 60 (0, 0)) (by (with_reducible repeat (first | refine blk_drewN ?_ _ | refine blk_drew ?_ | refine blk_alloc ?_ _)); refine blk_put (cs := #[.bool t172, .int .u64 t173, .int .u64 t174]) ?_ 0 _ rfl; (with_reducible repeat (first | refine blk_drewN ?_ _ | refine blk_drew ?_ | refine blk_alloc ?_ _)); refine blk_put (cs := #[.bool t172, .int .u64 t173, .int .u64 0]) ?_ 2 _ rfl; (with_reducible repeat (first | refine blk_drewN ?_ _ | refine blk_drew ?_ | refine blk_alloc ?_ _)); refine blk_put (cs := #[.bool t172, .int .u64 0, .int .u64 0]) ?_ 1 _ rfl; (with_reducible repeat (first | refine blk_drewN ?_ _ | refine blk_drew ?_ | refine blk_alloc ?_ _)); refine blk_put (cs := #[.bool false, .int .u64 0, .int .u64 0]) ?_ 0 _ rfl; (with_reducible repeat (first | refine blk_drewN ?_ _ | refine blk_drew ?_ | refine blk_alloc ?_ _)); exact BK175.out) hb); have n2_ := Aside0.mk (below_step (by repeat (first | (with_reducible first | exact HB.out | apply below_alloc | apply pw_below_drewN | apply below_drew1 | refine below_set ?_ GE171.out | refine below_set ?_ GE175.out) | exact HB.out)) hb); clear BK171; clear BK175; clear HB; have BK171 := n0_; have BK175 := n1_; have HB := n2_; clear n0_ n1_ n2_; (try clear hb); (try clear hb2); (try clear hk); (try clear hi)) | ((with_reducible refine gate_dst (N := 11) rfl ?_); refine box_event ?hg (N := 11) ?hd (cs := #[.bool false, .int .u64 0, .int .u64 0]) (t := 60) ?hr ?_; (case hd => rfl); (case hg => rfl); (case hr => first | (go_simp; done) | (go_simp; rfl)); intro gb179 hg w32 hbox hb; have n0_ := Aside0.mk (blk_below (g := gb171) (o := .cells #[.bool t168, .int .u64 t169, .int .u64 t170] 60 (0, 0)) (by (with_reducible repeat (first | refine blk_drewN ?_ _ | refine blk_drew ?_ | refine blk_alloc ?_ _)); exact BK171.out) hb); have n1_ := Aside0.mk (blk_below (g := gb175) (o := .cells #[.bool (!t172), .int .u64 t173, .int .u64 t174] 60 (0, 0)) (by (with_reducible repeat (first | refine blk_drewN ?_ _ | refine blk_drew ?_ | refine blk_alloc ?_ _)); exact BK175.out) hb); have n2_ := Aside0.mk (below_step (by repeat (first | (with_reducible first | exact HB.out | apply below_alloc | apply pw_below_drewN | apply below_drew1 | refine below_set ?_ GE171.out | refine below_set ?_ GE175.out) | exact HB.out)) hb); have n3_ := Aside0.mk (hbox); have n4_ := Aside0.mk ((by rw [hg]; exact (below_size (by repeat (first | (with_reducible first | exact HB.out | apply below_alloc | apply pw_below_drewN | apply below_drew1 | refine below_set ?_ GE171.out | refine below_set ?_ GE175.out) | exact HB.out))) : w.heap.size ≤ gb179)); have n5_ := Aside0.mk ((by rw [hg]; exact (below_size (by repeat (first | (with_reducible first | exact HB.out | apply below_alloc | apply pw_below_drewN | apply below_drew1 | refine below_set ?_ GE171.out | refine below_set ?_ GE175.out) | exact HB.out))) : w.heap.size ≤ gb179)); have n6_ := Aside0.mk ((by rw [hg]; exact Nat.ne_of_lt (blk_lt (g := gb171) (o := .cells #[.bool t168, .int .u64 t169, .int .u64 t170] 60 (0, 0)) (by (with_reducible repeat (first | refine blk_drewN ?_ _ | refine blk_drew ?_ | refine blk_alloc ?_ _)); exact BK171.out)) : gb171 ≠ gb179)); have n7_ := Aside0.mk ((by rw [hg]; exact Nat.ne_of_gt (blk_lt (g := gb171) (o := .cells #[.bool t168, .int .u64 t169, .int .u64 t170] 60 (0, 0)) (by (with_reducible repeat (first | refine blk_drewN ?_ _ | refine blk_drew ?_ | refine blk_alloc ?_ _)); exact BK171.out)) : gb179 ≠ gb171)); have n8_ := Aside0.mk ((by rw [hg]; exact Nat.ne_of_lt (blk_lt (g := gb175) (o := .cells #[.bool (!t172), .int .u64 t173, .int .u64 t174] 60 (0, 0)) (by (with_reducible repeat (first | refine blk_drewN ?_ _ | refine blk_drew ?_ | refine blk_alloc ?_ _)); exact BK175.out)) : gb175 ≠ gb179)); have n9_ := Aside0.mk ((by rw [hg]; exact Nat.ne_of_gt (blk_lt (g := gb175) (o := .cells #[.bool (!t172), .int .u64 t173, .int .u64 t174] 60 (0, 0)) (by (with_reducible repeat (first | refine blk_drewN ?_ _ | refine blk_drew ?_ | refine blk_alloc ?_ _)); exact BK175.out)) : gb179 ≠ gb175)); clear BK171; clear BK175; clear HB; have BK171 := n0_; have BK175 := n1_; have HB := n2_; have BK179 := n3_; have GW179 := n4_; have GE179 := n5_; have NB171_179 := n6_; have NB179_171 := n7_; have NB175_179 := n8_; have NB179_175 := n9_; clear n0_ n1_ n2_ n3_ n4_ n5_ n6_ n7_ n8_ n9_; clear hb hbox hg; have hnb33 := NB179_171.out; have hnc33 := NB171_179.out; have hnb34 := NB179_175.out; have hnc34 := NB175_179.out; have hcz35_0 : w32.cell? ⟨gb179, 0, none⟩ = some (.bool false) := (blk_cell BK179.out 0).trans rfl; have hcz35_1 : w32.cell? ⟨gb179, 1, none⟩ = some (.int .u64 0) := (blk_cell BK179.out 1).trans rfl; have hcz35_2 : w32.cell? ⟨gb179, 2, none⟩ = some (.int .u64 0) := (blk_cell BK179.out 2).trans rfl; have hfz35_0 := blk_frozen BK179.out 0; have hfz35_1 := blk_frozen BK179.out 1; have hfz35_2 := blk_frozen BK179.out 2))
      go_ret
      exact ⟨by first | rfl | (simp [errW_none, errW_some] <;> rfl) | (simp [*, errW_none, errW_some] <;> rfl), by repeat (first | (with_reducible first | exact HB.out | apply below_alloc | apply pw_below_drewN | apply below_drew1 | refine below_set ?_ GE171.out | refine below_set ?_ GE175.out | refine below_set ?_ GE179.out) | exact HB.out)⟩
    · replace c22 := Bool.eq_false_iff.mpr c22
      subst c22
      have H1 : (some 1) = some r := by rw [if_neg (show ¬ (false = true) by decide)] at H; exact H
      clear H
      have H := H1
      clear H1
      obtain rfl := Option.some.inj H
      go_enter Try.func21, Try.ntmps21
      go_wp2_with (first | ((with_reducible refine gate_callee (f := 74) rfl ?_); refine goesL_ (some 14) rfl rfl Try.func74 (by kernel_rfl) rfl #[.int .i64 a0, .int .i64 a1] rfl (by (try simp only [List.map_toArray, List.map_cons, List.map_nil]); first | done | rfl | (simp only [List.length_drop, List.length_take]; rfl)) ?_; (with_reducible refine (fixed_product.calls a0 a1 t168 t169 t170 _ A5.out).mono ?_); rintro e w36 ⟨rfl, hb⟩; refine ⟨_, rfl, ?_⟩; have n0_ := Aside0.mk (below_step (by repeat (first | (with_reducible first | exact HB.out | apply below_alloc | apply pw_below_drewN | apply below_drew1) | exact HB.out)) hb); clear HB; have HB := n0_; clear n0_; (try clear hb); (try clear hb2); (try clear hk); (try clear hi)) | ((with_reducible refine gate_dst (N := 9) rfl ?_); refine box_event ?hg (N := 9) ?hd (cs := #[.bool false, .int .u64 0, .int .u64 0]) (t := 60) ?hr ?_; (case hd => rfl); (case hg => rfl); (case hr => first | (go_simp; done) | (go_simp; rfl)); intro gb171 hg w37 hbox hb; have n0_ := Aside0.mk (below_step (by repeat (first | (with_reducible first | exact HB.out | apply below_alloc | apply pw_below_drewN | apply below_drew1) | exact HB.out)) hb); have n1_ := Aside0.mk (hbox); have n2_ := Aside0.mk ((by rw [hg]; exact (below_size (by repeat (first | (with_reducible first | exact HB.out | apply below_alloc | apply pw_below_drewN | apply below_drew1) | exact HB.out))) : w.heap.size ≤ gb171)); have n3_ := Aside0.mk ((by rw [hg]; exact (below_size (by repeat (first | (with_reducible first | exact HB.out | apply below_alloc | apply pw_below_drewN | apply below_drew1) | exact HB.out))) : w.heap.size ≤ gb171)); clear HB; have HB := n0_; have BK171 := n1_; have GW171 := n2_; have GE171 := n3_; clear n0_ n1_ n2_ n3_; clear hb hbox hg; have hcz38_0 : w37.cell? ⟨gb171, 0, none⟩ = some (.bool false) := (blk_cell BK171.out 0).trans rfl; have hcz38_1 : w37.cell? ⟨gb171, 1, none⟩ = some (.int .u64 0) := (blk_cell BK171.out 1).trans rfl; have hcz38_2 : w37.cell? ⟨gb171, 2, none⟩ = some (.int .u64 0) := (blk_cell BK171.out 2).trans rfl; have hfz38_0 := blk_frozen BK171.out 0; have hfz38_1 := blk_frozen BK171.out 1; have hfz38_2 := blk_frozen BK171.out 2) | ((with_reducible refine gate_callee (f := 74) rfl ?_); refine goesL_ (some 17) rfl rfl Try.func74 (by kernel_rfl) rfl #[.int .i64 a2, .int .i64 a3] rfl (by (try simp only [List.map_toArray, List.map_cons, List.map_nil]); first | done | rfl | (simp only [List.length_drop, List.length_take]; rfl)) ?_; (with_reducible refine (fixed_product.calls a2 a3 t172 t173 t174 _ A6.out).mono ?_); rintro e w39 ⟨rfl, hb⟩; refine ⟨_, rfl, ?_⟩; have n0_ := Aside0.mk (blk_below (g := gb171) (o := .cells #[.bool t168, .int .u64 t169, .int .u64 t170] 60 (0, 0)) (by (with_reducible repeat (first | refine blk_drewN ?_ _ | refine blk_drew ?_ | refine blk_alloc ?_ _)); refine blk_put (cs := #[.bool t168, .int .u64 t169, .int .u64 0]) ?_ 2 _ rfl; (with_reducible repeat (first | refine blk_drewN ?_ _ | refine blk_drew ?_ | refine blk_alloc ?_ _)); refine blk_put (cs := #[.bool t168, .int .u64 0, .int .u64 0]) ?_ 1 _ rfl; (with_reducible repeat (first | refine blk_drewN ?_ _ | refine blk_drew ?_ | refine blk_alloc ?_ _)); refine blk_put (cs := #[.bool false, .int .u64 0, .int .u64 0]) ?_ 0 _ rfl; (with_reducible repeat (first | refine blk_drewN ?_ _ | refine blk_drew ?_ | refine blk_alloc ?_ _)); exact BK171.out) hb); have n1_ := Aside0.mk (below_step (by repeat (first | (with_reducible first | exact HB.out | apply below_alloc | apply pw_below_drewN | apply below_drew1 | refine below_set ?_ GE171.out) | exact HB.out)) hb); clear BK171; clear HB; have BK171 := n0_; have HB := n1_; clear n0_ n1_; (try clear hb); (try clear hb2); (try clear hk); (try clear hi)) | ((with_reducible refine gate_dst (N := 10) rfl ?_); refine box_event ?hg (N := 10) ?hd (cs := #[.bool false, .int .u64 0, .int .u64 0]) (t := 60) ?hr ?_; (case hd => rfl); (case hg => rfl); (case hr => first | (go_simp; done) | (go_simp; rfl)); intro gb175 hg w40 hbox hb; have n0_ := Aside0.mk (blk_below (g := gb171) (o := .cells #[.bool t168, .int .u64 t169, .int .u64 t170] 60 (0, 0)) (by (with_reducible repeat (first | refine blk_drewN ?_ _ | refine blk_drew ?_ | refine blk_alloc ?_ _)); exact BK171.out) hb); have n1_ := Aside0.mk (below_step (by repeat (first | (with_reducible first | exact HB.out | apply below_alloc | apply pw_below_drewN | apply below_drew1 | refine below_set ?_ GE171.out) | exact HB.out)) hb); have n2_ := Aside0.mk (hbox); have n3_ := Aside0.mk ((by rw [hg]; exact (below_size (by repeat (first | (with_reducible first | exact HB.out | apply below_alloc | apply pw_below_drewN | apply below_drew1 | refine below_set ?_ GE171.out) | exact HB.out))) : w.heap.size ≤ gb175)); have n4_ := Aside0.mk ((by rw [hg]; exact (below_size (by repeat (first | (with_reducible first | exact HB.out | apply below_alloc | apply pw_below_drewN | apply below_drew1 | refine below_set ?_ GE171.out) | exact HB.out))) : w.heap.size ≤ gb175)); have n5_ := Aside0.mk ((by rw [hg]; exact Nat.ne_of_lt (blk_lt (g := gb171) (o := .cells #[.bool t168, .int .u64 t169, .int .u64 t170] 60 (0, 0)) (by (with_reducible repeat (first | refine blk_drewN ?_ _ | refine blk_drew ?_ | refine blk_alloc ?_ _)); exact BK171.out)) : gb171 ≠ gb175)); have n6_ := Aside0.mk ((by rw [hg]; exact Nat.ne_of_gt (blk_lt (g := gb171) (o := .cells #[.bool t168, .int .u64 t169, .int .u64 t170] 60 (0, 0)) (by (with_reducible repeat (first | refine blk_drewN ?_ _ | refine blk_drew ?_ | refine blk_alloc ?_ _)); exact BK171.out)) : gb175 ≠ gb171)); clear BK171; clear HB; have BK171 := n0_; have HB := n1_; have BK175 := n2_; have GW175 := n3_; have GE175 := n4_; have NB171_175 := n5_; have NB175_171 := n6_; clear n0_ n1_ n2_ n3_ n4_ n5_ n6_; clear hb hbox hg; have hnb41 := NB175_171.out; have hnc41 := NB171_175.out; have hcz42_0 : w40.cell? ⟨gb175, 0, none⟩ = some (.bool false) := (blk_cell BK175.out 0).trans rfl; have hcz42_1 : w40.cell? ⟨gb175, 1, none⟩ = some (.int .u64 0) := (blk_cell BK175.out 1).trans rfl; have hcz42_2 : w40.cell? ⟨gb175, 2, none⟩ = some (.int .u64 0) := (blk_cell BK175.out 2).trans rfl; have hfz42_0 := blk_frozen BK175.out 0; have hfz42_1 := blk_frozen BK175.out 1; have hfz42_2 := blk_frozen BK175.out 2; have hcz43_0 : w40.cell? ⟨gb171, 0, none⟩ = some (.bool t168) := (blk_cell BK171.out 0).trans rfl; have hcz43_1 : w40.cell? ⟨gb171, 1, none⟩ = some (.int .u64 t169) := (blk_cell BK171.out 1).trans rfl; have hcz43_2 : w40.cell? ⟨gb171, 2, none⟩ = some (.int .u64 t170) := (blk_cell BK171.out 2).trans rfl; have hfz43_0 := blk_frozen BK171.out 0; have hfz43_1 := blk_frozen BK171.out 1; have hfz43_2 := blk_frozen BK171.out 2) | ((with_reducible refine gate_callee (f := 75) rfl ?_); refine goesL_ (some 24) rfl rfl Try.func75 (by kernel_rfl) rfl #[.agg #[.bool t168, .int .u64 t169, .int .u64 t170], .agg #[.bool (!t172), .int .u64 t173, .int .u64 t174]] rfl (by (try simp only [List.map_toArray, List.map_cons, List.map_nil]); first | done | rfl | (simp only [List.length_drop, List.length_take]; rfl)) ?_; (with_reducible refine (fixed_exact_plus.calls k t168 t169 t170 (!t172) t173 t174 false t177 t178 _ A7.out).mono ?_); rintro e w44 ⟨rfl, hb⟩; refine ⟨_, rfl, ?_⟩; have n0_ := Aside0.mk (blk_below (g := gb171) (o := .cells #[.bool t168, .int .u64 t169, .int .u64 t170] 60 (0, 0)) (by (with_reducible repeat (first | refine blk_drewN ?_ _ | refine blk_drew ?_ | refine blk_alloc ?_ _)); refine blk_far ?_ NB171_175.out _; (with_reducible repeat (first | refine blk_drewN ?_ _ | refine blk_drew ?_ | refine blk_alloc ?_ _)); refine blk_far ?_ NB171_175.out _; (with_reducible repeat (first | refine blk_drewN ?_ _ | refine blk_drew ?_ | refine blk_alloc ?_ _)); refine blk_far ?_ NB171_175.out _; (with_reducible repeat (first | refine blk_drewN ?_ _ | refine blk_drew ?_ | refine blk_alloc ?_ _)); refine blk_far ?_ NB171_175.out _; (with_reducible repeat (first | refine blk_drewN ?_ _ | refine blk_drew ?_ | refine blk_alloc ?_ _)); exact BK171.out) hb); have n1_ := Aside0.mk (blk_below (g := gb175) (o := .cells #[.bool (!t172), .int .u64 t173, .int .u64 t174] 60 (0, 0)) (by (with_reducible repeat (first | refine blk_drewN ?_ _ | refine blk_drew ?_ | refine blk_alloc ?_ _)); refine blk_put (cs := #[.bool t172, .int .u64 t173, .int .u64 t174]) ?_ 0 _ rfl; (with_reducible repeat (first | refine blk_drewN ?_ _ | refine blk_drew ?_ | refine blk_alloc ?_ _)); refine blk_put (cs := #[.bool t172, .int .u64 t173, .int .u64 0]) ?_ 2 _ rfl; (with_reducible repeat (first | refine blk_drewN ?_ _ | refine blk_drew ?_ | refine blk_alloc ?_ _)); refine blk_put (cs := #[.bool t172, .int .u64 0, .int .u64 0]) ?_ 1 _ rfl; (with_reducible repeat (first | refine blk_drewN ?_ _ | refine blk_drew ?_ | refine blk_alloc ?_ _)); refine blk_put (cs := #[.bool false, .int .u64 0, .int .u64 0]) ?_ 0 _ rfl; (with_reducible repeat (first | refine blk_drewN ?_ _ | refine blk_drew ?_ | refine blk_alloc ?_ _)); exact BK175.out) hb); have n2_ := Aside0.mk (below_step (by repeat (first | (with_reducible first | exact HB.out | apply below_alloc | apply pw_below_drewN | apply below_drew1 | refine below_set ?_ GE171.out | refine below_set ?_ GE175.out) | exact HB.out)) hb); clear BK171; clear BK175; clear HB; have BK171 := n0_; have BK175 := n1_; have HB := n2_; clear n0_ n1_ n2_; (try clear hb); (try clear hb2); (try clear hk); (try clear hi)) | ((with_reducible refine gate_dst (N := 11) rfl ?_); refine box_event ?hg (N := 11) ?hd (cs := #[.bool false, .int .u64 0, .int .u64 0]) (t := 60) ?hr ?_; (case hd => rfl); (case hg => rfl); (case hr => first | (go_simp; done) | (go_simp; rfl)); intro gb179 hg w45 hbox hb; have n0_ := Aside0.mk (blk_below (g := gb171) (o := .cells #[.bool t168, .int .u64 t169, .int .u64 t170] 60 (0, 0)) (by (with_reducible repeat (first | refine blk_drewN ?_ _ | refine blk_drew ?_ | refine blk_alloc ?_ _)); exact BK171.out) hb); have n1_ := Aside0.mk (blk_below (g := gb175) (o := .cells #[.bool (!t172), .int .u64 t173, .int .u64 t174] 60 (0, 0)) (by (with_reducible repeat (first | refine blk_drewN ?_ _ | refine blk_drew ?_ | refine blk_alloc ?_ _)); exact BK175.out) hb); have n2_ := Aside0.mk (below_step (by repeat (first | (with_reducible first | exact HB.out | apply below_alloc | apply pw_below_drewN | apply below_drew1 | refine below_set ?_ GE171.out | refine below_set ?_ GE175.out) | exact HB.out)) hb); have n3_ := Aside0.mk (hbox); have n4_ := Aside0.mk ((by rw [hg]; exact (below_size (by repeat (first | (with_reducible first | exact HB.out | apply below_alloc | apply pw_below_drewN | apply below_drew1 | refine below_set ?_ GE171.out | refine below_set ?_ GE175.out) | exact HB.out))) : w.heap.size ≤ gb179)); have n5_ := Aside0.mk ((by rw [hg]; exact (below_size (by repeat (first | (with_reducible first | exact HB.out | apply below_alloc | apply pw_below_drewN | apply below_drew1 | refine below_set ?_ GE171.out | refine below_set ?_ GE175.out) | exact HB.out))) : w.heap.size ≤ gb179)); have n6_ := Aside0.mk ((by rw [hg]; exact Nat.ne_of_lt (blk_lt (g := gb171) (o := .cells #[.bool t168, .int .u64 t169, .int .u64 t170] 60 (0, 0)) (by (with_reducible repeat (first | refine blk_drewN ?_ _ | refine blk_drew ?_ | refine blk_alloc ?_ _)); exact BK171.out)) : gb171 ≠ gb179)); have n7_ := Aside0.mk ((by rw [hg]; exact Nat.ne_of_gt (blk_lt (g := gb171) (o := .cells #[.bool t168, .int .u64 t169, .int .u64 t170] 60 (0, 0)) (by (with_reducible repeat (first | refine blk_drewN ?_ _ | refine blk_drew ?_ | refine blk_alloc ?_ _)); exact BK171.out)) : gb179 ≠ gb171)); have n8_ := Aside0.mk ((by rw [hg]; exact Nat.ne_of_lt (blk_lt (g := gb175) (o := .cells #[.bool (!t172), .int .u64 t173, .int .u64 t174] 60 (0, 0)) (by (with_reducible repeat (first | refine blk_drewN ?_ _ | refine blk_drew ?_ | refine blk_alloc ?_ _)); exact BK175.out)) : gb175 ≠ gb179)); have n9_ := Aside0.mk ((by rw [hg]; exact Nat.ne_of_gt (blk_lt (g := gb175) (o := .cells #[.bool (!t172), .int .u64 t173, .int .u64 t174] 60 (0, 0)) (by (with_reducible repeat (first | refine blk_drewN ?_ _ | refine blk_drew ?_ | refine blk_alloc ?_ _)); exact BK175.out)) : gb179 ≠ gb175)); clear BK171; clear BK175; clear HB; have BK171 := n0_; have BK175 := n1_; have HB := n2_; have BK179 := n3_; have GW179 := n4_; have GE179 := n5_; have NB171_179 := n6_; have NB179_171 := n7_; have NB175_179 := n8_; have NB179_175 := n9_; clear n0_ n1_ n2_ n3_ n4_ n5_ n6_ n7_ n8_ n9_; clear hb hbox hg; have hnb46 := NB179_171.out; have hnc46 := NB171_179.out; have hnb47 := NB179_175.out; have hnc47 := NB175_179.out; have hcz48_0 : w45.cell? ⟨gb179, 0, none⟩ = some (.bool false) := (blk_cell BK179.out 0).trans rfl; have hcz48_1 : w45.cell? ⟨gb179, 1, none⟩ = some (.int .u64 0) := (blk_cell BK179.out 1).trans rfl; have hcz48_2 : w45.cell? ⟨gb179, 2, none⟩ = some (.int .u64 0) := (blk_cell BK179.out 2).trans rfl; have hfz48_0 := blk_frozen BK179.out 0; have hfz48_1 := blk_frozen BK179.out 1; have hfz48_2 := blk_frozen BK179.out 2))
      go_ret
      exact ⟨by first | rfl | (simp [errW_none, errW_some] <;> rfl) | (simp [*, errW_none, errW_some] <;> rfl), by repeat (first | (with_reducible first | exact HB.out | apply below_alloc | apply pw_below_drewN | apply below_drew1 | refine below_set ?_ GE171.out | refine below_set ?_ GE175.out | refine below_set ?_ GE179.out) | exact HB.out)⟩
def fixed_Neg.f (a0_0 : Int) (a0_1 : Bool) : Option (Int × Bool) := (fixed_sound.f a0_0 a0_1).bind fun bt195 => (some (wrap64 (-bt195.1), bt195.2))
set_option maxHeartbeats 8000000 in
set_option maxRecDepth 100000 in
theorem fixed_Neg.calls (a0_0 : Int) (a0_1 : Bool) (r1 : Int) (r2 : Bool) (w : World) (h : fixed_Neg.f a0_0 a0_1 = some (r1, r2)) :
    Calls Try.prog 41 #[.agg #[.int .i64 a0_0, .bool a0_1]] w fun e w' => e = .returned (.agg #[.int .i64 r1, .bool r2]) ∧ Below w.heap.size w w' := by
  have hu23 := Try.underlying23
  have HB := Aside0.mk (Below.refl w.heap.size w)
  have H : ((fixed_sound.f a0_0 a0_1).bind fun bt195 => (some (wrap64 (-bt195.1), bt195.2))) = some (r1, r2) := h
  clear h
  replace H := Option.bind_eq_some_iff.mp H
  obtain ⟨⟨t195, t196⟩, A20, H⟩ := H
  replace H : (some (wrap64 (-t195), t196)) = some (r1, r2) := H
  have A2 := Aside0.mk A20
  clear A20
  simp only [Option.some.injEq, Prod.mk.injEq] at H
  obtain ⟨rfl, rfl⟩ := H
  go_enter Try.func41, Try.ntmps41
  go_wp2_with (first | ((with_reducible refine gate_dst (N := 1) rfl ?_); refine box_event ?hg (N := 1) ?hd (cs := #[.int .i64 a0_0, .bool a0_1]) (t := 23) ?hr ?_; (case hd => rfl); (case hg => rfl); (case hr => first | (go_simp; done) | (go_simp; rfl)); intro gb193 hg w3 hbox hb; have n0_ := Aside0.mk (below_step (by repeat (first | (with_reducible first | exact HB.out | apply below_alloc | apply pw_below_drewN | apply below_drew1) | exact HB.out)) hb); have n1_ := Aside0.mk (hbox); have n2_ := Aside0.mk ((by rw [hg]; exact (below_size (by repeat (first | (with_reducible first | exact HB.out | apply below_alloc | apply pw_below_drewN | apply below_drew1) | exact HB.out))) : w.heap.size ≤ gb193)); have n3_ := Aside0.mk ((by rw [hg]; exact (below_size (by repeat (first | (with_reducible first | exact HB.out | apply below_alloc | apply pw_below_drewN | apply below_drew1) | exact HB.out))) : w.heap.size ≤ gb193)); clear HB; have HB := n0_; have BK193 := n1_; have GW193 := n2_; have GE193 := n3_; clear n0_ n1_ n2_ n3_; clear hb hbox hg) | ((with_reducible refine gate_dst (N := 2) rfl ?_); refine box_event ?hg (N := 2) ?hd (cs := #[.int .i64 0, .bool false]) (t := 23) ?hr ?_; (case hd => rfl); (case hg => rfl); (case hr => first | (go_simp; done) | (go_simp; rfl)); intro gb194 hg w4 hbox hb; have n0_ := Aside0.mk (blk_below (g := gb193) (o := .cells #[.int .i64 a0_0, .bool a0_1] 23 (0, 0)) (by (with_reducible repeat (first | refine blk_drewN ?_ _ | refine blk_drew ?_ | refine blk_alloc ?_ _)); exact BK193.out) hb); have n1_ := Aside0.mk (below_step (by repeat (first | (with_reducible first | exact HB.out | apply below_alloc | apply pw_below_drewN | apply below_drew1 | refine below_set ?_ GE193.out) | exact HB.out)) hb); have n2_ := Aside0.mk (hbox); have n3_ := Aside0.mk ((by rw [hg]; exact (below_size (by repeat (first | (with_reducible first | exact HB.out | apply below_alloc | apply pw_below_drewN | apply below_drew1 | refine below_set ?_ GE193.out) | exact HB.out))) : w.heap.size ≤ gb194)); have n4_ := Aside0.mk ((by rw [hg]; exact (below_size (by repeat (first | (with_reducible first | exact HB.out | apply below_alloc | apply pw_below_drewN | apply below_drew1 | refine below_set ?_ GE193.out) | exact HB.out))) : w.heap.size ≤ gb194)); have n5_ := Aside0.mk ((by rw [hg]; exact Nat.ne_of_lt (blk_lt (g := gb193) (o := .cells #[.int .i64 a0_0, .bool a0_1] 23 (0, 0)) (by (with_reducible repeat (first | refine blk_drewN ?_ _ | refine blk_drew ?_ | refine blk_alloc ?_ _)); exact BK193.out)) : gb193 ≠ gb194)); have n6_ := Aside0.mk ((by rw [hg]; exact Nat.ne_of_gt (blk_lt (g := gb193) (o := .cells #[.int .i64 a0_0, .bool a0_1] 23 (0, 0)) (by (with_reducible repeat (first | refine blk_drewN ?_ _ | refine blk_drew ?_ | refine blk_alloc ?_ _)); exact BK193.out)) : gb194 ≠ gb193)); clear BK193; clear HB; have BK193 := n0_; have HB := n1_; have BK194 := n2_; have GW194 := n3_; have GE194 := n4_; have NB193_194 := n5_; have NB194_193 := n6_; clear n0_ n1_ n2_ n3_ n4_ n5_ n6_; clear hb hbox hg; have hnb5 := NB193_194.out; have hnc5 := NB194_193.out; have hcz6_0 : w4.cell? ⟨gb193, 0, none⟩ = some (.int .i64 a0_0) := (blk_cell BK193.out 0).trans rfl; have hcz6_1 : w4.cell? ⟨gb193, 1, none⟩ = some (.bool a0_1) := (blk_cell BK193.out 1).trans rfl; have hfz6_0 := blk_frozen BK193.out 0; have hfz6_1 := blk_frozen BK193.out 1) | ((with_reducible refine gate_callee (f := 72) rfl ?_); refine goesL_ (some 4) rfl rfl Try.func72 (by kernel_rfl) rfl #[.agg #[.int .i64 a0_0, .bool a0_1]] rfl (by (try simp only [List.map_toArray, List.map_cons, List.map_nil]); first | done | rfl | (simp only [List.length_drop, List.length_take]; rfl)) ?_; (with_reducible refine (fixed_sound.calls a0_0 a0_1 t195 t196 _ A2.out).mono ?_); rintro e w7 ⟨rfl, hb⟩; refine ⟨_, rfl, ?_⟩; have n0_ := Aside0.mk (blk_below (g := gb193) (o := .cells #[.int .i64 a0_0, .bool a0_1] 23 (0, 0)) (by (with_reducible repeat (first | refine blk_drewN ?_ _ | refine blk_drew ?_ | refine blk_alloc ?_ _)); exact BK193.out) hb); have n1_ := Aside0.mk (blk_below (g := gb194) (o := .cells #[.int .i64 0, .bool false] 23 (0, 0)) (by (with_reducible repeat (first | refine blk_drewN ?_ _ | refine blk_drew ?_ | refine blk_alloc ?_ _)); exact BK194.out) hb); have n2_ := Aside0.mk (below_step (by repeat (first | (with_reducible first | exact HB.out | apply below_alloc | apply pw_below_drewN | apply below_drew1 | refine below_set ?_ GE193.out | refine below_set ?_ GE194.out) | exact HB.out)) hb); clear BK193; clear BK194; clear HB; have BK193 := n0_; have BK194 := n1_; have HB := n2_; clear n0_ n1_ n2_; (try clear hb); (try clear hb2); (try clear hk); (try clear hi); have hcz8_0 : w7.cell? ⟨gb193, 0, none⟩ = some (.int .i64 a0_0) := (blk_cell BK193.out 0).trans rfl; have hcz8_1 : w7.cell? ⟨gb193, 1, none⟩ = some (.bool a0_1) := (blk_cell BK193.out 1).trans rfl; have hfz8_0 := blk_frozen BK193.out 0; have hfz8_1 := blk_frozen BK193.out 1; have hcz9_0 : w7.cell? ⟨gb194, 0, none⟩ = some (.int .i64 0) := (blk_cell BK194.out 0).trans rfl; have hcz9_1 : w7.cell? ⟨gb194, 1, none⟩ = some (.bool false) := (blk_cell BK194.out 1).trans rfl; have hfz9_0 := blk_frozen BK194.out 0; have hfz9_1 := blk_frozen BK194.out 1))
  refine bodyPost_ret (results_cell_row rfl _ _ gb194 23 #[.int .i64 (wrap64 (-t195)), .bool t196] (0, 0) _ rfl (by (with_reducible repeat (first | refine blk_drewN ?_ _ | refine blk_drew ?_ | refine blk_alloc ?_ _)); refine blk_put (cs := #[.int .i64 (wrap64 (-t195)), .bool false]) ?_ 1 _ rfl; (with_reducible repeat (first | refine blk_drewN ?_ _ | refine blk_drew ?_ | refine blk_alloc ?_ _)); refine blk_put (cs := #[.int .i64 0, .bool false]) ?_ 0 _ rfl; (with_reducible repeat (first | refine blk_drewN ?_ _ | refine blk_drew ?_ | refine blk_alloc ?_ _)); refine blk_far ?_ NB194_193.out _; (with_reducible repeat (first | refine blk_drewN ?_ _ | refine blk_drew ?_ | refine blk_alloc ?_ _)); refine blk_far ?_ NB194_193.out _; (with_reducible repeat (first | refine blk_drewN ?_ _ | refine blk_drew ?_ | refine blk_alloc ?_ _)); refine blk_far ?_ NB194_193.out _; (with_reducible repeat (first | refine blk_drewN ?_ _ | refine blk_drew ?_ | refine blk_alloc ?_ _)); exact BK194.out) Try.underlying23 rfl (by kernel_rfl)) rfl ?_
  exact ⟨by first | rfl | (simp [errW_none, errW_some] <;> rfl) | (simp [*, errW_none, errW_some] <;> rfl), by repeat (first | (with_reducible first | exact HB.out | apply below_alloc | apply pw_below_drewN | apply below_drew1 | refine below_set ?_ GE193.out | refine below_set ?_ GE194.out) | exact HB.out)⟩
end Go.Proofs.Ytenpiaafkmfjfaa.B

end
section
namespace Go.Proofs.Ytenpiaafkmfjfaa.B
open Go.RowKit Go.Proofs.YtenpiaafkmfjfaaW.PrintWords Go.Proofs.YtenpiaafkmfjfaaW.PrintLast Go.Proofs.YtenpiaafkmfjfaaW.PrintMore
attribute [local go_sem] max2_int min2_int max_two min_two max_three min_three max_four min_four
set_option linter.unusedVariables false
set_option linter.unusedSimpArgs false
theorem eqA23 (d : Nat) (w : World) (x0 y0 : Int) (x1 y1 : Bool) :
    (Op.equalIn (d + 2) 23 (.agg #[.int .i64 x0, .bool x1]) (.agg #[.int .i64 y0, .bool y1])).run Try.prog w = .ok (x0 == y0 && (x1 == y1)) w := by
  refine eqA_of Try.underlying23 (by kernel_rfl) ?_
  refine eqf_cons (by rfl) (by go_simp; rfl) (by go_simp; rfl) (by go_simp) ?_
  exact eqf_last (by rfl) (by go_simp; rfl) (by go_simp; rfl) (by go_simp)
end Go.Proofs.Ytenpiaafkmfjfaa.B

end
section
namespace Go.Proofs.Ytenpiaafkmfjfaa.B
def sv (v : Int) : Int := if v = -9223372036854775808 then -9223372036854775807 else v
def sf (v : Int) (f : Bool) : Bool := if v = -9223372036854775808 then true else f
theorem sound_f (v : Int) (f : Bool) : fixed_sound.f v f = some (sv v, sf v f) := by
  unfold fixed_sound.f sv sf; split <;> rfl
end Go.Proofs.Ytenpiaafkmfjfaa.B

end
section
set_option linter.unusedVariables false
namespace Go.Proofs.Ytenpiaafkmfjfaa.B
open Go.RowKit Go.Proofs
theorem sizeBuilder : (Try.prog.info? 96).map (·.size) = some 2 := by kernel_rfl
theorem liesBuilder : liesAt Try.prog Try.prog.depth 96 (2 / Try.prog.cellsOf 96) 0 96 1 = true := by kernel_rfl
theorem infoByte : (Try.prog.info? 5).map (fun i => (i.zero, i.size, i.bytes)) = some (some (.int .u8 0), 1, 1) := by kernel_rfl
set_option maxHeartbeats 1000000 in
set_option maxRecDepth 100000 in
theorem copyCheck_used (b : Nat) (w : World) (h0 : w.cell? ⟨b, 0, none⟩ = some (.pointer (some ⟨b, 0, none⟩))) :
    Calls Try.prog 116 #[.pointer (some ⟨b, 0, none⟩)] w fun e w' => e = .returned (.tuple #[]) ∧ w' = w := by
  obtain ⟨j, hj, _⟩ := Option.map_eq_some_iff.1 sizeBuilder
  go_enter Try.func116, Try.ntmps116
  go_wp2
  rw [Lib.run_neq_ptr_same w _ Try.underlying93 hj]
  go_wp2
  go_end0
  exact ⟨rfl, rfl⟩
set_option maxHeartbeats 1000000 in
set_option maxRecDepth 100000 in
theorem copyCheck_fresh (b : Nat) (w : World) (h0 : w.cell? ⟨b, 0, none⟩ = some (.pointer none)) (hsh : w.shape? b = some (96, 2)) (hfz : w.frozen? ⟨b, 0, none⟩ = false) :
    Calls Try.prog 116 #[.pointer (some ⟨b, 0, none⟩)] w fun e w' => e = .returned (.tuple #[]) ∧ w' = w.setCell ⟨b, 0, none⟩ (.pointer (some ⟨b, 0, none⟩)) := by
  obtain ⟨j, hj, hjs⟩ := Option.map_eq_some_iff.1 sizeBuilder
  go_enter Try.func116, Try.ntmps116
  go_wp2
  rw [Lib.run_to_unsafe w ⟨b, 0, none⟩ Try.underlying93 Try.underlying115 hj (by rw [hjs]; decide) hsh (Nat.zero_lt_succ 1)]
  simp only [Result.andThen]
  rw [Oper.upon_value]
  go_wp2
  rw [run_callFunc_extern Try.func120 (by kernel_rfl) (by kernel_rfl) (by kernel_rfl) (e := Extern.AbiNoEscape.same) (by kernel_rfl)]
  rw [Lib.run_noEscape]
  simp only [Result.andThen]
  rw [Oper.upon_value]
  go_wp2
  rw [Lib.run_from_unsafe w ⟨b, 0, none⟩ Try.underlying115 Try.underlying93 hj hsh liesBuilder]
  simp only [Result.andThen]
  rw [Oper.upon_value]
  go_wp2
  go_end0
  exact ⟨rfl, rfl⟩
theorem copyCheckK (B b : Nat) (bs : List Value) (w : World) (h : Lib.IsBuilder 96 5 B b bs w) :
    Calls Try.prog 116 #[.pointer (some ⟨b, 0, none⟩)] w fun e w' => e = .returned (.tuple #[]) ∧ (Lib.BuilderAt 96 5 B b (.pointer (some ⟨b, 0, none⟩)) bs w' ∧ Below B w w' ∧ ∀ p : Addr, p.block ≠ b → w'.cell? p = w.cell? p) := by
  rcases h with h | h
  · refine (copyCheck_fresh b w h.cell0 h.shape h.frozen0).mono ?_
    rintro e w' ⟨rfl, rfl⟩
    exact ⟨rfl, h.used _, (Below.refl B w).setCell (p := ⟨b, 0, none⟩) h.1 _, fun p hp => World.cell?_setCell_other _ _ _ _ (fun e => hp (by rw [← e]))⟩
  · refine (copyCheck_used b w h.cell0).mono ?_
    rintro e w' ⟨rfl, rfl⟩
    exact ⟨rfl, h, Below.refl B _, fun p _ => rfl⟩
theorem copyCheck (B b : Nat) (bs : List Value) (w : World) (h : Lib.IsBuilder 96 5 B b bs w) :
    Calls Try.prog 116 #[.pointer (some ⟨b, 0, none⟩)] w fun e w' => e = .returned (.tuple #[]) ∧ (Lib.BuilderAt 96 5 B b (.pointer (some ⟨b, 0, none⟩)) bs w' ∧ Below B w w') := by
  rcases h with h | h
  · refine (copyCheck_fresh b w h.cell0 h.shape h.frozen0).mono ?_
    rintro e w' ⟨rfl, rfl⟩
    exact ⟨rfl, h.used _, (Below.refl B w).setCell (p := ⟨b, 0, none⟩) h.1 _⟩
  · refine (copyCheck_used b w h.cell0).mono ?_
    rintro e w' ⟨rfl, rfl⟩
    exact ⟨rfl, h, Below.refl B _⟩
set_option maxHeartbeats 2000000 in
set_option maxRecDepth 100000 in
theorem writeByte (B b : Nat) (bs : List Value) (c : Int) (w : World) (h : Lib.IsBuilder 96 5 B b bs w) (hlen : bs.length + 1 ≤ 140737488355328) (hBw : B ≤ w.heap.size) :
    Calls Try.prog 102 #[.pointer (some ⟨b, 0, none⟩), .int .u8 c] w fun e w' => e = .returned .nilIface ∧ (Lib.BuilderAt 96 5 B b (.pointer (some ⟨b, 0, none⟩)) (bs ++ [.int .u8 c]) w' ∧ Below B w w') := by
  obtain ⟨i0, hi, hz0, hz1, hz2⟩ := info_parts infoByte
  go_enter Try.func102, Try.ntmps102
  go_wp2_with (go_at_call 116; refine (copyCheck B b bs _ h).mono ?_)
  rintro e w1 ⟨rfl, h1, hb1⟩
  obtain ⟨hB, v, hbk, hown, hne⟩ := h1
  have c0 : w1.cell? ⟨b, 0, none⟩ = some (.pointer (some ⟨b, 0, none⟩)) := by rw [Lib.cell_of_heap hbk]; rfl
  have c1 : w1.cell? ⟨b, 1, none⟩ = some v := by rw [Lib.cell_of_heap hbk]; rfl
  go_wp2_with (at_builtin; refine wpList_append_own _ rfl _ _ 94 rfl B 5 i0 (.int .u8 0) 1 1 Try.underlying94 hi hz0 hz1 hz2 rfl (by decide) _ _ _ rfl (hown.alloc _) ⟨w1.heap.size, 0, none⟩ 1 1 [.int .u8 c] rfl rfl ?c1 ?c2 ?c3 ?c4 ?c5 ?_)
  case c1 =>
    intro j u hj
    match j, hj with
    | 0, hj => simp at hj; subst hj; simp [Addr.add]
  case c2 => intro u hu; simp at hu; subst hu; rfl
  case c3 => unfold maxLen; omega
  case c4 => omega
  case c5 => have := hb1.size; simp; omega
  intro v' w2 hown' hgrow _
  have hlt : b < w1.heap.size := by
    rcases Nat.lt_or_ge b w1.heap.size with h' | h'
    · exact h'
    · simp [Array.getElem?_eq_none h'] at hbk
  have hb2 : w2.heap[b]? = some (.cells #[.pointer (some ⟨b, 0, none⟩), v] 96 (0, 0)) := by
    rw [hgrow.block b (by simp; omega) (fun e => hne e.symm), Lib.alloc_old w1 _ b hlt]
    exact hbk
  have d0 : w2.cell? ⟨b, 0, none⟩ = some (.pointer (some ⟨b, 0, none⟩)) := by rw [Lib.cell_of_heap hb2]; rfl
  have d1 : w2.cell? ⟨b, 1, none⟩ = some v := by rw [Lib.cell_of_heap hb2]; rfl
  have f1 : w2.frozen? ⟨b, 1, none⟩ = false := Lib.frozen_of_heap hb2 1
  obtain ⟨g, cap, rfl⟩ : ∃ g cap, v' = .slice (some ⟨g, 0, none⟩) (bs.length + 1) cap := by
    rcases hown'.2 with ⟨_, h0⟩ | ⟨g, cap, cur, hv, _⟩
    · omega
    · exact ⟨g, cap, hv⟩
  go_wp2
  go_ret
  refine ⟨rfl, ?_, ?_⟩
  · exact Lib.BuilderAt.put (T := 96) (e := 5) hB hb2 (bs' := bs ++ [.int .u8 c]) (by simpa using hown') (by decide)
  · exact ((hb1.alloc (by have := hb1.size; omega) _).grown hgrow (by have := hb1.size; simp; omega) (fun k hk => (hown.lt k hk).1)).setCell (p := ⟨b, 1, none⟩) hB _
set_option maxHeartbeats 2000000 in
set_option maxRecDepth 100000 in
theorem writeBytes (B b : Nat) (bs : List Value) (ad : Addr) (m c : Nat) (news : List Value) (w : World) (h : Lib.IsBuilder 96 5 B b bs w)
    (hl : news.length = m) (hnews : ∀ j u, news[j]? = some u → w.cell? (ad.add j) = some u) (hne0 : ad.block ≠ b) (h1 : ∀ u ∈ news, u.oneCell' = true)
    (hlen : bs.length + m ≤ 140737488355328) (hBw : B ≤ w.heap.size) :
    Calls Try.prog 103 #[.pointer (some ⟨b, 0, none⟩), .slice (some ad) m c] w fun e w' => e = .returned (.tuple #[.int .i64 m, .nilIface]) ∧ (Lib.BuilderAt 96 5 B b (.pointer (some ⟨b, 0, none⟩)) (bs ++ news) w' ∧ Below B w w') := by
  obtain ⟨i0, hi, hz0, hz1, hz2⟩ := info_parts infoByte
  have hadd : ∀ j, (ad.add j).block = ad.block := fun j => by unfold Addr.add; split <;> rfl
  have HN : Hid (∀ j u, news[j]? = some u → w.cell? (ad.add j) = some u) := hnews
  have HA : Hid (∀ j, (ad.add j).block = ad.block) := hadd
  clear hnews hadd
  go_enter Try.func103, Try.ntmps103
  go_wp2_with (go_at_call 116; refine (copyCheckK B b bs _ h).mono ?_)
  rintro e w1 ⟨rfl, h1', hb1, hcs⟩
  have hnews1 : Hid (∀ j u, news[j]? = some u → w1.cell? (ad.add j) = some u) := fun j u hj => by rw [hcs _ (by rw [HA.out j]; exact hne0)]; exact HN.out j u hj
  clear hcs
  obtain ⟨hB, v, hbk, hown, hne⟩ := h1'
  have c0 : w1.cell? ⟨b, 0, none⟩ = some (.pointer (some ⟨b, 0, none⟩)) := by rw [Lib.cell_of_heap hbk]; rfl
  have c1 : w1.cell? ⟨b, 1, none⟩ = some v := by rw [Lib.cell_of_heap hbk]; rfl
  go_wp2_with (at_builtin; refine wpList_append_own _ rfl _ _ 94 rfl B 5 i0 (.int .u8 0) 1 1 Try.underlying94 hi hz0 hz1 hz2 rfl (by decide) _ _ _ rfl hown ad m c news rfl (by omega) hnews1.out h1 ?c3 ?c4 ?c5 ?_)
  case c3 => unfold maxLen; omega
  case c4 => omega
  case c5 => have := hb1.size; omega
  intro v' w2 hown' hgrow _
  have hlt : b < w1.heap.size := by
    rcases Nat.lt_or_ge b w1.heap.size with h' | h'
    · exact h'
    · simp [Array.getElem?_eq_none h'] at hbk
  have hb2 : w2.heap[b]? = some (.cells #[.pointer (some ⟨b, 0, none⟩), v] 96 (0, 0)) := by
    rw [hgrow.block b hlt (fun e => hne e.symm)]
    exact hbk
  have d0 : w2.cell? ⟨b, 0, none⟩ = some (.pointer (some ⟨b, 0, none⟩)) := by rw [Lib.cell_of_heap hb2]; rfl
  have d1 : w2.cell? ⟨b, 1, none⟩ = some v := by rw [Lib.cell_of_heap hb2]; rfl
  have f1 : w2.frozen? ⟨b, 1, none⟩ = false := Lib.frozen_of_heap hb2 1
  obtain ⟨ao, n', cap, rfl⟩ : ∃ ao n' cap, v' = .slice ao n' cap := by
    rcases hown'.2 with ⟨hv, _⟩ | ⟨g, cap, cur, hv, _⟩
    · exact ⟨_, _, _, hv⟩
    · exact ⟨_, _, _, hv⟩
  go_wp2
  go_ret2
  refine ⟨rfl, ?_, ?_⟩
  · exact Lib.BuilderAt.put (T := 96) (e := 5) hB hb2 (bs' := bs ++ news) (by simpa [hl] using hown') (by decide)
  · exact (hb1.grown hgrow (by have := hb1.size; omega) (fun k hk => (hown.lt k hk).1)).setCell (p := ⟨b, 1, none⟩) hB _
end Go.Proofs.Ytenpiaafkmfjfaa.B

end
section
namespace Go.Proofs.Ytenpiaafkmfjfaa.B
open Go.Shelf Go.RowKit
def lays169_ren : Go.Shelf.Ren := ⟨fun | 169 => 105 | n => n, fun | 70 => 93 | 9 => 9 | 0 => 0 | 72 => 96 | 37 => 94 | 127 => 111 | 3 => 3 | 5 => 5 | n => n, fun | n => n⟩
theorem lays169 : Go.Proofs.Lays.n169 Try.prog lays169_ren := {
  mixed := by kernel_rfl
  f169 := Try.func105.trans (congrArg some (by kernel_rfl))
  t0 := Try.underlying0
  a0 := Try.isAgg0
  z0 := Try.sizeOf0
  v0 := Try.zeroValue0
  t3 := Try.underlying3
  a3 := Try.isAgg3
  z3 := Try.sizeOf3
  v3 := Try.zeroValue3
  t9 := Try.underlying9
  a9 := Try.isAgg9
  z9 := Try.sizeOf9
  v9 := Try.zeroValue9
  t37 := Try.underlying94
  a37 := Try.isAgg94
  z37 := Try.sizeOf94
  v37 := Try.zeroValue94
  t70 := Try.underlying93
  a70 := Try.isAgg93
  z70 := Try.sizeOf93
  v70 := Try.zeroValue93
  t72 := Try.underlying96
  a72 := Try.isAgg96
  z72 := Try.sizeOf96
  v72 := Try.zeroValue96
  t127 := Try.underlying111
  a127 := Try.isAgg111
  z127 := Try.sizeOf111
  v127 := Try.zeroValue111 }
theorem Builder_Extra_169 : Builder.Extra Try.prog lays169_ren := {
  sizeBuilder := by kernel_rfl
  liesBuilder := by kernel_rfl
  t5 := Try.underlying5
  a5 := Try.isAgg5
  z5 := Try.sizeOf5
  v5 := Try.zeroValue5
  infoByte := by kernel_rfl
  cellsByte := by kernel_rfl
  sizeByte := by kernel_rfl
  neB5 := by decide }
theorem Builder_String_any (B b : Nat) (l : List UInt8) (w : World) (h : Lib.IsBuilder 96 5 B b (Lib.byteCells l) w) (hBw : B ≤ w.heap.size) :
    Calls Try.prog 105 #[.pointer (some ⟨b, 0, none⟩)] w fun e w' => e = .returned (.string ⟨l.toArray⟩) ∧ Below B w w' := Any.Builder_String_any lays169 Builder_Extra_169 B b l w h hBw
end Go.Proofs.Ytenpiaafkmfjfaa.B

end
section
namespace Go.Proofs.Ytenpiaafkmfjfaa.B
open Go.RowKit Go.Proofs.YtenpiaafkmfjfaaW.PrintWords Go.Proofs.YtenpiaafkmfjfaaW.PrintLast Go.Proofs.YtenpiaafkmfjfaaW.PrintMore
def ch (d : Nat) : Value := .int .u8 ((48 + d : Nat) : Int)
def rowT (k : Nat) (acc : List Nat) : Array Value := (List.replicate (20 - k) (Value.int .u8 0) ++ acc.map ch).toArray
theorem rowT_put (k : Nat) (acc : List Nat) (d : Nat) (hk : k < 20) : (rowT k acc).setIfInBounds (19 - k) (.int .u8 ((48 + d : Nat) : Int)) = rowT (k + 1) (d :: acc) := by
  unfold rowT
  apply Array.ext'
  rw [Array.toList_setIfInBounds]
  simp only
  rw [List.set_append_left _ _ (by simp; omega), show 20 - k = (19 - k) + 1 by omega, List.replicate_succ', List.set_append_right _ _ (by simp)]
  simp [ch, show 20 - (k + 1) = 19 - k by omega]
theorem decA_go (k : Nat) (hk : k < 20) (n : Nat) (acc : List Nat) (h : ¬ n / 10 = 0) : decA (20 - k) n acc = decA (20 - (k + 1)) (n / 10) (n % 10 :: acc) := by
  rw [show 20 - k = (20 - (k + 1)) + 1 by omega, decA, if_neg h]
theorem decA_end (k : Nat) (hk : k < 20) (n : Nat) (acc : List Nat) (h : n / 10 = 0) : decA (20 - k) n acc = n % 10 :: acc := by
  rw [show 20 - k = (20 - (k + 1)) + 1 by omega, decA, if_pos h]
set_option maxRecDepth 10000 in
theorem slice110 (b y : Nat) (hy : y < 20) (W : World) : (Instr.sliceAt 110 (.pointer (some ⟨b, 0, none⟩)) (some (.int .i64 (y : Int))) none none).run Try.prog W = .ok (.slice (some ⟨b, y, none⟩) (20 - y) (20 - y)) W := by
  have h := run_sliceAt_array_l (P := Try.prog) W 110 ⟨b, 0, none⟩ (by kernel_rfl) .i64 (y : Int) (by omega) (by show (y : Int) ≤ ((20 : Nat) : Int); omega)
  rw [h]
  have e1 : (sizeOf (Try.prog.elem 110)).run Try.prog W = .ok 1 W := by kernel_rfl
  have e2 : Try.prog.arrayLen 110 = 20 := by kernel_rfl
  rw [e1, e2]
  have e3 : ¬ 20 = y := by omega
  simp [slicedAt, Addr.add, e3]
  omega
theorem rowT_drop (y : Nat) (acc : List Nat) (h : y + acc.length = 20) (j : Nat) (u : Value) (hu : (acc.map ch)[j]? = some u) : (rowT acc.length acc)[y + j]? = some u := by
  unfold rowT
  rw [List.getElem?_toArray, List.getElem?_append_right (by simp; omega), List.length_replicate, show y + j - (20 - acc.length) = j by omega]
  exact hu
theorem add_off (b o j : Nat) : (⟨b, o, none⟩ : Addr).add j = ⟨b, o + j, none⟩ := by simp [Addr.add]
theorem retS {a : Option Addr} {m n : Nat} (h : n = m) : Ending.returned (Value.slice a m m) = .returned (Value.slice a n n) := by rw [h]
theorem splice_all (k : Nat) (cs : List Value) (h : cs.length = k) : splice (madeCells #[.int .u8 0] k).toList 0 cs = cs := by
  subst h
  simp [splice, madeCells]
set_option maxHeartbeats 2000000 in
set_option maxRecDepth 100000 in
theorem decimal_calls (n : Nat) (hn : n < 18446744073709551616) (w : World) :
    Calls Try.prog 104 #[.int .u64 n] w fun e w' => ∃ g, e = .returned (.slice (some ⟨g, 0, none⟩) (decs n).length (decs n).length) ∧ w.heap.size ≤ g ∧ w'.heap[g]? = some (.cells ((decs n).map ch).toArray 5 (0, 0)) ∧ Below w.heap.size w w' := by
  generalize hD : decs n = D
  have HD : Hid (decs n = D) := hD
  clear hD
  go_enter Try.func104, Try.ntmps104
  go_wp2
  have hA : Hid (_ = some (Obj.cells (rowT 0 []) 110 (0, 0))) := blk_new w (.cells (rowT 0 []) 110 (0, 0))
  have hB : Hid (Below w.heap.size w (w.alloc (.cells (rowT 0 []) 110 (0, 0)))) := below_alloc (Below.refl _ _) _
  go_loopw [0, 4, 6] (fun m at_ i wr => ∃ (k y m' : Nat) (acc : List Nat), k ≤ 20 ∧ i = .int .i64 k ∧ at_ = .int .i64 y ∧ Hid (y + k = 20) ∧ m = .int .u64 m' ∧ m' < 18446744073709551616 ∧ Hid (acc.length = k) ∧ Hid (decA (20 - k) m' acc = D) ∧ Hid (wr.heap[w.heap.size]? = some (.cells (rowT k acc) 110 (0, 0))) ∧ Hid (Below w.heap.size w wr)) (fun _ _ i _ => 20 - (intOf i).toNat)
  case atStart => exact ⟨0, 20, n, [], by omega, rfl, rfl, (rfl : 20 + 0 = 20), rfl, hn, (rfl : [].length = 0), HD, hA, hB⟩
  case round =>
    clear hA hB hn HD
    obtain ⟨k, y, m, acc, hk, rfl, rfl, hy, rfl, hm, hl, hD, hA, hB⟩ := hrel
    by_cases hlt : k < 20
    · have hltB : decide ((k : Int) < 20) = true := by simp; omega
      have hyy := hy.out
      cases y with
      | zero => omega
      | succ y =>
        have hz0 := blk_frozen hA.out y
        have hsz : y < (rowT k acc).size := by have := hl.out; simp [rowT]; omega
        have hc0 := (blk_cell hA.out y).trans (Array.getElem?_eq_getElem hsz)
        generalize (rowT k acc)[y]'hsz = old at hc0
        have e48 : ((48 + m % 10 : Nat) : Int) = 48 + (m : Int) % 10 := by omega
        have hA2 : Hid ((wr.setCell ⟨w.heap.size, y, none⟩ (.int .u8 (48 + (m : Int) % 10))).heap[w.heap.size]? = some (.cells (rowT (k + 1) (m % 10 :: acc)) 110 (0, 0))) := by
          obtain rfl : y = 19 - k := by omega
          rw [← e48]
          exact blk_put hA.out (19 - k) _ (rowT_put k acc (m % 10) hlt)
        have hB2 : Hid (Below w.heap.size w (wr.setCell ⟨w.heap.size, y, none⟩ (.int .u8 (48 + (m : Int) % 10)))) := below_set hB.out (Nat.le_refl _)
        clear e48
        have hy20 : y < 20 := by omega
        have hBs : w.heap.size ≤ wr.heap.size := hB.out.size
        clear hA hB hyy hsz
        by_cases h10 : m / 10 = 0
        · have hD2 : Hid (m % 10 :: acc = D) := by rw [← hD.out]; exact (decA_end k hlt m acc h10).symm
          have hl2 : Hid ((m % 10 :: acc).length = k + 1) := by have := hl.out; simp [Hid, this]
          have h10' : (((m : Int) / 10) == 0) = true := by simp; omega
          clear h10 hD hl
          have hmk : ∀ W, (Instr.makeSlice 94 (.int .i64 (20 - (y : Int))) (.int .i64 (20 - (y : Int)))).run Try.prog W = .ok (.slice (some ⟨W.heap.size, 0, none⟩) (k + 1) (k + 1)) (W.alloc (.cells (madeCells #[.int .u8 0] (k + 1)) 5)) := fun W => by
            have := hy.out
            rw [show (20 - (y : Int)) = ((k + 1 : Nat) : Int) by omega]
            exact run_make_row' (P := Try.prog) 94 5 (.int .u8 0) 1 Try.underlying94 info5 rfl .i64 .i64 (k + 1) (by omega) (by omega) W
          have hsl := fun W => slice110 w.heap.size y hy20 W
          obtain ⟨cs, hcs⟩ : ∃ cs, cs = (m % 10 :: acc).map ch := ⟨_, rfl⟩
          have HCS : Hid (cs = (m % 10 :: acc).map ch) := hcs
          have HDL : Hid (D.length = k + 1) := by show _ = _; rw [← hD2.out]; exact hl2.out
          have HDC : Hid (cs = D.map ch) := by show _ = _; rw [← hD2.out]; exact hcs
          have Hlen : Hid (cs.length = k + 1) := by show _ = _; rw [hcs, List.length_map]; exact hl2.out
          have Hone : Hid (∀ v ∈ cs, v.oneCell' = true) := by rw [hcs]; intro v hv; obtain ⟨d, _, rfl⟩ := List.mem_map.1 hv; rfl
          have Hsrc : Hid (∀ j v, cs[j]? = some v → (rowT (k + 1) (m % 10 :: acc))[y + j]? = some v) := by
            intro j v hj
            have h1 := hl2.out
            have h2 := hy.out
            have := rowT_drop y (m % 10 :: acc) (by omega) j v (by rw [← hcs]; exact hj)
            rwa [h1] at this
          clear hcs
          go_wp2_with (refine wpList_copy_splice rfl (.tmp 24) (.tmp 26) 94 94 rfl 5 Try.underlying94 (by kernel_rfl) (some ⟨wr.heap.size, 0, none⟩) (some ⟨w.heap.size, y, none⟩) (k + 1) (k + 1) (20 - y) (20 - y) rfl rfl wr.heap.size 0 (madeCells #[.int .u8 0] (k + 1)).toList 5 (by have := blk_new (wr.setCell ⟨w.heap.size, y, none⟩ (.int .u8 (48 + (m : Int) % 10))) (.cells (madeCells #[.int .u8 0] (k + 1)) 5); simpa using this) cs (by have h1 := Hlen.out; have h2 := hy.out; rw [h1]; show _ = min _ _; omega) (fun _ => ⟨rfl, ⟨w.heap.size, y, none⟩, rfl, fun j v hj => by rw [add_off]; exact (blk_cell (blk_alloc hA2.out _) (y + j)).trans (Hsrc.out j v hj)⟩) (by rw [Hlen.out]; simp [madeCells]) Hone.out w.heap.size w (below_alloc hB2.out _) hBs ?_)
          intro w' hg' hb'
          have hg2 : Hid (w'.heap[wr.heap.size]? = some (.cells (D.map ch).toArray 5 (0, 0))) := by
            have := hg'.out
            rw [splice_all (k + 1) _ Hlen.out, HDC.out] at this
            exact this
          clear hg'
          go_wp2
          go_ret
          exact ⟨wr.heap.size, retS HDL.out, hBs, hg2.out, hb'⟩
        · have hD2 : Hid (decA (20 - (k + 1)) (m / 10) (m % 10 :: acc) = D) := by rw [← hD.out]; exact (decA_go k hlt m acc h10).symm
          have h10' : (((m : Int) / 10) == 0) = false := by simp; omega
          have hl2 : Hid ((m % 10 :: acc).length = k + 1) := by have := hl.out; simp [Hid, this]
          clear h10 hD hl
          go_wp2
          go_roundw
          case rel =>
            refine ⟨k + 1, y, m / 10, m % 10 :: acc, by omega, by go_num, rfl, ?_, by go_num, by omega, hl2, hD2, ?_, ?_⟩
            · have := hy.out; show _ = _; omega
            · exact hA2.out
            · exact hB2.out
          case measure => first | (simp [intOf]; done) | (simp [intOf]; omega)
    · obtain rfl : k = 20 := by omega
      obtain rfl : y = 0 := by have := hy.out; omega
      have hlt2 : decide ((20 : Int) < 20) = false := by decide
      have hBs : w.heap.size ≤ wr.heap.size := hB.out.size
      have hD2 : Hid (acc = D) := hD.out
      clear hD
      have hmk : ∀ W, (Instr.makeSlice 94 (.int .i64 20) (.int .i64 20)).run Try.prog W = .ok (.slice (some ⟨W.heap.size, 0, none⟩) 20 20) (W.alloc (.cells (madeCells #[.int .u8 0] 20) 5)) := fun W => run_make_row' (P := Try.prog) 94 5 (.int .u8 0) 1 Try.underlying94 info5 rfl .i64 .i64 20 (by omega) (by omega) W
      have hsl : ∀ W, (Instr.sliceAt 110 (.pointer (some ⟨w.heap.size, 0, none⟩)) (some (.int .i64 0)) none none).run Try.prog W = .ok (.slice (some ⟨w.heap.size, 0, none⟩) 20 20) W := fun W => slice110 w.heap.size 0 (by omega) W
      obtain ⟨cs, hcs⟩ : ∃ cs, cs = acc.map ch := ⟨_, rfl⟩
      have HDL : Hid (D.length = 20) := by show _ = _; rw [← hD2.out]; exact hl.out
      have HDC : Hid (cs = D.map ch) := by show _ = _; rw [← hD2.out]; exact hcs
      have Hlen : Hid (cs.length = 20) := by show _ = _; rw [hcs, List.length_map]; exact hl.out
      have Hone : Hid (∀ v ∈ cs, v.oneCell' = true) := by rw [hcs]; intro v hv; obtain ⟨d, _, rfl⟩ := List.mem_map.1 hv; rfl
      have Hsrc : Hid (∀ j v, cs[j]? = some v → (rowT 20 acc)[0 + j]? = some v) := by
        intro j v hj
        have h1 := hl.out
        have := rowT_drop 0 acc (by omega) j v (by rw [← hcs]; exact hj)
        rwa [h1] at this
      clear hcs
      go_wp2_with (refine wpList_copy_splice rfl (.tmp 24) (.tmp 26) 94 94 rfl 5 Try.underlying94 (by kernel_rfl) (some ⟨wr.heap.size, 0, none⟩) (some ⟨w.heap.size, 0, none⟩) 20 20 20 20 rfl rfl wr.heap.size 0 (madeCells #[.int .u8 0] 20).toList 5 (by have := blk_new wr (.cells (madeCells #[.int .u8 0] 20) 5); simpa using this) cs (by have h1 := Hlen.out; rw [h1]; rfl) (fun _ => ⟨rfl, ⟨w.heap.size, 0, none⟩, rfl, fun j v hj => by rw [add_off]; exact (blk_cell (blk_alloc hA.out _) (0 + j)).trans (Hsrc.out j v hj)⟩) (by rw [Hlen.out]; simp [madeCells]) Hone.out w.heap.size w (below_alloc hB.out _) hBs ?_)
      intro w' hg' hb'
      have hg2 : Hid (w'.heap[wr.heap.size]? = some (.cells (D.map ch).toArray 5 (0, 0))) := by
        have := hg'.out
        rw [splice_all 20 _ Hlen.out, HDC.out] at this
        exact this
      clear hg'
      go_wp2
      go_ret
      exact ⟨wr.heap.size, retS HDL.out, hBs, hg2.out, hb'⟩
end Go.Proofs.Ytenpiaafkmfjfaa.B

end
section
namespace Go.Proofs.Ytenpiaafkmfjfaa.B
open Go.RowKit Go.Proofs.YtenpiaafkmfjfaaW.PrintWords Go.Proofs.YtenpiaafkmfjfaaW.PrintLast Go.Proofs.YtenpiaafkmfjfaaW.PrintMore
def IsB (b : Nat) (l : List UInt8) (w : World) : Prop := Lib.IsBuilder 96 5 b b (Lib.byteCells l) w
theorem IsB.below {b : Nat} {l : List UInt8} {w w1 : World} (h : IsB b l w) (hb : Below w.heap.size w w1) : IsB b l w1 := by
  have k : ∀ p, Lib.BuilderAt 96 5 b b p (Lib.byteCells l) w → Lib.BuilderAt 96 5 b b p (Lib.byteCells l) w1 := by
    rintro p ⟨hB, v, hbk, hown, hne⟩
    exact ⟨hB, v, blk_below hbk hb, own_move hown (fun k hk => by obtain ⟨cells, hc⟩ := own_typed hown k hk; exact hb.block k (blk_lt hc)), hne⟩
  rcases h with h | h
  · exact .inl (k _ h)
  · exact .inr (k _ h)
theorem IsB.lt {b : Nat} {l : List UInt8} {w : World} (h : IsB b l w) : b < w.heap.size := by
  rcases h with h | h
  · exact h.lt
  · exact h.lt
theorem isB_new (w : World) : IsB w.heap.size [] (w.alloc (.cells #[.pointer none, .slice none 0 0] 96)) := Lib.fresh_isBuilder 96 5 w
theorem writeB (b : Nat) (l : List UInt8) (c : UInt8) (ci : Int) (hc : ci = (c.toNat : Int)) (w : World) (h : IsB b l w) (hl : l.length ≤ 1000) :
    Calls Try.prog 102 #[.pointer (some ⟨b, 0, none⟩), .int .u8 ci] w fun e w' => e = .returned .nilIface ∧ IsB b (l ++ [c]) w' ∧ Below b w w' := by
  subst hc
  refine (writeByte b b _ (c.toNat : Int) w h (by rw [Lib.byteCells_length]; omega) (Nat.le_of_lt h.lt)).mono ?_
  rintro e w' ⟨rfl, h1, h2⟩
  refine ⟨rfl, .inr ?_, h2⟩
  have e : Lib.byteCells l ++ [.int .u8 (c.toNat : Int)] = Lib.byteCells (l ++ [c]) := by simp [Lib.byteCells]
  rwa [e] at h1
theorem writeL (b : Nat) (l news : List UInt8) (g m : Nat) (w : World) (h : IsB b l w) (hl : l.length ≤ 1000) (hm : news.length = m) (hm2 : m ≤ 1000)
    (hg : w.heap[g]? = some (.cells (Lib.byteCells news).toArray 5 (0, 0))) (hne : g ≠ b) :
    Calls Try.prog 103 #[.pointer (some ⟨b, 0, none⟩), .slice (some ⟨g, 0, none⟩) m m] w fun e w' => e = .returned (.tuple #[.int .i64 m, .nilIface]) ∧ IsB b (l ++ news) w' ∧ Below b w w' := by
  refine (writeBytes b b _ ⟨g, 0, none⟩ m m (Lib.byteCells news) w h (by rw [Lib.byteCells_length]; exact hm) (fun j u hj => ?_) hne ?_ (by rw [Lib.byteCells_length]; omega) (Nat.le_of_lt h.lt)).mono ?_
  · rw [add_off, Nat.zero_add]
    exact (blk_cell hg j).trans (by simpa using hj)
  · intro u hu
    obtain ⟨x, _, rfl⟩ := List.mem_map.1 hu
    rfl
  · rintro e w' ⟨rfl, h1, h2⟩
    refine ⟨rfl, .inr ?_, h2⟩
    have e : Lib.byteCells l ++ Lib.byteCells news = Lib.byteCells (l ++ news) := by simp [Lib.byteCells]
    rwa [e] at h1
theorem ch_bytes (l : List Nat) (h : ninth l) : l.map ch = Lib.byteCells (l.map dig) := by
  unfold Lib.byteCells
  rw [List.map_map]
  apply List.map_congr_left
  intro d hd
  unfold ch
  simp only [Function.comp]
  rw [dig_toNat d (h d hd)]
theorem and_mask (n : Nat) (hn : n < 18446744073709551616) : bits .and .u64 (n : Int) 4294967295 = ((n % 4294967296 : Nat) : Int) := by
  have h := bits_and_u64_nat n 4294967295 hn (by omega)
  have e : n &&& 4294967295 = n % 4294967296 := Nat.and_two_pow_sub_one_eq_mod n 32
  rw [e] at h
  exact h
theorem Lib_hid {p : Prop} (h : p) : Hid p := h
structure StT (w : World) (x b : Nat) (v : Int) (f : Bool) (l : List UInt8) (W : World) : Prop where
  box : W.heap[x]? = some (.cells #[.int .i64 v, .bool f] 23 (0, 0))
  isB : IsB b l W
  bel : Below w.heap.size w W
  xb : x < b
  wx : w.heap.size ≤ x
theorem StT.below {w : World} {x b : Nat} {v : Int} {f : Bool} {l : List UInt8} {W W' : World} (h : StT w x b v f l W) (hb : Below W.heap.size W W') : StT w x b v f l W' :=
  ⟨blk_below h.box hb, h.isB.below hb, below_step h.bel hb, h.xb, h.wx⟩
theorem StT.last {w : World} {x b : Nat} {v : Int} {f : Bool} {l : List UInt8} {W W' : World} (h : StT w x b v f l W) (hb : Below b W W') : Below w.heap.size w W' :=
  h.bel.trans (hb.mono (Nat.le_trans h.wx (Nat.le_of_lt h.xb)))
theorem StT.write {w : World} {x b : Nat} {v : Int} {f : Bool} {l l' : List UInt8} {W W' : World} (h : StT w x b v f l W) (hB : IsB b l' W') (hb : Below b W W') : StT w x b v f l' W' :=
  ⟨(hb.block x h.xb).trans h.box, hB, h.last hb, h.xb, h.wx⟩
theorem StT.q0 {w : World} {x b : Nat} {v : Int} {f : Bool} {l : List UInt8} {W : World} (h : StT w x b v f l W) : W.cell? ⟨x, 0, none⟩ = some (.int .i64 v) := (blk_cell h.box 0).trans rfl
theorem StT.q1 {w : World} {x b : Nat} {v : Int} {f : Bool} {l : List UInt8} {W : World} (h : StT w x b v f l W) : W.cell? ⟨x, 1, none⟩ = some (.bool f) := (blk_cell h.box 1).trans rfl
theorem stT_new (w w1 : World) (v v1 : Int) (f f1 : Bool) (hbox : w1.heap[w.heap.size]? = some (.cells #[.int .i64 v, .bool f] 23 (0, 0))) (hB : Below w.heap.size w w1) :
    StT w w.heap.size w1.heap.size v1 f1 [] (((w1.setCell ⟨w.heap.size, 0, none⟩ (.int .i64 v1)).setCell ⟨w.heap.size, 1, none⟩ (.bool f1)).alloc (.cells #[.pointer none, .slice none 0 0] 96)) := by
  refine ⟨blk_alloc (blk_put (cs := #[.int .i64 v1, .bool f]) (blk_put (cs := #[.int .i64 v, .bool f]) hbox 0 _ rfl) 1 _ rfl) _, ?_, below_alloc (below_set (below_set hB (Nat.le_refl _)) (Nat.le_refl _)) _, blk_lt hbox, Nat.le_refl _⟩
  have h := isB_new ((w1.setCell ⟨w.heap.size, 0, none⟩ (.int .i64 v1)).setCell ⟨w.heap.size, 1, none⟩ (.bool f1))
  have e : ((w1.setCell ⟨w.heap.size, 0, none⟩ (.int .i64 v1)).setCell ⟨w.heap.size, 1, none⟩ (.bool f1)).heap.size = w1.heap.size := by simp
  rw [e] at h
  exact h
theorem strB (b : Nat) (l : List UInt8) (w : World) (h : IsB b l w) :
    Calls Try.prog 105 #[.pointer (some ⟨b, 0, none⟩)] w fun e w' => e = .returned (.string ⟨l.toArray⟩) ∧ Below b w w' := Builder_String_any b b l w h (Nat.le_of_lt h.lt)
theorem retT {a b : List UInt8} (h : a = b) : Ending.returned (Value.string ⟨a.toArray⟩) = .returned (Value.string ⟨b.toArray⟩) := by rw [h]
theorem c10 (q : Nat) : ((q * 10 % 4294967296 : Nat) : Int) = (q : Int) * 10 % 4294967296 := by omega
theorem tn10 (q m : Nat) (h : q * 10 % 4294967296 = m) : ((q : Int) * 10 % 4294967296).toNat = m := by
  rw [← c10, h, Int.toNat_natCast]
theorem meas_dec (q : Nat) (h : (fd 32 q).length = (fd 32 (q * 10 % 4294967296)).length + 1) : (fd 32 ((q : Int) * 10 % 4294967296).toNat).length < (fd 32 (q : Int).toNat).length := by
  generalize hm : q * 10 % 4294967296 = m at h
  have e := tn10 q m hm
  generalize ((q : Int) * 10 % 4294967296).toNat = z at e ⊢
  subst e
  rw [Int.toNat_natCast, h]
  exact Nat.lt_succ_self _
set_option maxHeartbeats 800000 in
set_option maxRecDepth 100000 in
theorem text_000 (v : Int) (f : Bool) (v1 : Int) (n p : Nat) (w : World) (hs : fixed_sound.f v f = some (v1, false)) (hof : fixed_of.f v1 = some (false, (n : Int), 0)) (hneg : ¬ v1 < 0) (hn : n < 18446744073709551616) (hp : n % 4294967296 = p) (hp0 : p = 0) :
    Calls Try.prog 67 #[.agg #[.int .i64 v, .bool f]] w fun e w' => e = .returned (.string ⟨(textN false n false).toArray⟩) ∧ Below w.heap.size w w' := by
  have HS : Hid (fixed_sound.f v f = some (v1, false)) := hs
  have HOF : Hid (fixed_of.f v1 = some (false, (n : Int), 0)) := hof
  have hidx := idx58_0
  have hfld := fld60_1
  have HP : Hid (n % 4294967296 = p) := hp
  have hp32 : p < 4294967296 := by omega
  have HD : Hid (∀ W, Calls Try.prog 104 #[.int .u64 ((n : Int) / 4294967296)] W fun e w' => ∃ g, e = .returned (.slice (some ⟨g, 0, none⟩) (decs (n / 4294967296)).length (decs (n / 4294967296)).length) ∧ W.heap.size ≤ g ∧ w'.heap[g]? = some (.cells (Lib.byteCells ((decs (n / 4294967296)).map dig)).toArray 5 (0, 0)) ∧ Below W.heap.size W w') := fun W => by
    have h := decimal_calls (n / 4294967296) (by omega) W
    rw [show ((n / 4294967296 : Nat) : Int) = (n : Int) / 4294967296 by omega, ch_bytes _ (decs_nine _)] at h
    exact h
  have hmask : bits .and .u64 (n : Int) 4294967295 = (p : Int) := by rw [and_mask n hn, hp]
  clear hs hof hp
  subst hp0
  generalize hT : textN false n false = T
  have HT : Hid (textN false n false = T) := hT
  clear hT
  go_enter Try.func67, Try.ntmps67
  go_wp2_with fail
  refine (fixed_sound.calls v f v1 false _ HS.out).mono ?_
  rintro e w1 ⟨rfl, hb⟩
  have hbox : w1.heap[w.heap.size]? = some (.cells #[.int .i64 v, .bool f] 23 (0, 0)) := blk_below (blk_new w _) hb
  have hB : Hid (Below w.heap.size w w1) := below_step (below_alloc (Below.refl _ _) _) hb
  have q0 : w1.cell? ⟨w.heap.size, 0, none⟩ = some (.int .i64 v) := (blk_cell hbox 0).trans rfl
  have q1 : w1.cell? ⟨w.heap.size, 1, none⟩ = some (.bool f) := (blk_cell hbox 1).trans rfl
  have z0 := blk_frozen hbox 0
  have z1 := blk_frozen hbox 1
  have hlt : w.heap.size < w1.heap.size := blk_lt hbox
  have hst : Hid (StT w w.heap.size w1.heap.size v1 false [] _) := stT_new w w1 v v1 f false hbox hB.out
  have hne1 : w.heap.size ≠ w1.heap.size := Nat.ne_of_lt hlt
  have hne2 : w1.heap.size ≠ w.heap.size := Nat.ne_of_gt hlt
  clear hbox hb hB
  go_wp2_with fail
  clear q0 q1 z0 z1
  refine (fixed_of.calls v1 false n 0 _ HOF.out).mono ?_
  rintro e w2 ⟨rfl, hb⟩
  replace hst := Lib_hid (hst.out.below hb)
  clear hb
  have q0 := hst.out.q0
  have q1 := hst.out.q1
  go_wp2_with fail
  clear q0 q1
  refine (HD.out _).mono ?_
  rintro e w3 ⟨g, rfl, hg, hgb, hb⟩
  have hgn : g ≠ w1.heap.size := by have := hst.out.isB.lt; omega
  have HGB := Lib_hid hgb
  replace hst := Lib_hid (hst.out.below hb)
  clear hb hgb hg
  have q0 := hst.out.q0
  have q1 := hst.out.q1
  go_wp2_with fail
  clear q0 q1
  have hlen := decs_len (n / 4294967296)
  refine (writeL _ _ _ g _ _ hst.out.isB (by simp) (by rw [List.length_map]) (by omega) HGB.out hgn).mono ?_
  clear HGB
  rintro e w4 ⟨rfl, hB, hb⟩
  replace hst := Lib_hid (hst.out.write hB hb)
  clear hB  hb
  have q0 := hst.out.q0
  have q1 := hst.out.q1
  go_wp2_with fail
  clear q0 q1
  refine (strB _ _ _ hst.out.isB).mono ?_
  rintro e w5 ⟨rfl, hb⟩
  have hfin := Lib_hid (hst.out.last hb)
  clear hb hst
  go_wp2
  go_ret
  exact ⟨retT (by rw [← HT.out]; simp [textN, HP.out]), hfin.out⟩
set_option maxHeartbeats 800000 in
set_option maxRecDepth 100000 in
theorem text_001 (v : Int) (f : Bool) (v1 : Int) (n p : Nat) (w : World) (hs : fixed_sound.f v f = some (v1, true)) (hof : fixed_of.f v1 = some (false, (n : Int), 0)) (hneg : ¬ v1 < 0) (hn : n < 18446744073709551616) (hp : n % 4294967296 = p) (hp0 : p = 0) :
    Calls Try.prog 67 #[.agg #[.int .i64 v, .bool f]] w fun e w' => e = .returned (.string ⟨(textN false n true).toArray⟩) ∧ Below w.heap.size w w' := by
  have HS : Hid (fixed_sound.f v f = some (v1, true)) := hs
  have HOF : Hid (fixed_of.f v1 = some (false, (n : Int), 0)) := hof
  have hidx := idx58_0
  have hfld := fld60_1
  have HP : Hid (n % 4294967296 = p) := hp
  have hp32 : p < 4294967296 := by omega
  have HD : Hid (∀ W, Calls Try.prog 104 #[.int .u64 ((n : Int) / 4294967296)] W fun e w' => ∃ g, e = .returned (.slice (some ⟨g, 0, none⟩) (decs (n / 4294967296)).length (decs (n / 4294967296)).length) ∧ W.heap.size ≤ g ∧ w'.heap[g]? = some (.cells (Lib.byteCells ((decs (n / 4294967296)).map dig)).toArray 5 (0, 0)) ∧ Below W.heap.size W w') := fun W => by
    have h := decimal_calls (n / 4294967296) (by omega) W
    rw [show ((n / 4294967296 : Nat) : Int) = (n : Int) / 4294967296 by omega, ch_bytes _ (decs_nine _)] at h
    exact h
  have hmask : bits .and .u64 (n : Int) 4294967295 = (p : Int) := by rw [and_mask n hn, hp]
  clear hs hof hp
  subst hp0
  generalize hT : textN false n true = T
  have HT : Hid (textN false n true = T) := hT
  clear hT
  go_enter Try.func67, Try.ntmps67
  go_wp2_with fail
  refine (fixed_sound.calls v f v1 true _ HS.out).mono ?_
  rintro e w1 ⟨rfl, hb⟩
  have hbox : w1.heap[w.heap.size]? = some (.cells #[.int .i64 v, .bool f] 23 (0, 0)) := blk_below (blk_new w _) hb
  have hB : Hid (Below w.heap.size w w1) := below_step (below_alloc (Below.refl _ _) _) hb
  have q0 : w1.cell? ⟨w.heap.size, 0, none⟩ = some (.int .i64 v) := (blk_cell hbox 0).trans rfl
  have q1 : w1.cell? ⟨w.heap.size, 1, none⟩ = some (.bool f) := (blk_cell hbox 1).trans rfl
  have z0 := blk_frozen hbox 0
  have z1 := blk_frozen hbox 1
  have hlt : w.heap.size < w1.heap.size := blk_lt hbox
  have hst : Hid (StT w w.heap.size w1.heap.size v1 true [] _) := stT_new w w1 v v1 f true hbox hB.out
  have hne1 : w.heap.size ≠ w1.heap.size := Nat.ne_of_lt hlt
  have hne2 : w1.heap.size ≠ w.heap.size := Nat.ne_of_gt hlt
  clear hbox hb hB
  go_wp2_with fail
  clear q0 q1 z0 z1
  refine (fixed_of.calls v1 false n 0 _ HOF.out).mono ?_
  rintro e w2 ⟨rfl, hb⟩
  replace hst := Lib_hid (hst.out.below hb)
  clear hb
  have q0 := hst.out.q0
  have q1 := hst.out.q1
  go_wp2_with fail
  clear q0 q1
  refine (HD.out _).mono ?_
  rintro e w3 ⟨g, rfl, hg, hgb, hb⟩
  have hgn : g ≠ w1.heap.size := by have := hst.out.isB.lt; omega
  have HGB := Lib_hid hgb
  replace hst := Lib_hid (hst.out.below hb)
  clear hb hgb hg
  have q0 := hst.out.q0
  have q1 := hst.out.q1
  go_wp2_with fail
  clear q0 q1
  have hlen := decs_len (n / 4294967296)
  refine (writeL _ _ _ g _ _ hst.out.isB (by simp) (by rw [List.length_map]) (by omega) HGB.out hgn).mono ?_
  clear HGB
  rintro e w4 ⟨rfl, hB, hb⟩
  replace hst := Lib_hid (hst.out.write hB hb)
  clear hB  hb
  have q0 := hst.out.q0
  have q1 := hst.out.q1
  go_wp2_with fail
  clear q0 q1
  refine (writeB _ _ 33 _ rfl _ hst.out.isB (by simp; omega)).mono ?_
  rintro e w5 ⟨rfl, hB, hb⟩
  replace hst := Lib_hid (hst.out.write hB hb)
  clear hB hb
  have q0 := hst.out.q0
  have q1 := hst.out.q1
  go_wp2_with fail
  clear q0 q1
  refine (strB _ _ _ hst.out.isB).mono ?_
  rintro e w6 ⟨rfl, hb⟩
  have hfin := Lib_hid (hst.out.last hb)
  clear hb hst
  go_wp2
  go_ret
  exact ⟨retT (by rw [← HT.out]; simp [textN, HP.out]), hfin.out⟩
set_option maxHeartbeats 800000 in
set_option maxRecDepth 100000 in
theorem text_010 (v : Int) (f : Bool) (v1 : Int) (n p : Nat) (w : World) (hs : fixed_sound.f v f = some (v1, false)) (hof : fixed_of.f v1 = some (false, (n : Int), 0)) (hneg : ¬ v1 < 0) (hn : n < 18446744073709551616) (hp : n % 4294967296 = p) (hp0 : ¬ p = 0) :
    Calls Try.prog 67 #[.agg #[.int .i64 v, .bool f]] w fun e w' => e = .returned (.string ⟨(textN false n false).toArray⟩) ∧ Below w.heap.size w w' := by
  have HS : Hid (fixed_sound.f v f = some (v1, false)) := hs
  have HOF : Hid (fixed_of.f v1 = some (false, (n : Int), 0)) := hof
  have hidx := idx58_0
  have hfld := fld60_1
  have HP : Hid (n % 4294967296 = p) := hp
  have hp32 : p < 4294967296 := by omega
  have HD : Hid (∀ W, Calls Try.prog 104 #[.int .u64 ((n : Int) / 4294967296)] W fun e w' => ∃ g, e = .returned (.slice (some ⟨g, 0, none⟩) (decs (n / 4294967296)).length (decs (n / 4294967296)).length) ∧ W.heap.size ≤ g ∧ w'.heap[g]? = some (.cells (Lib.byteCells ((decs (n / 4294967296)).map dig)).toArray 5 (0, 0)) ∧ Below W.heap.size W w') := fun W => by
    have h := decimal_calls (n / 4294967296) (by omega) W
    rw [show ((n / 4294967296 : Nat) : Int) = (n : Int) / 4294967296 by omega, ch_bytes _ (decs_nine _)] at h
    exact h
  have hmask : bits .and .u64 (n : Int) 4294967295 = (p : Int) := by rw [and_mask n hn, hp]
  clear hs hof hp
  have hpB : ((p : Int) != 0) = true := by simp; omega
  generalize hT : textN false n false = T
  have HT : Hid (textN false n false = T) := hT
  clear hT
  go_enter Try.func67, Try.ntmps67
  go_wp2_with fail
  refine (fixed_sound.calls v f v1 false _ HS.out).mono ?_
  rintro e w1 ⟨rfl, hb⟩
  have hbox : w1.heap[w.heap.size]? = some (.cells #[.int .i64 v, .bool f] 23 (0, 0)) := blk_below (blk_new w _) hb
  have hB : Hid (Below w.heap.size w w1) := below_step (below_alloc (Below.refl _ _) _) hb
  have q0 : w1.cell? ⟨w.heap.size, 0, none⟩ = some (.int .i64 v) := (blk_cell hbox 0).trans rfl
  have q1 : w1.cell? ⟨w.heap.size, 1, none⟩ = some (.bool f) := (blk_cell hbox 1).trans rfl
  have z0 := blk_frozen hbox 0
  have z1 := blk_frozen hbox 1
  have hlt : w.heap.size < w1.heap.size := blk_lt hbox
  have hst : Hid (StT w w.heap.size w1.heap.size v1 false [] _) := stT_new w w1 v v1 f false hbox hB.out
  have hne1 : w.heap.size ≠ w1.heap.size := Nat.ne_of_lt hlt
  have hne2 : w1.heap.size ≠ w.heap.size := Nat.ne_of_gt hlt
  clear hbox hb hB
  go_wp2_with fail
  clear q0 q1 z0 z1
  refine (fixed_of.calls v1 false n 0 _ HOF.out).mono ?_
  rintro e w2 ⟨rfl, hb⟩
  replace hst := Lib_hid (hst.out.below hb)
  clear hb
  have q0 := hst.out.q0
  have q1 := hst.out.q1
  go_wp2_with fail
  clear q0 q1
  refine (HD.out _).mono ?_
  rintro e w3 ⟨g, rfl, hg, hgb, hb⟩
  have hgn : g ≠ w1.heap.size := by have := hst.out.isB.lt; omega
  have HGB := Lib_hid hgb
  replace hst := Lib_hid (hst.out.below hb)
  clear hb hgb hg
  have q0 := hst.out.q0
  have q1 := hst.out.q1
  go_wp2_with fail
  clear q0 q1
  have hlen := decs_len (n / 4294967296)
  refine (writeL _ _ _ g _ _ hst.out.isB (by simp) (by rw [List.length_map]) (by omega) HGB.out hgn).mono ?_
  clear HGB
  rintro e w4 ⟨rfl, hB, hb⟩
  replace hst := Lib_hid (hst.out.write hB hb)
  clear hB  hb
  have q0 := hst.out.q0
  have q1 := hst.out.q1
  go_wp2_with fail
  clear q0 q1
  refine (writeB _ _ 46 _ rfl _ hst.out.isB (by simp; omega)).mono ?_
  rintro e w5 ⟨rfl, hB, hb⟩
  replace hst := Lib_hid (hst.out.write hB hb)
  clear hB hb
  have q0 := hst.out.q0
  have q1 := hst.out.q1
  go_wp2_with fail
  clear q0 q1
  obtain ⟨L, hL⟩ : ∃ L : List UInt8, L = [] ++ (decs (n / 4294967296)).map dig ++ [46] := ⟨_, rfl⟩
  have HL := Lib_hid hL
  have hst2 : Hid (StT w w.heap.size w1.heap.size v1 false (L ++ ([] : List Nat).map dig) w5) := by rw [hL]; simpa [Hid] using hst.out
  have hLl : L.length ≤ 30 := by rw [hL]; simp; omega
  clear hst hL
  go_loopw [5] (fun r wr => ∃ (q : Nat) (acc : List Nat), r = .int .u64 q ∧ q < 4294967296 ∧ Hid (acc ++ fd 32 q = fd 32 p) ∧ Hid (StT w w.heap.size w1.heap.size v1 false (L ++ acc.map dig) wr)) (fun r _ => (fd 32 (intOf r).toNat).length)
  case atStart => exact ⟨p, [], rfl, hp32, (rfl : [] ++ fd 32 p = fd 32 p), hst2⟩
  case round =>
    clear hst2
    obtain ⟨q, acc, rfl, hq, hacc, hst⟩ := hrel
    have hal : Hid (acc.length ≤ 32) := by have h1 := fd_len 32 p; rw [← hacc.out, List.length_append] at h1; show _ ≤ _; omega
    by_cases hq0 : q = 0
    · subst hq0
      have hacc2 : Hid (acc = fd 32 p) := by have := hacc.out; simpa [fd, Hid] using this
      clear hacc
      have q0 := hst.out.q0
      have q1 := hst.out.q1
      go_wp2_with fail
      clear q0 q1
      refine (strB _ _ _ hst.out.isB).mono ?_
      rintro e w6 ⟨rfl, hb⟩
      have hfin := Lib_hid (hst.out.last hb)
      clear hb hst
      go_wp2
      go_ret
      exact ⟨retT (by rw [← HT.out, hacc2.out, HL.out]; simp [textN, HP.out, hp0]), hfin.out⟩
    · have hqB : ((q : Int) != 0) = true := by simp; omega
      have hst' := fd_step q hq0 hq
      have hacc2 : Hid ((acc ++ [q * 10 / 4294967296]) ++ fd 32 (q * 10 % 4294967296) = fd 32 p) := by show _ = _; rw [← hacc.out, hst']; simp
      have hmeas : Hid ((fd 32 q).length = (fd 32 (q * 10 % 4294967296)).length + 1) := by show _ = _; rw [hst']; simp
      have hdig : Hid (48 + (q : Int) * 10 / 4294967296 = ((dig (q * 10 / 4294967296)).toNat : Int)) := by show _ = _; rw [dig_toNat _ (by omega)]; omega
      have hmask2 : bits .and .u64 ((q : Int) * 10) 4294967295 = ((q * 10 % 4294967296 : Nat) : Int) := by
        rw [show (q : Int) * 10 = ((q * 10 : Nat) : Int) by omega]; exact and_mask (q * 10) (by omega)
      have HMK := Lib_hid hmask2
      clear hst' hacc hmask hmask2
      have q0 := hst.out.q0
      have q1 := hst.out.q1
      go_wp2_with fail
      clear q0 q1
      refine (writeB _ _ (dig (q * 10 / 4294967296)) _ hdig.out _ hst.out.isB (by have h1 := hal.out; simp; omega)).mono ?_
      rintro e wz ⟨rfl, hB, hb⟩
      replace hst := Lib_hid (hst.out.write hB hb)
      clear hB hb
      have hmask2 := HMK.out
      clear HMK
      have q0 := hst.out.q0
      have q1 := hst.out.q1
      go_wp2
      go_roundw
      case rel => exact ⟨q * 10 % 4294967296, acc ++ [q * 10 / 4294967296], rfl, Nat.mod_lt _ (by decide), hacc2, (by have := hst.out; rw [List.append_assoc] at this; simpa [Hid] using this)⟩
      case measure =>
        have hmm := meas_dec q hmeas.out
        simp only [intOf]
        exact hmm
set_option maxHeartbeats 800000 in
set_option maxRecDepth 100000 in
theorem text_011 (v : Int) (f : Bool) (v1 : Int) (n p : Nat) (w : World) (hs : fixed_sound.f v f = some (v1, true)) (hof : fixed_of.f v1 = some (false, (n : Int), 0)) (hneg : ¬ v1 < 0) (hn : n < 18446744073709551616) (hp : n % 4294967296 = p) (hp0 : ¬ p = 0) :
    Calls Try.prog 67 #[.agg #[.int .i64 v, .bool f]] w fun e w' => e = .returned (.string ⟨(textN false n true).toArray⟩) ∧ Below w.heap.size w w' := by
  have HS : Hid (fixed_sound.f v f = some (v1, true)) := hs
  have HOF : Hid (fixed_of.f v1 = some (false, (n : Int), 0)) := hof
  have hidx := idx58_0
  have hfld := fld60_1
  have HP : Hid (n % 4294967296 = p) := hp
  have hp32 : p < 4294967296 := by omega
  have HD : Hid (∀ W, Calls Try.prog 104 #[.int .u64 ((n : Int) / 4294967296)] W fun e w' => ∃ g, e = .returned (.slice (some ⟨g, 0, none⟩) (decs (n / 4294967296)).length (decs (n / 4294967296)).length) ∧ W.heap.size ≤ g ∧ w'.heap[g]? = some (.cells (Lib.byteCells ((decs (n / 4294967296)).map dig)).toArray 5 (0, 0)) ∧ Below W.heap.size W w') := fun W => by
    have h := decimal_calls (n / 4294967296) (by omega) W
    rw [show ((n / 4294967296 : Nat) : Int) = (n : Int) / 4294967296 by omega, ch_bytes _ (decs_nine _)] at h
    exact h
  have hmask : bits .and .u64 (n : Int) 4294967295 = (p : Int) := by rw [and_mask n hn, hp]
  clear hs hof hp
  have hpB : ((p : Int) != 0) = true := by simp; omega
  generalize hT : textN false n true = T
  have HT : Hid (textN false n true = T) := hT
  clear hT
  go_enter Try.func67, Try.ntmps67
  go_wp2_with fail
  refine (fixed_sound.calls v f v1 true _ HS.out).mono ?_
  rintro e w1 ⟨rfl, hb⟩
  have hbox : w1.heap[w.heap.size]? = some (.cells #[.int .i64 v, .bool f] 23 (0, 0)) := blk_below (blk_new w _) hb
  have hB : Hid (Below w.heap.size w w1) := below_step (below_alloc (Below.refl _ _) _) hb
  have q0 : w1.cell? ⟨w.heap.size, 0, none⟩ = some (.int .i64 v) := (blk_cell hbox 0).trans rfl
  have q1 : w1.cell? ⟨w.heap.size, 1, none⟩ = some (.bool f) := (blk_cell hbox 1).trans rfl
  have z0 := blk_frozen hbox 0
  have z1 := blk_frozen hbox 1
  have hlt : w.heap.size < w1.heap.size := blk_lt hbox
  have hst : Hid (StT w w.heap.size w1.heap.size v1 true [] _) := stT_new w w1 v v1 f true hbox hB.out
  have hne1 : w.heap.size ≠ w1.heap.size := Nat.ne_of_lt hlt
  have hne2 : w1.heap.size ≠ w.heap.size := Nat.ne_of_gt hlt
  clear hbox hb hB
  go_wp2_with fail
  clear q0 q1 z0 z1
  refine (fixed_of.calls v1 false n 0 _ HOF.out).mono ?_
  rintro e w2 ⟨rfl, hb⟩
  replace hst := Lib_hid (hst.out.below hb)
  clear hb
  have q0 := hst.out.q0
  have q1 := hst.out.q1
  go_wp2_with fail
  clear q0 q1
  refine (HD.out _).mono ?_
  rintro e w3 ⟨g, rfl, hg, hgb, hb⟩
  have hgn : g ≠ w1.heap.size := by have := hst.out.isB.lt; omega
  have HGB := Lib_hid hgb
  replace hst := Lib_hid (hst.out.below hb)
  clear hb hgb hg
  have q0 := hst.out.q0
  have q1 := hst.out.q1
  go_wp2_with fail
  clear q0 q1
  have hlen := decs_len (n / 4294967296)
  refine (writeL _ _ _ g _ _ hst.out.isB (by simp) (by rw [List.length_map]) (by omega) HGB.out hgn).mono ?_
  clear HGB
  rintro e w4 ⟨rfl, hB, hb⟩
  replace hst := Lib_hid (hst.out.write hB hb)
  clear hB  hb
  have q0 := hst.out.q0
  have q1 := hst.out.q1
  go_wp2_with fail
  clear q0 q1
  refine (writeB _ _ 46 _ rfl _ hst.out.isB (by simp; omega)).mono ?_
  rintro e w5 ⟨rfl, hB, hb⟩
  replace hst := Lib_hid (hst.out.write hB hb)
  clear hB hb
  have q0 := hst.out.q0
  have q1 := hst.out.q1
  go_wp2_with fail
  clear q0 q1
  obtain ⟨L, hL⟩ : ∃ L : List UInt8, L = [] ++ (decs (n / 4294967296)).map dig ++ [46] := ⟨_, rfl⟩
  have HL := Lib_hid hL
  have hst2 : Hid (StT w w.heap.size w1.heap.size v1 true (L ++ ([] : List Nat).map dig) w5) := by rw [hL]; simpa [Hid] using hst.out
  have hLl : L.length ≤ 30 := by rw [hL]; simp; omega
  clear hst hL
  go_loopw [5] (fun r wr => ∃ (q : Nat) (acc : List Nat), r = .int .u64 q ∧ q < 4294967296 ∧ Hid (acc ++ fd 32 q = fd 32 p) ∧ Hid (StT w w.heap.size w1.heap.size v1 true (L ++ acc.map dig) wr)) (fun r _ => (fd 32 (intOf r).toNat).length)
  case atStart => exact ⟨p, [], rfl, hp32, (rfl : [] ++ fd 32 p = fd 32 p), hst2⟩
  case round =>
    clear hst2
    obtain ⟨q, acc, rfl, hq, hacc, hst⟩ := hrel
    have hal : Hid (acc.length ≤ 32) := by have h1 := fd_len 32 p; rw [← hacc.out, List.length_append] at h1; show _ ≤ _; omega
    by_cases hq0 : q = 0
    · subst hq0
      have hacc2 : Hid (acc = fd 32 p) := by have := hacc.out; simpa [fd, Hid] using this
      clear hacc
      have q0 := hst.out.q0
      have q1 := hst.out.q1
      go_wp2_with fail
      clear q0 q1
      refine (writeB _ _ 33 _ rfl _ hst.out.isB (by have h1 := hal.out; simp; omega)).mono ?_
      rintro e w6 ⟨rfl, hB, hb⟩
      replace hst := Lib_hid (hst.out.write hB hb)
      clear hB hb
      have q0 := hst.out.q0
      have q1 := hst.out.q1
      go_wp2_with fail
      clear q0 q1
      refine (strB _ _ _ hst.out.isB).mono ?_
      rintro e w7 ⟨rfl, hb⟩
      have hfin := Lib_hid (hst.out.last hb)
      clear hb hst
      go_wp2
      go_ret
      exact ⟨retT (by rw [← HT.out, hacc2.out, HL.out]; simp [textN, HP.out, hp0]), hfin.out⟩
    · have hqB : ((q : Int) != 0) = true := by simp; omega
      have hst' := fd_step q hq0 hq
      have hacc2 : Hid ((acc ++ [q * 10 / 4294967296]) ++ fd 32 (q * 10 % 4294967296) = fd 32 p) := by show _ = _; rw [← hacc.out, hst']; simp
      have hmeas : Hid ((fd 32 q).length = (fd 32 (q * 10 % 4294967296)).length + 1) := by show _ = _; rw [hst']; simp
      have hdig : Hid (48 + (q : Int) * 10 / 4294967296 = ((dig (q * 10 / 4294967296)).toNat : Int)) := by show _ = _; rw [dig_toNat _ (by omega)]; omega
      have hmask2 : bits .and .u64 ((q : Int) * 10) 4294967295 = ((q * 10 % 4294967296 : Nat) : Int) := by
        rw [show (q : Int) * 10 = ((q * 10 : Nat) : Int) by omega]; exact and_mask (q * 10) (by omega)
      have HMK := Lib_hid hmask2
      clear hst' hacc hmask hmask2
      have q0 := hst.out.q0
      have q1 := hst.out.q1
      go_wp2_with fail
      clear q0 q1
      refine (writeB _ _ (dig (q * 10 / 4294967296)) _ hdig.out _ hst.out.isB (by have h1 := hal.out; simp; omega)).mono ?_
      rintro e wz ⟨rfl, hB, hb⟩
      replace hst := Lib_hid (hst.out.write hB hb)
      clear hB hb
      have hmask2 := HMK.out
      clear HMK
      have q0 := hst.out.q0
      have q1 := hst.out.q1
      go_wp2
      go_roundw
      case rel => exact ⟨q * 10 % 4294967296, acc ++ [q * 10 / 4294967296], rfl, Nat.mod_lt _ (by decide), hacc2, (by have := hst.out; rw [List.append_assoc] at this; simpa [Hid] using this)⟩
      case measure =>
        have hmm := meas_dec q hmeas.out
        simp only [intOf]
        exact hmm
set_option maxHeartbeats 800000 in
set_option maxRecDepth 100000 in
theorem text_100 (v : Int) (f : Bool) (v1 : Int) (n p : Nat) (w : World) (hs : fixed_sound.f v f = some (v1, false)) (hof : fixed_of.f v1 = some (true, (n : Int), 0)) (hneg : v1 < 0) (hn : n < 18446744073709551616) (hp : n % 4294967296 = p) (hp0 : p = 0) :
    Calls Try.prog 67 #[.agg #[.int .i64 v, .bool f]] w fun e w' => e = .returned (.string ⟨(textN true n false).toArray⟩) ∧ Below w.heap.size w w' := by
  have HS : Hid (fixed_sound.f v f = some (v1, false)) := hs
  have HOF : Hid (fixed_of.f v1 = some (true, (n : Int), 0)) := hof
  have hidx := idx58_0
  have hfld := fld60_1
  have HP : Hid (n % 4294967296 = p) := hp
  have hp32 : p < 4294967296 := by omega
  have HD : Hid (∀ W, Calls Try.prog 104 #[.int .u64 ((n : Int) / 4294967296)] W fun e w' => ∃ g, e = .returned (.slice (some ⟨g, 0, none⟩) (decs (n / 4294967296)).length (decs (n / 4294967296)).length) ∧ W.heap.size ≤ g ∧ w'.heap[g]? = some (.cells (Lib.byteCells ((decs (n / 4294967296)).map dig)).toArray 5 (0, 0)) ∧ Below W.heap.size W w') := fun W => by
    have h := decimal_calls (n / 4294967296) (by omega) W
    rw [show ((n / 4294967296 : Nat) : Int) = (n : Int) / 4294967296 by omega, ch_bytes _ (decs_nine _)] at h
    exact h
  have hmask : bits .and .u64 (n : Int) 4294967295 = (p : Int) := by rw [and_mask n hn, hp]
  clear hs hof hp
  subst hp0
  generalize hT : textN true n false = T
  have HT : Hid (textN true n false = T) := hT
  clear hT
  go_enter Try.func67, Try.ntmps67
  go_wp2_with fail
  refine (fixed_sound.calls v f v1 false _ HS.out).mono ?_
  rintro e w1 ⟨rfl, hb⟩
  have hbox : w1.heap[w.heap.size]? = some (.cells #[.int .i64 v, .bool f] 23 (0, 0)) := blk_below (blk_new w _) hb
  have hB : Hid (Below w.heap.size w w1) := below_step (below_alloc (Below.refl _ _) _) hb
  have q0 : w1.cell? ⟨w.heap.size, 0, none⟩ = some (.int .i64 v) := (blk_cell hbox 0).trans rfl
  have q1 : w1.cell? ⟨w.heap.size, 1, none⟩ = some (.bool f) := (blk_cell hbox 1).trans rfl
  have z0 := blk_frozen hbox 0
  have z1 := blk_frozen hbox 1
  have hlt : w.heap.size < w1.heap.size := blk_lt hbox
  have hst : Hid (StT w w.heap.size w1.heap.size v1 false [] _) := stT_new w w1 v v1 f false hbox hB.out
  have hne1 : w.heap.size ≠ w1.heap.size := Nat.ne_of_lt hlt
  have hne2 : w1.heap.size ≠ w.heap.size := Nat.ne_of_gt hlt
  clear hbox hb hB
  go_wp2_with fail
  clear q0 q1 z0 z1
  refine (writeB _ _ 45 _ rfl _ hst.out.isB (by simp)).mono ?_
  rintro e w2 ⟨rfl, hB, hb⟩
  replace hst := Lib_hid (hst.out.write hB hb)
  clear hB  hb
  have q0 := hst.out.q0
  have q1 := hst.out.q1
  go_wp2_with fail
  clear q0 q1
  refine (fixed_of.calls v1 true n 0 _ HOF.out).mono ?_
  rintro e w3 ⟨rfl, hb⟩
  replace hst := Lib_hid (hst.out.below hb)
  clear hb
  have q0 := hst.out.q0
  have q1 := hst.out.q1
  go_wp2_with fail
  clear q0 q1
  refine (HD.out _).mono ?_
  rintro e w4 ⟨g, rfl, hg, hgb, hb⟩
  have hgn : g ≠ w1.heap.size := by have := hst.out.isB.lt; omega
  have HGB := Lib_hid hgb
  replace hst := Lib_hid (hst.out.below hb)
  clear hb hgb hg
  have q0 := hst.out.q0
  have q1 := hst.out.q1
  go_wp2_with fail
  clear q0 q1
  have hlen := decs_len (n / 4294967296)
  refine (writeL _ _ _ g _ _ hst.out.isB (by simp) (by rw [List.length_map]) (by omega) HGB.out hgn).mono ?_
  clear HGB
  rintro e w5 ⟨rfl, hB, hb⟩
  replace hst := Lib_hid (hst.out.write hB hb)
  clear hB  hb
  have q0 := hst.out.q0
  have q1 := hst.out.q1
  go_wp2_with fail
  clear q0 q1
  refine (strB _ _ _ hst.out.isB).mono ?_
  rintro e w6 ⟨rfl, hb⟩
  have hfin := Lib_hid (hst.out.last hb)
  clear hb hst
  go_wp2
  go_ret
  exact ⟨retT (by rw [← HT.out]; simp [textN, HP.out]), hfin.out⟩
set_option maxHeartbeats 800000 in
set_option maxRecDepth 100000 in
theorem text_101 (v : Int) (f : Bool) (v1 : Int) (n p : Nat) (w : World) (hs : fixed_sound.f v f = some (v1, true)) (hof : fixed_of.f v1 = some (true, (n : Int), 0)) (hneg : v1 < 0) (hn : n < 18446744073709551616) (hp : n % 4294967296 = p) (hp0 : p = 0) :
    Calls Try.prog 67 #[.agg #[.int .i64 v, .bool f]] w fun e w' => e = .returned (.string ⟨(textN true n true).toArray⟩) ∧ Below w.heap.size w w' := by
  have HS : Hid (fixed_sound.f v f = some (v1, true)) := hs
  have HOF : Hid (fixed_of.f v1 = some (true, (n : Int), 0)) := hof
  have hidx := idx58_0
  have hfld := fld60_1
  have HP : Hid (n % 4294967296 = p) := hp
  have hp32 : p < 4294967296 := by omega
  have HD : Hid (∀ W, Calls Try.prog 104 #[.int .u64 ((n : Int) / 4294967296)] W fun e w' => ∃ g, e = .returned (.slice (some ⟨g, 0, none⟩) (decs (n / 4294967296)).length (decs (n / 4294967296)).length) ∧ W.heap.size ≤ g ∧ w'.heap[g]? = some (.cells (Lib.byteCells ((decs (n / 4294967296)).map dig)).toArray 5 (0, 0)) ∧ Below W.heap.size W w') := fun W => by
    have h := decimal_calls (n / 4294967296) (by omega) W
    rw [show ((n / 4294967296 : Nat) : Int) = (n : Int) / 4294967296 by omega, ch_bytes _ (decs_nine _)] at h
    exact h
  have hmask : bits .and .u64 (n : Int) 4294967295 = (p : Int) := by rw [and_mask n hn, hp]
  clear hs hof hp
  subst hp0
  generalize hT : textN true n true = T
  have HT : Hid (textN true n true = T) := hT
  clear hT
  go_enter Try.func67, Try.ntmps67
  go_wp2_with fail
  refine (fixed_sound.calls v f v1 true _ HS.out).mono ?_
  rintro e w1 ⟨rfl, hb⟩
  have hbox : w1.heap[w.heap.size]? = some (.cells #[.int .i64 v, .bool f] 23 (0, 0)) := blk_below (blk_new w _) hb
  have hB : Hid (Below w.heap.size w w1) := below_step (below_alloc (Below.refl _ _) _) hb
  have q0 : w1.cell? ⟨w.heap.size, 0, none⟩ = some (.int .i64 v) := (blk_cell hbox 0).trans rfl
  have q1 : w1.cell? ⟨w.heap.size, 1, none⟩ = some (.bool f) := (blk_cell hbox 1).trans rfl
  have z0 := blk_frozen hbox 0
  have z1 := blk_frozen hbox 1
  have hlt : w.heap.size < w1.heap.size := blk_lt hbox
  have hst : Hid (StT w w.heap.size w1.heap.size v1 true [] _) := stT_new w w1 v v1 f true hbox hB.out
  have hne1 : w.heap.size ≠ w1.heap.size := Nat.ne_of_lt hlt
  have hne2 : w1.heap.size ≠ w.heap.size := Nat.ne_of_gt hlt
  clear hbox hb hB
  go_wp2_with fail
  clear q0 q1 z0 z1
  refine (writeB _ _ 45 _ rfl _ hst.out.isB (by simp)).mono ?_
  rintro e w2 ⟨rfl, hB, hb⟩
  replace hst := Lib_hid (hst.out.write hB hb)
  clear hB  hb
  have q0 := hst.out.q0
  have q1 := hst.out.q1
  go_wp2_with fail
  clear q0 q1
  refine (fixed_of.calls v1 true n 0 _ HOF.out).mono ?_
  rintro e w3 ⟨rfl, hb⟩
  replace hst := Lib_hid (hst.out.below hb)
  clear hb
  have q0 := hst.out.q0
  have q1 := hst.out.q1
  go_wp2_with fail
  clear q0 q1
  refine (HD.out _).mono ?_
  rintro e w4 ⟨g, rfl, hg, hgb, hb⟩
  have hgn : g ≠ w1.heap.size := by have := hst.out.isB.lt; omega
  have HGB := Lib_hid hgb
  replace hst := Lib_hid (hst.out.below hb)
  clear hb hgb hg
  have q0 := hst.out.q0
  have q1 := hst.out.q1
  go_wp2_with fail
  clear q0 q1
  have hlen := decs_len (n / 4294967296)
  refine (writeL _ _ _ g _ _ hst.out.isB (by simp) (by rw [List.length_map]) (by omega) HGB.out hgn).mono ?_
  clear HGB
  rintro e w5 ⟨rfl, hB, hb⟩
  replace hst := Lib_hid (hst.out.write hB hb)
  clear hB  hb
  have q0 := hst.out.q0
  have q1 := hst.out.q1
  go_wp2_with fail
  clear q0 q1
  refine (writeB _ _ 33 _ rfl _ hst.out.isB (by simp; omega)).mono ?_
  rintro e w6 ⟨rfl, hB, hb⟩
  replace hst := Lib_hid (hst.out.write hB hb)
  clear hB hb
  have q0 := hst.out.q0
  have q1 := hst.out.q1
  go_wp2_with fail
  clear q0 q1
  refine (strB _ _ _ hst.out.isB).mono ?_
  rintro e w7 ⟨rfl, hb⟩
  have hfin := Lib_hid (hst.out.last hb)
  clear hb hst
  go_wp2
  go_ret
  exact ⟨retT (by rw [← HT.out]; simp [textN, HP.out]), hfin.out⟩
set_option maxHeartbeats 800000 in
set_option maxRecDepth 100000 in
theorem text_110 (v : Int) (f : Bool) (v1 : Int) (n p : Nat) (w : World) (hs : fixed_sound.f v f = some (v1, false)) (hof : fixed_of.f v1 = some (true, (n : Int), 0)) (hneg : v1 < 0) (hn : n < 18446744073709551616) (hp : n % 4294967296 = p) (hp0 : ¬ p = 0) :
    Calls Try.prog 67 #[.agg #[.int .i64 v, .bool f]] w fun e w' => e = .returned (.string ⟨(textN true n false).toArray⟩) ∧ Below w.heap.size w w' := by
  have HS : Hid (fixed_sound.f v f = some (v1, false)) := hs
  have HOF : Hid (fixed_of.f v1 = some (true, (n : Int), 0)) := hof
  have hidx := idx58_0
  have hfld := fld60_1
  have HP : Hid (n % 4294967296 = p) := hp
  have hp32 : p < 4294967296 := by omega
  have HD : Hid (∀ W, Calls Try.prog 104 #[.int .u64 ((n : Int) / 4294967296)] W fun e w' => ∃ g, e = .returned (.slice (some ⟨g, 0, none⟩) (decs (n / 4294967296)).length (decs (n / 4294967296)).length) ∧ W.heap.size ≤ g ∧ w'.heap[g]? = some (.cells (Lib.byteCells ((decs (n / 4294967296)).map dig)).toArray 5 (0, 0)) ∧ Below W.heap.size W w') := fun W => by
    have h := decimal_calls (n / 4294967296) (by omega) W
    rw [show ((n / 4294967296 : Nat) : Int) = (n : Int) / 4294967296 by omega, ch_bytes _ (decs_nine _)] at h
    exact h
  have hmask : bits .and .u64 (n : Int) 4294967295 = (p : Int) := by rw [and_mask n hn, hp]
  clear hs hof hp
  have hpB : ((p : Int) != 0) = true := by simp; omega
  generalize hT : textN true n false = T
  have HT : Hid (textN true n false = T) := hT
  clear hT
  go_enter Try.func67, Try.ntmps67
  go_wp2_with fail
  refine (fixed_sound.calls v f v1 false _ HS.out).mono ?_
  rintro e w1 ⟨rfl, hb⟩
  have hbox : w1.heap[w.heap.size]? = some (.cells #[.int .i64 v, .bool f] 23 (0, 0)) := blk_below (blk_new w _) hb
  have hB : Hid (Below w.heap.size w w1) := below_step (below_alloc (Below.refl _ _) _) hb
  have q0 : w1.cell? ⟨w.heap.size, 0, none⟩ = some (.int .i64 v) := (blk_cell hbox 0).trans rfl
  have q1 : w1.cell? ⟨w.heap.size, 1, none⟩ = some (.bool f) := (blk_cell hbox 1).trans rfl
  have z0 := blk_frozen hbox 0
  have z1 := blk_frozen hbox 1
  have hlt : w.heap.size < w1.heap.size := blk_lt hbox
  have hst : Hid (StT w w.heap.size w1.heap.size v1 false [] _) := stT_new w w1 v v1 f false hbox hB.out
  have hne1 : w.heap.size ≠ w1.heap.size := Nat.ne_of_lt hlt
  have hne2 : w1.heap.size ≠ w.heap.size := Nat.ne_of_gt hlt
  clear hbox hb hB
  go_wp2_with fail
  clear q0 q1 z0 z1
  refine (writeB _ _ 45 _ rfl _ hst.out.isB (by simp)).mono ?_
  rintro e w2 ⟨rfl, hB, hb⟩
  replace hst := Lib_hid (hst.out.write hB hb)
  clear hB  hb
  have q0 := hst.out.q0
  have q1 := hst.out.q1
  go_wp2_with fail
  clear q0 q1
  refine (fixed_of.calls v1 true n 0 _ HOF.out).mono ?_
  rintro e w3 ⟨rfl, hb⟩
  replace hst := Lib_hid (hst.out.below hb)
  clear hb
  have q0 := hst.out.q0
  have q1 := hst.out.q1
  go_wp2_with fail
  clear q0 q1
  refine (HD.out _).mono ?_
  rintro e w4 ⟨g, rfl, hg, hgb, hb⟩
  have hgn : g ≠ w1.heap.size := by have := hst.out.isB.lt; omega
  have HGB := Lib_hid hgb
  replace hst := Lib_hid (hst.out.below hb)
  clear hb hgb hg
  have q0 := hst.out.q0
  have q1 := hst.out.q1
  go_wp2_with fail
  clear q0 q1
  have hlen := decs_len (n / 4294967296)
  refine (writeL _ _ _ g _ _ hst.out.isB (by simp) (by rw [List.length_map]) (by omega) HGB.out hgn).mono ?_
  clear HGB
  rintro e w5 ⟨rfl, hB, hb⟩
  replace hst := Lib_hid (hst.out.write hB hb)
  clear hB  hb
  have q0 := hst.out.q0
  have q1 := hst.out.q1
  go_wp2_with fail
  clear q0 q1
  refine (writeB _ _ 46 _ rfl _ hst.out.isB (by simp; omega)).mono ?_
  rintro e w6 ⟨rfl, hB, hb⟩
  replace hst := Lib_hid (hst.out.write hB hb)
  clear hB hb
  have q0 := hst.out.q0
  have q1 := hst.out.q1
  go_wp2_with fail
  clear q0 q1
  obtain ⟨L, hL⟩ : ∃ L : List UInt8, L = ([] ++ [45]) ++ (decs (n / 4294967296)).map dig ++ [46] := ⟨_, rfl⟩
  have HL := Lib_hid hL
  have hst2 : Hid (StT w w.heap.size w1.heap.size v1 false (L ++ ([] : List Nat).map dig) w6) := by rw [hL]; simpa [Hid] using hst.out
  have hLl : L.length ≤ 30 := by rw [hL]; simp; omega
  clear hst hL
  go_loopw [5] (fun r wr => ∃ (q : Nat) (acc : List Nat), r = .int .u64 q ∧ q < 4294967296 ∧ Hid (acc ++ fd 32 q = fd 32 p) ∧ Hid (StT w w.heap.size w1.heap.size v1 false (L ++ acc.map dig) wr)) (fun r _ => (fd 32 (intOf r).toNat).length)
  case atStart => exact ⟨p, [], rfl, hp32, (rfl : [] ++ fd 32 p = fd 32 p), hst2⟩
  case round =>
    clear hst2
    obtain ⟨q, acc, rfl, hq, hacc, hst⟩ := hrel
    have hal : Hid (acc.length ≤ 32) := by have h1 := fd_len 32 p; rw [← hacc.out, List.length_append] at h1; show _ ≤ _; omega
    by_cases hq0 : q = 0
    · subst hq0
      have hacc2 : Hid (acc = fd 32 p) := by have := hacc.out; simpa [fd, Hid] using this
      clear hacc
      have q0 := hst.out.q0
      have q1 := hst.out.q1
      go_wp2_with fail
      clear q0 q1
      refine (strB _ _ _ hst.out.isB).mono ?_
      rintro e w7 ⟨rfl, hb⟩
      have hfin := Lib_hid (hst.out.last hb)
      clear hb hst
      go_wp2
      go_ret
      exact ⟨retT (by rw [← HT.out, hacc2.out, HL.out]; simp [textN, HP.out, hp0]), hfin.out⟩
    · have hqB : ((q : Int) != 0) = true := by simp; omega
      have hst' := fd_step q hq0 hq
      have hacc2 : Hid ((acc ++ [q * 10 / 4294967296]) ++ fd 32 (q * 10 % 4294967296) = fd 32 p) := by show _ = _; rw [← hacc.out, hst']; simp
      have hmeas : Hid ((fd 32 q).length = (fd 32 (q * 10 % 4294967296)).length + 1) := by show _ = _; rw [hst']; simp
      have hdig : Hid (48 + (q : Int) * 10 / 4294967296 = ((dig (q * 10 / 4294967296)).toNat : Int)) := by show _ = _; rw [dig_toNat _ (by omega)]; omega
      have hmask2 : bits .and .u64 ((q : Int) * 10) 4294967295 = ((q * 10 % 4294967296 : Nat) : Int) := by
        rw [show (q : Int) * 10 = ((q * 10 : Nat) : Int) by omega]; exact and_mask (q * 10) (by omega)
      have HMK := Lib_hid hmask2
      clear hst' hacc hmask hmask2
      have q0 := hst.out.q0
      have q1 := hst.out.q1
      go_wp2_with fail
      clear q0 q1
      refine (writeB _ _ (dig (q * 10 / 4294967296)) _ hdig.out _ hst.out.isB (by have h1 := hal.out; simp; omega)).mono ?_
      rintro e wz ⟨rfl, hB, hb⟩
      replace hst := Lib_hid (hst.out.write hB hb)
      clear hB hb
      have hmask2 := HMK.out
      clear HMK
      have q0 := hst.out.q0
      have q1 := hst.out.q1
      go_wp2
      go_roundw
      case rel => exact ⟨q * 10 % 4294967296, acc ++ [q * 10 / 4294967296], rfl, Nat.mod_lt _ (by decide), hacc2, (by have := hst.out; rw [List.append_assoc] at this; simpa [Hid] using this)⟩
      case measure =>
        have hmm := meas_dec q hmeas.out
        simp only [intOf]
        exact hmm
set_option maxHeartbeats 800000 in
set_option maxRecDepth 100000 in
theorem text_111 (v : Int) (f : Bool) (v1 : Int) (n p : Nat) (w : World) (hs : fixed_sound.f v f = some (v1, true)) (hof : fixed_of.f v1 = some (true, (n : Int), 0)) (hneg : v1 < 0) (hn : n < 18446744073709551616) (hp : n % 4294967296 = p) (hp0 : ¬ p = 0) :
    Calls Try.prog 67 #[.agg #[.int .i64 v, .bool f]] w fun e w' => e = .returned (.string ⟨(textN true n true).toArray⟩) ∧ Below w.heap.size w w' := by
  have HS : Hid (fixed_sound.f v f = some (v1, true)) := hs
  have HOF : Hid (fixed_of.f v1 = some (true, (n : Int), 0)) := hof
  have hidx := idx58_0
  have hfld := fld60_1
  have HP : Hid (n % 4294967296 = p) := hp
  have hp32 : p < 4294967296 := by omega
  have HD : Hid (∀ W, Calls Try.prog 104 #[.int .u64 ((n : Int) / 4294967296)] W fun e w' => ∃ g, e = .returned (.slice (some ⟨g, 0, none⟩) (decs (n / 4294967296)).length (decs (n / 4294967296)).length) ∧ W.heap.size ≤ g ∧ w'.heap[g]? = some (.cells (Lib.byteCells ((decs (n / 4294967296)).map dig)).toArray 5 (0, 0)) ∧ Below W.heap.size W w') := fun W => by
    have h := decimal_calls (n / 4294967296) (by omega) W
    rw [show ((n / 4294967296 : Nat) : Int) = (n : Int) / 4294967296 by omega, ch_bytes _ (decs_nine _)] at h
    exact h
  have hmask : bits .and .u64 (n : Int) 4294967295 = (p : Int) := by rw [and_mask n hn, hp]
  clear hs hof hp
  have hpB : ((p : Int) != 0) = true := by simp; omega
  generalize hT : textN true n true = T
  have HT : Hid (textN true n true = T) := hT
  clear hT
  go_enter Try.func67, Try.ntmps67
  go_wp2_with fail
  refine (fixed_sound.calls v f v1 true _ HS.out).mono ?_
  rintro e w1 ⟨rfl, hb⟩
  have hbox : w1.heap[w.heap.size]? = some (.cells #[.int .i64 v, .bool f] 23 (0, 0)) := blk_below (blk_new w _) hb
  have hB : Hid (Below w.heap.size w w1) := below_step (below_alloc (Below.refl _ _) _) hb
  have q0 : w1.cell? ⟨w.heap.size, 0, none⟩ = some (.int .i64 v) := (blk_cell hbox 0).trans rfl
  have q1 : w1.cell? ⟨w.heap.size, 1, none⟩ = some (.bool f) := (blk_cell hbox 1).trans rfl
  have z0 := blk_frozen hbox 0
  have z1 := blk_frozen hbox 1
  have hlt : w.heap.size < w1.heap.size := blk_lt hbox
  have hst : Hid (StT w w.heap.size w1.heap.size v1 true [] _) := stT_new w w1 v v1 f true hbox hB.out
  have hne1 : w.heap.size ≠ w1.heap.size := Nat.ne_of_lt hlt
  have hne2 : w1.heap.size ≠ w.heap.size := Nat.ne_of_gt hlt
  clear hbox hb hB
  go_wp2_with fail
  clear q0 q1 z0 z1
  refine (writeB _ _ 45 _ rfl _ hst.out.isB (by simp)).mono ?_
  rintro e w2 ⟨rfl, hB, hb⟩
  replace hst := Lib_hid (hst.out.write hB hb)
  clear hB  hb
  have q0 := hst.out.q0
  have q1 := hst.out.q1
  go_wp2_with fail
  clear q0 q1
  refine (fixed_of.calls v1 true n 0 _ HOF.out).mono ?_
  rintro e w3 ⟨rfl, hb⟩
  replace hst := Lib_hid (hst.out.below hb)
  clear hb
  have q0 := hst.out.q0
  have q1 := hst.out.q1
  go_wp2_with fail
  clear q0 q1
  refine (HD.out _).mono ?_
  rintro e w4 ⟨g, rfl, hg, hgb, hb⟩
  have hgn : g ≠ w1.heap.size := by have := hst.out.isB.lt; omega
  have HGB := Lib_hid hgb
  replace hst := Lib_hid (hst.out.below hb)
  clear hb hgb hg
  have q0 := hst.out.q0
  have q1 := hst.out.q1
  go_wp2_with fail
  clear q0 q1
  have hlen := decs_len (n / 4294967296)
  refine (writeL _ _ _ g _ _ hst.out.isB (by simp) (by rw [List.length_map]) (by omega) HGB.out hgn).mono ?_
  clear HGB
  rintro e w5 ⟨rfl, hB, hb⟩
  replace hst := Lib_hid (hst.out.write hB hb)
  clear hB  hb
  have q0 := hst.out.q0
  have q1 := hst.out.q1
  go_wp2_with fail
  clear q0 q1
  refine (writeB _ _ 46 _ rfl _ hst.out.isB (by simp; omega)).mono ?_
  rintro e w6 ⟨rfl, hB, hb⟩
  replace hst := Lib_hid (hst.out.write hB hb)
  clear hB hb
  have q0 := hst.out.q0
  have q1 := hst.out.q1
  go_wp2_with fail
  clear q0 q1
  obtain ⟨L, hL⟩ : ∃ L : List UInt8, L = ([] ++ [45]) ++ (decs (n / 4294967296)).map dig ++ [46] := ⟨_, rfl⟩
  have HL := Lib_hid hL
  have hst2 : Hid (StT w w.heap.size w1.heap.size v1 true (L ++ ([] : List Nat).map dig) w6) := by rw [hL]; simpa [Hid] using hst.out
  have hLl : L.length ≤ 30 := by rw [hL]; simp; omega
  clear hst hL
  go_loopw [5] (fun r wr => ∃ (q : Nat) (acc : List Nat), r = .int .u64 q ∧ q < 4294967296 ∧ Hid (acc ++ fd 32 q = fd 32 p) ∧ Hid (StT w w.heap.size w1.heap.size v1 true (L ++ acc.map dig) wr)) (fun r _ => (fd 32 (intOf r).toNat).length)
  case atStart => exact ⟨p, [], rfl, hp32, (rfl : [] ++ fd 32 p = fd 32 p), hst2⟩
  case round =>
    clear hst2
    obtain ⟨q, acc, rfl, hq, hacc, hst⟩ := hrel
    have hal : Hid (acc.length ≤ 32) := by have h1 := fd_len 32 p; rw [← hacc.out, List.length_append] at h1; show _ ≤ _; omega
    by_cases hq0 : q = 0
    · subst hq0
      have hacc2 : Hid (acc = fd 32 p) := by have := hacc.out; simpa [fd, Hid] using this
      clear hacc
      have q0 := hst.out.q0
      have q1 := hst.out.q1
      go_wp2_with fail
      clear q0 q1
      refine (writeB _ _ 33 _ rfl _ hst.out.isB (by have h1 := hal.out; simp; omega)).mono ?_
      rintro e w7 ⟨rfl, hB, hb⟩
      replace hst := Lib_hid (hst.out.write hB hb)
      clear hB hb
      have q0 := hst.out.q0
      have q1 := hst.out.q1
      go_wp2_with fail
      clear q0 q1
      refine (strB _ _ _ hst.out.isB).mono ?_
      rintro e w8 ⟨rfl, hb⟩
      have hfin := Lib_hid (hst.out.last hb)
      clear hb hst
      go_wp2
      go_ret
      exact ⟨retT (by rw [← HT.out, hacc2.out, HL.out]; simp [textN, HP.out, hp0]), hfin.out⟩
    · have hqB : ((q : Int) != 0) = true := by simp; omega
      have hst' := fd_step q hq0 hq
      have hacc2 : Hid ((acc ++ [q * 10 / 4294967296]) ++ fd 32 (q * 10 % 4294967296) = fd 32 p) := by show _ = _; rw [← hacc.out, hst']; simp
      have hmeas : Hid ((fd 32 q).length = (fd 32 (q * 10 % 4294967296)).length + 1) := by show _ = _; rw [hst']; simp
      have hdig : Hid (48 + (q : Int) * 10 / 4294967296 = ((dig (q * 10 / 4294967296)).toNat : Int)) := by show _ = _; rw [dig_toNat _ (by omega)]; omega
      have hmask2 : bits .and .u64 ((q : Int) * 10) 4294967295 = ((q * 10 % 4294967296 : Nat) : Int) := by
        rw [show (q : Int) * 10 = ((q * 10 : Nat) : Int) by omega]; exact and_mask (q * 10) (by omega)
      have HMK := Lib_hid hmask2
      clear hst' hacc hmask hmask2
      have q0 := hst.out.q0
      have q1 := hst.out.q1
      go_wp2_with fail
      clear q0 q1
      refine (writeB _ _ (dig (q * 10 / 4294967296)) _ hdig.out _ hst.out.isB (by have h1 := hal.out; simp; omega)).mono ?_
      rintro e wz ⟨rfl, hB, hb⟩
      replace hst := Lib_hid (hst.out.write hB hb)
      clear hB hb
      have hmask2 := HMK.out
      clear HMK
      have q0 := hst.out.q0
      have q1 := hst.out.q1
      go_wp2
      go_roundw
      case rel => exact ⟨q * 10 % 4294967296, acc ++ [q * 10 / 4294967296], rfl, Nat.mod_lt _ (by decide), hacc2, (by have := hst.out; rw [List.append_assoc] at this; simpa [Hid] using this)⟩
      case measure =>
        have hmm := meas_dec q hmeas.out
        simp only [intOf]
        exact hmm
def textB (v : Int) (f : Bool) : List UInt8 := textN (decide (sv v < 0)) (sv v).natAbs (sf v f)
def fixed_Text.f (a0_0 : Int) (a0_1 : Bool) : Option ByteArray := if -9223372036854775808 ≤ a0_0 then (if a0_0 ≤ 9223372036854775807 then some ⟨(textB a0_0 a0_1).toArray⟩ else none) else none
theorem of_neg (v : Int) (h1 : v < 0) (h2 : -9223372036854775807 ≤ v) : fixed_of.f v = some (true, (v.natAbs : Int), 0) := by
  unfold fixed_of.f
  rw [if_pos h1]
  congr 2
  simp only [Prod.mk.injEq, and_true]
  rw [IntKind.wrap_u64, IntKind.wrap_u64]
  omega
theorem of_pos (v : Int) (h1 : ¬ v < 0) (h2 : v ≤ 9223372036854775807) : fixed_of.f v = some (false, (v.natAbs : Int), 0) := by
  unfold fixed_of.f
  rw [if_neg h1]
  congr 2
  simp only [Prod.mk.injEq, and_true]
  rw [IntKind.wrap_u64]
  omega
theorem fixed_Text.calls (a0_0 : Int) (a0_1 : Bool) (r : ByteArray) (w : World) (h : fixed_Text.f a0_0 a0_1 = some r) :
    Calls Try.prog 67 #[.agg #[.int .i64 a0_0, .bool a0_1]] w fun e w' => e = .returned (.string r) ∧ Below w.heap.size w w' := by
  unfold fixed_Text.f at h
  by_cases h1 : -9223372036854775808 ≤ a0_0
  · rw [if_pos h1] at h
    by_cases h2 : a0_0 ≤ 9223372036854775807
    · rw [if_pos h2] at h
      obtain rfl := Option.some.inj h
      have hs := sound_f a0_0 a0_1
      have hv1 : -9223372036854775807 ≤ sv a0_0 := by unfold sv; split <;> omega
      have hv2 : sv a0_0 ≤ 9223372036854775807 := by unfold sv; split <;> omega
      unfold textB
      generalize sv a0_0 = v1 at *
      generalize sf a0_0 a0_1 = f1 at *
      have hn : v1.natAbs < 18446744073709551616 := by omega
      by_cases hneg : v1 < 0
      · rw [decide_eq_true hneg]
        by_cases hp : v1.natAbs % 4294967296 = 0
        · cases f1
          · exact text_100 a0_0 a0_1 v1 _ 0 w hs (of_neg v1 hneg hv1) hneg hn hp rfl
          · exact text_101 a0_0 a0_1 v1 _ 0 w hs (of_neg v1 hneg hv1) hneg hn hp rfl
        · cases f1
          · exact text_110 a0_0 a0_1 v1 _ _ w hs (of_neg v1 hneg hv1) hneg hn rfl hp
          · exact text_111 a0_0 a0_1 v1 _ _ w hs (of_neg v1 hneg hv1) hneg hn rfl hp
      · rw [decide_eq_false hneg]
        by_cases hp : v1.natAbs % 4294967296 = 0
        · cases f1
          · exact text_000 a0_0 a0_1 v1 _ 0 w hs (of_pos v1 hneg hv2) hneg hn hp rfl
          · exact text_001 a0_0 a0_1 v1 _ 0 w hs (of_pos v1 hneg hv2) hneg hn hp rfl
        · cases f1
          · exact text_010 a0_0 a0_1 v1 _ _ w hs (of_pos v1 hneg hv2) hneg hn rfl hp
          · exact text_011 a0_0 a0_1 v1 _ _ w hs (of_pos v1 hneg hv2) hneg hn rfl hp
    · rw [if_neg h2] at h
      cases h
  · rw [if_neg h1] at h
    cases h
end Go.Proofs.Ytenpiaafkmfjfaa.B

end
section
namespace Go.Proofs.Ytenpiaafkmfjfaa.B
open Go.RowKit Go.Proofs.YtenpiaafkmfjfaaW.PrintWords Go.Proofs.YtenpiaafkmfjfaaW.PrintLast Go.Proofs.YtenpiaafkmfjfaaW.PrintMore
attribute [local go_sem] max2_int min2_int max_two min_two max_three min_three max_four min_four
set_option linter.unusedVariables false
set_option linter.unusedSimpArgs false
attribute [local go_sem high] eqA23
def bagatellelaw01_awake.f (k : Nat)  : Option (Bool) := (fixed_Int.f k 3).bind fun bt201 => (if (bt201.1 == 12884901888 && (!bt201.2)) = true then ((fixed_Ratio.f k (-1) 2).bind fun bt203 => ((fixed_Text.f bt203.1 bt203.2).bind fun t205 => (if t205.toList = ([45, 48, 46, 53] : List UInt8) then ((fixed_Order.f k (-2) 3 1 1).bind fun t206 => (some (t206 == (-1)))) else (none)))) else (none))
set_option maxHeartbeats 8000000 in
set_option maxRecDepth 100000 in
theorem bagatellelaw01_awake.calls (k : Nat)  (r : Bool) (w : World) (h : bagatellelaw01_awake.f k  = some r) :
    Calls Try.prog 23 #[] w fun e w' => e = .returned (.bool r) ∧ Below w.heap.size w w' := by
  have hu23 := Try.underlying23
  have HB := Aside0.mk (Below.refl w.heap.size w)
  have H : ((fixed_Int.f k 3).bind fun bt201 => (if (bt201.1 == 12884901888 && (!bt201.2)) = true then ((fixed_Ratio.f k (-1) 2).bind fun bt203 => ((fixed_Text.f bt203.1 bt203.2).bind fun t205 => (if t205.toList = ([45, 48, 46, 53] : List UInt8) then ((fixed_Order.f k (-2) 3 1 1).bind fun t206 => (some (t206 == (-1)))) else (none)))) else (none))) = some r := h
  clear h
  replace H := Option.bind_eq_some_iff.mp H
  obtain ⟨⟨t201, t202⟩, A10, H⟩ := H
  replace H : (if (t201 == 12884901888 && (!t202)) = true then ((fixed_Ratio.f k (-1) 2).bind fun bt203 => ((fixed_Text.f bt203.1 bt203.2).bind fun t205 => (if t205.toList = ([45, 48, 46, 53] : List UInt8) then ((fixed_Order.f k (-2) 3 1 1).bind fun t206 => (some (t206 == (-1)))) else (none)))) else (none)) = some r := H
  have A1 := Aside0.mk A10
  clear A10
  by_cases c2 : (t201 == 12884901888 && (!t202)) = true
  · rw [if_pos c2] at H
    have c2b0 : (t201 == 12884901888 && (!t202)) = true := c2
    (try (have c2b1 : decide (t201 = 12884901888 && (!t202)) = true := by simpa using c2))
    (try (have c2b2 : (t201 == 12884901888 && (!t202)) = true := by simpa using c2))
    clear c2
    replace H := Option.bind_eq_some_iff.mp H
    obtain ⟨⟨t203, t204⟩, A30, H⟩ := H
    replace H : ((fixed_Text.f t203 t204).bind fun t205 => (if t205.toList = ([45, 48, 46, 53] : List UInt8) then ((fixed_Order.f k (-2) 3 1 1).bind fun t206 => (some (t206 == (-1)))) else (none))) = some r := H
    have A3 := Aside0.mk A30
    clear A30
    replace H := Option.bind_eq_some_iff.mp H
    obtain ⟨t205, A40, H⟩ := H
    replace H : (if t205.toList = ([45, 48, 46, 53] : List UInt8) then ((fixed_Order.f k (-2) 3 1 1).bind fun t206 => (some (t206 == (-1)))) else (none)) = some r := H
    have A4 := Aside0.mk A40
    clear A40
    by_cases c5 : t205.toList = ([45, 48, 46, 53] : List UInt8)
    · rw [if_pos c5] at H
      have c5b0 : (t205.toList == ([45, 48, 46, 53] : List UInt8)) = true := beq_iff_eq.mpr c5
      have c5b1 : (t205.toList != ([45, 48, 46, 53] : List UInt8)) = false := bne_eq_false_iff_eq.mpr c5
      clear c5
      replace H := Option.bind_eq_some_iff.mp H
      obtain ⟨t206, A60, H⟩ := H
      replace H : (some (t206 == (-1))) = some r := H
      have A6 := Aside0.mk A60
      clear A60
      obtain rfl := Option.some.inj H
      go_enter Try.func23, Try.ntmps23
      go_wp2_with (first | ((with_reducible refine gate_callee (f := 49) rfl ?_); refine goesL_ (some 1) rfl rfl Try.func49 (by kernel_rfl) rfl #[.int .i64 3] rfl (by (try simp only [List.map_toArray, List.map_cons, List.map_nil]); first | done | rfl | (simp only [List.length_drop, List.length_take]; rfl)) ?_; (with_reducible refine (fixed_Int.calls k 3 t201 t202 _ A1.out).mono ?_); rintro e w7 ⟨rfl, hb⟩; refine ⟨_, rfl, ?_⟩; have n0_ := Aside0.mk (below_step (by repeat (first | (with_reducible first | exact HB.out | apply below_alloc | apply pw_below_drewN | apply below_drew1) | exact HB.out)) hb); clear HB; have HB := n0_; clear n0_; (try clear hb); (try clear hb2); (try clear hk); (try clear hi)) | (go_at_call 50; (with_reducible refine (fixed_Ratio.calls k (-1) 2 t203 t204 _ A3.out).mono ?_); rintro e w8 ⟨rfl, hb⟩; have n0_ := Aside0.mk (below_step (by repeat (first | (with_reducible first | exact HB.out | apply below_alloc | apply pw_below_drewN | apply below_drew1) | exact HB.out)) hb); clear HB; have HB := n0_; clear n0_; (try clear hb); (try clear hb2); (try clear hk); (try clear hi)) | (go_at_call 67; (with_reducible refine (fixed_Text.calls t203 t204 t205 _ A4.out).mono ?_); rintro e w9 ⟨rfl, hb⟩; have n0_ := Aside0.mk (below_step (by repeat (first | (with_reducible first | exact HB.out | apply below_alloc | apply pw_below_drewN | apply below_drew1) | exact HB.out)) hb); clear HB; have HB := n0_; clear n0_; (try clear hb); (try clear hb2); (try clear hk); (try clear hi)) | (go_at_call 21; (with_reducible refine (fixed_Order.calls k (-2) 3 1 1 t206 _ A6.out).mono ?_); rintro e w10 ⟨rfl, hb⟩; have n0_ := Aside0.mk (below_step (by repeat (first | (with_reducible first | exact HB.out | apply below_alloc | apply pw_below_drewN | apply below_drew1) | exact HB.out)) hb); clear HB; have HB := n0_; clear n0_; (try clear hb); (try clear hb2); (try clear hk); (try clear hi)))
      go_ret
      exact ⟨by first | rfl | (simp [errW_none, errW_some] <;> rfl) | (simp [*, errW_none, errW_some] <;> rfl), by repeat (first | (with_reducible first | exact HB.out | apply below_alloc | apply pw_below_drewN | apply below_drew1) | exact HB.out)⟩
    · rw [if_neg c5] at H
      exact absurd H (by simp)
  · rw [if_neg c2] at H
    exact absurd H (by simp)
end Go.Proofs.Ytenpiaafkmfjfaa.B

end
section
namespace Go.Proofs.Ytenpiaafkmfjfaa.B
open Go.RowKit Go.Proofs.YtenpiaafkmfjfaaW.PrintWords Go.Proofs.YtenpiaafkmfjfaaW.PrintLast Go.Proofs.YtenpiaafkmfjfaaW.PrintMore
theorem sv_snd {v : Int} (h1 : -9223372036854775808 ≤ v) (h2 : v ≤ 9223372036854775807) : Snd (sv v) := by
  unfold sv Snd; split <;> omega
theorem fit_ex {n : Bool} {lo hi x : Int} (h : Ex n lo hi x) (f : Bool) (k : Nat) (hk : 1 ≤ k) : fixed_exact_fit.f k n lo hi f = some (fitV x, fitF x f) := by
  obtain ⟨k, rfl⟩ : ∃ m, k = m + 1 := ⟨k - 1, by omega⟩
  obtain ⟨h1, h2, h3, h4, hp, hm⟩ := h
  unfold fixed_exact_fit.f
  by_cases h0 : hi = 0
  · subst h0
    rw [if_pos rfl]
    simp only [fixed_exact_fit.j0]
    by_cases hl : lo ≤ 9223372036854775807
    · have ew : wrap64 lo = lo := wrap64_id (by omega) (by omega)
      rw [if_pos (decide_eq_true hl), ew]
      have hs : Snd x := by
        unfold Snd
        cases n
        · have := hp rfl; omega
        · have := hm rfl; omega
      rw [fitV_id hs, fitF_id hs]
      cases n
      · have := hp rfl
        simp only [Bool.false_eq_true, if_false]
        rw [show lo = x by omega]
      · have := hm rfl
        simp only [if_true]
        rw [wrap64_id (by omega) (by omega), show -lo = x by omega]
    · rw [if_neg (by simpa using hl)]
      cases n
      · have := hp rfl
        simp only [Bool.false_eq_true, if_false]
        unfold fitV fitF
        rw [if_pos (by omega), if_pos (by omega)]
      · have := hm rfl
        simp only [if_true]
        unfold fitV fitF
        rw [if_neg (by omega), if_pos (by omega), if_neg (by omega), if_pos (by omega), wrap64_id (by omega) (by omega)]
  · rw [if_neg h0]
    simp only [fixed_exact_fit.j0]
    rw [if_neg (by decide)]
    cases n
    · have := hp rfl
      simp only [Bool.false_eq_true, if_false]
      unfold fitV fitF
      rw [if_pos (by omega), if_pos (by omega)]
    · have := hm rfl
      simp only [if_true]
      unfold fitV fitF
      rw [if_neg (by omega), if_pos (by omega), if_neg (by omega), if_pos (by omega), wrap64_id (by omega) (by omega)]
theorem mul64_f (x y : Nat) (hx : x < 18446744073709551616) (hy : y < 18446744073709551616) : bits_Mul64.f x y = some (((x * y / 18446744073709551616 : Nat) : Int), ((x * y % 18446744073709551616 : Nat) : Int)) := by
  obtain ⟨bd, bt, bw, hhi⟩ := Lib.mul64_hi x y hx hy
  have ba := Lib.half_mul_le (a := x / 4294967296) (b := y / 4294967296) (by omega) (by omega)
  have bb := Lib.half_mul_le (a := x / 4294967296) (b := y % 4294967296) (by omega) (by omega)
  have bc := Lib.half_mul_le (a := x % 4294967296) (b := y / 4294967296) (by omega) (by omega)
  have ba' : x / 4294967296 * (y / 4294967296) < 18446744073709551616 := by omega
  have bb' : x / 4294967296 * (y % 4294967296) < 18446744073709551616 := by omega
  have bc' : x % 4294967296 * (y / 4294967296) < 18446744073709551616 := by omega
  have bh1 : x / 4294967296 * (y / 4294967296) + (x / 4294967296 * (y % 4294967296) + x % 4294967296 * (y % 4294967296) / 4294967296) / 4294967296 < 18446744073709551616 := by omega
  have bh : x / 4294967296 * (y / 4294967296) + (x / 4294967296 * (y % 4294967296) + x % 4294967296 * (y % 4294967296) / 4294967296) / 4294967296 + ((x / 4294967296 * (y % 4294967296) + x % 4294967296 * (y % 4294967296) / 4294967296) % 4294967296 + x % 4294967296 * (y / 4294967296)) / 4294967296 < 18446744073709551616 := by omega
  unfold bits_Mul64.f
  simp only [Mul64.maskN x hx, Mul64.maskN y hy, Mul64.divN, Mul64.mulN, Mul64.addN, Mul64.wrapN _ bd, Mul64.wrapN _ bb', Mul64.wrapN _ bt, Mul64.maskN _ bt, Mul64.wrapN _ bc', Mul64.wrapN _ bw, Mul64.wrapN _ ba', Mul64.wrapN _ bh1, Mul64.wrapN _ bh, Mul64.wrapM (x * y)]
  rw [hhi]
end Go.Proofs.Ytenpiaafkmfjfaa.B

end
section
namespace Go.Proofs.Ytenpiaafkmfjfaa.B
open Go.RowKit Go.Proofs.YtenpiaafkmfjfaaW.PrintWords Go.Proofs.YtenpiaafkmfjfaaW.PrintLast Go.Proofs.YtenpiaafkmfjfaaW.PrintMore
attribute [local go_sem] max2_int min2_int max_two min_two max_three min_three max_four min_four
set_option linter.unusedVariables false
set_option linter.unusedSimpArgs false
theorem eqA64 (d : Nat) (w : World) (x0 y0 : Bool) (x1 y1 : Int) (x2 y2 : Int) :
    (Op.equalIn (d + 2) 64 (.agg #[.bool x0, .int .u64 x1, .int .u64 x2]) (.agg #[.bool y0, .int .u64 y1, .int .u64 y2])).run Try.prog w = .ok (x0 == y0 && (x1 == y1 && (x2 == y2))) w := by
  refine eqA_of Try.underlying64 (by kernel_rfl) ?_
  refine eqf_cons (by rfl) (by go_simp; rfl) (by go_simp; rfl) (by go_simp) ?_
  refine eqf_cons (by rfl) (by go_simp; rfl) (by go_simp; rfl) (by go_simp) ?_
  exact eqf_last (by rfl) (by go_simp; rfl) (by go_simp; rfl) (by go_simp)
end Go.Proofs.Ytenpiaafkmfjfaa.B

end
section
namespace Go.Proofs.Ytenpiaafkmfjfaa.B
open Go.RowKit Go.Proofs.YtenpiaafkmfjfaaW.PrintWords Go.Proofs.YtenpiaafkmfjfaaW.PrintLast Go.Proofs.YtenpiaafkmfjfaaW.PrintMore
def I64 (v : Int) : Prop := -9223372036854775808 ≤ v ∧ v ≤ 9223372036854775807
theorem Snd.i64 {v : Int} (h : Snd v) : I64 v := by unfold Snd at h; unfold I64; omega
def sgn3 (x y : Int) : Int := if x < y then -1 else if x = y then 0 else 1
theorem of_f {v : Int} (h : I64 v) : fixed_of.f v = some (decide (v < 0), (v.natAbs : Int), 0) := by
  unfold I64 at h
  unfold fixed_of.f
  by_cases hv : v < 0
  · rw [if_pos hv, decide_eq_true hv]
    have e : IntKind.u64.wrap (-(IntKind.u64.wrap v)) = (v.natAbs : Int) := by rw [IntKind.wrap_u64, IntKind.wrap_u64]; omega
    rw [e]
  · rw [if_neg hv, decide_eq_false hv, u64_id (by omega) (by omega)]
    rw [show (v.natAbs : Int) = v by omega]
theorem abs_mul_le {a b : Int} (ha : I64 a) (hb : I64 b) : a.natAbs * b.natAbs ≤ 85070591730234615865843651857942052864 := by
  unfold I64 at ha hb
  have := Nat.mul_le_mul (show a.natAbs ≤ 9223372036854775808 by omega) (show b.natAbs ≤ 9223372036854775808 by omega)
  omega
theorem mul_sign (a b : Int) : (decide (a < 0) != decide (b < 0)) = true → a * b = -((a.natAbs * b.natAbs : Nat) : Int) := by
  intro h
  rw [Int.natCast_mul]
  by_cases ha : a < 0
  · by_cases hb : b < 0
    · simp [ha, hb] at h
    · rw [show (a.natAbs : Int) = -a by omega, show (b.natAbs : Int) = b by omega, Int.neg_mul, Int.neg_neg]
  · by_cases hb : b < 0
    · rw [show (a.natAbs : Int) = a by omega, show (b.natAbs : Int) = -b by omega, Int.mul_neg, Int.neg_neg]
    · simp [ha, hb] at h
theorem mul_sign' (a b : Int) : (decide (a < 0) != decide (b < 0)) = false → a * b = ((a.natAbs * b.natAbs : Nat) : Int) := by
  intro h
  rw [Int.natCast_mul]
  by_cases ha : a < 0
  · by_cases hb : b < 0
    · rw [show (a.natAbs : Int) = -a by omega, show (b.natAbs : Int) = -b by omega, Int.neg_mul_neg]
    · simp [ha, hb] at h
  · by_cases hb : b < 0
    · simp [ha, hb] at h
    · rw [show (a.natAbs : Int) = a by omega, show (b.natAbs : Int) = b by omega]
theorem ex_nat (n : Bool) (p : Nat) (x : Int) (hp : p ≤ 85070591730234615865843651857942052864) (h1 : n = false → x = (p : Int)) (h2 : n = true → x = -(p : Int)) : Ex n ((p % 18446744073709551616 : Nat) : Int) ((p / 18446744073709551616 : Nat) : Int) x :=
  ⟨by omega, by omega, by omega, by omega, fun e => by have := h1 e; omega, fun e => by have := h2 e; omega⟩
theorem product_ex {a b : Int} (ha : I64 a) (hb : I64 b) : ∃ n lo hi, fixed_product.f a b = some (n, lo, hi) ∧ Ex n lo hi (a * b) := by
  have hp := abs_mul_le ha hb
  unfold fixed_product.f
  rw [of_f ha, of_f hb]
  unfold I64 at ha hb
  simp only [Option.bind_some, mul64_f a.natAbs b.natAbs (by omega) (by omega)]
  exact ⟨_, _, _, rfl, ex_nat _ _ _ hp (mul_sign' a b) (mul_sign a b)⟩
structure Rx (n : Bool) (hi lo x : Int) : Prop where
  ex : Ex n lo hi x
  s : n = decide (x < 0)
theorem add64s_i {x y c : Int} (hx : 0 ≤ x) (hy : 0 ≤ y) (hc : 0 ≤ c) : add64s x y c = (x + y + c) % 18446744073709551616 := by unfold add64s; omega
theorem add64c_i {x y c : Int} (hx : 0 ≤ x) (hy : 0 ≤ y) (hc : 0 ≤ c) : add64c x y c = (x + y + c) / 18446744073709551616 := by unfold add64c; omega
theorem sub64s_i {x y c : Int} (hx : 0 ≤ x) (hy : 0 ≤ y) (hy' : y < 18446744073709551616) (hc : c = 0 ∨ c = 1) : sub64s x y c = (x - y - c) % 18446744073709551616 := by unfold sub64s; omega
theorem sub64c_i {x y c : Int} (hx : 0 ≤ x) (hy : 0 ≤ y) (hc : c = 0 ∨ c = 1) : sub64c x y c = if x < y + c then 1 else 0 := by
  unfold sub64c
  by_cases h : x < y + c
  · rw [if_pos h, if_pos (by omega)]; rfl
  · rw [if_neg h, if_neg (by omega)]; rfl
theorem compare_u (a b : Int) : cmp_Compare_uint64.f a b = some (sgn3 a b) := by
  unfold cmp_Compare_uint64.f cmp_isNaN_uint64.f sgn3
  simp only [bne_self_eq_false, Option.bind_some, Bool.false_eq_true, if_false]
  by_cases h : a < b
  · rw [if_pos h, if_pos h]
  · rw [if_neg h, if_neg h]
    by_cases h2 : a = b
    · rw [if_pos h2, if_neg (by omega)]
    · rw [if_neg h2, if_pos (by omega)]
theorem or_two (k : Nat) (hk : 3 ≤ k) (a b : Int) : cmp_Or_int.f k [a, b] = some (if a = 0 then b else a) := by
  obtain ⟨k, rfl⟩ : ∃ m, k = m + 3 := ⟨k - 3, by omega⟩
  unfold cmp_Or_int.f
  rw [cmp_Or_int.l0]
  simp only [show (([a, b] : List Int).length : Int) = 2 by rfl, show rd [a, b] 0 = a by rfl, show ((0 : Int) < 2) by decide, show ((0 : Int) ≤ 0) by decide, if_true]
  by_cases ha : a = 0
  · subst ha
    rw [if_pos rfl, if_pos rfl, show wrap64 (0 + 1) = 1 from wrap64_id (by decide) (by decide), cmp_Or_int.l0]
    simp only [show (([0, b] : List Int).length : Int) = 2 by rfl, show rd [0, b] 1 = b by rfl, show ((1 : Int) < 2) by decide, show ((0 : Int) ≤ 1) by decide, if_true]
    by_cases hb : b = 0
    · subst hb
      rw [if_pos rfl, show wrap64 (1 + 1) = 2 from wrap64_id (by decide) (by decide), cmp_Or_int.l0]
      simp
    · rw [if_neg hb]
  · rw [if_neg ha, if_neg ha]
theorem words_cmp (k : Nat) (hk : 3 ≤ k) {lo1 hi1 lo2 hi2 : Int} (h1 : 0 ≤ lo1) (h2 : lo1 < 18446744073709551616) (h3 : 0 ≤ lo2) (h4 : lo2 < 18446744073709551616) :
    fixed_words_compare.f k lo1 hi1 lo2 hi2 = some (sgn3 (hi1 * 18446744073709551616 + lo1) (hi2 * 18446744073709551616 + lo2)) := by
  unfold fixed_words_compare.f
  simp only [compare_u, Option.bind_some, or_two k hk]
  unfold sgn3
  by_cases a : hi1 < hi2
  · simp only [if_pos a]
    rw [if_neg (by decide), if_pos (by omega)]
  · by_cases b : hi1 = hi2
    · subst b
      simp only [if_neg a, if_true]
      by_cases c : lo1 < lo2
      · rw [if_pos c, if_pos (by omega)]
      · by_cases d : lo1 = lo2
        · rw [if_neg c, if_pos d, if_neg (by omega), if_pos (by omega)]
        · rw [if_neg c, if_neg d, if_neg (by omega), if_neg (by omega)]
    · simp only [if_neg a, if_neg b]
      rw [if_neg (by decide), if_neg (by omega), if_neg (by omega)]
theorem plus_ex (k : Nat) (hk : 3 ≤ k) {n1 n2 : Bool} {lo1 hi1 lo2 hi2 x y : Int} (h : Ex n1 lo1 hi1 x) (g : Ex n2 lo2 hi2 y) (hb : (x + y).natAbs < 170141183460469231731687303715884105728) :
    ∃ n lo hi, fixed_exact_plus.f k n1 lo1 hi1 n2 lo2 hi2 = some (n, lo, hi) ∧ Ex n lo hi (x + y) := by
  have ah := h.abs
  have ag := g.abs
  obtain ⟨a1, a2, a3, a4, ap, am⟩ := h
  obtain ⟨b1, b2, b3, b4, bp, bm⟩ := g
  unfold fixed_exact_plus.f
  by_cases hn : n1 = n2
  · subst hn
    rw [if_pos (by simp)]
    have hs : hi1 * 18446744073709551616 + lo1 + (hi2 * 18446744073709551616 + lo2) < 170141183460469231731687303715884105728 := by
      cases n1
      · have := ap rfl; have := bp rfl; omega
      · have := am rfl; have := bm rfl; omega
    rw [add64c_i a1 b1 (by omega), add64s_i a1 b1 (by omega), add64s_i a3 b3 (by omega), if_pos (by omega)]
    refine ⟨_, _, _, rfl, by omega, by omega, by omega, by omega, fun e => ?_, fun e => ?_⟩
    · have := ap e; have := bp e; omega
    · have := am e; have := bm e; omega
  · rw [if_neg (by simpa using hn), words_cmp k hk a1 a2 b1 b2]
    simp only [Option.bind_some]
    by_cases c : hi1 * 18446744073709551616 + lo1 < hi2 * 18446744073709551616 + lo2
    · rw [show sgn3 (hi1 * 18446744073709551616 + lo1) (hi2 * 18446744073709551616 + lo2) = -1 by unfold sgn3; rw [if_pos c]]
      rw [if_pos (by decide), sub64c_i b1 a1 (Or.inl rfl), sub64s_i b1 a1 a2 (Or.inl rfl)]
      refine ⟨_, _, _, rfl, ?_⟩
      by_cases d : lo2 < lo1 + 0
      · rw [if_pos d, sub64s_i b3 a3 (by omega) (Or.inr rfl)]
        refine ⟨by omega, by omega, by omega, by omega, fun e => ?_, fun e => ?_⟩
        · have := bp e; cases n1
          · exact absurd e.symm hn
          · have := am rfl; omega
        · have := bm e; cases n1
          · have := ap rfl; omega
          · exact absurd e.symm hn
      · rw [if_neg d, sub64s_i b3 a3 (by omega) (Or.inl rfl)]
        refine ⟨by omega, by omega, by omega, by omega, fun e => ?_, fun e => ?_⟩
        · have := bp e; cases n1
          · exact absurd e.symm hn
          · have := am rfl; omega
        · have := bm e; cases n1
          · have := ap rfl; omega
          · exact absurd e.symm hn
    · rw [if_neg (by unfold sgn3; rw [if_neg c]; split <;> decide), sub64c_i a1 b1 (Or.inl rfl), sub64s_i a1 b1 b2 (Or.inl rfl)]
      refine ⟨_, _, _, rfl, ?_⟩
      by_cases d : lo1 < lo2 + 0
      · rw [if_pos d, sub64s_i a3 b3 (by omega) (Or.inr rfl)]
        refine ⟨by omega, by omega, by omega, by omega, fun e => ?_, fun e => ?_⟩
        · have := ap e; cases n2
          · exact absurd e hn
          · have := bm rfl; omega
        · have := am e; cases n2
          · have := bp rfl; omega
          · exact absurd e hn
      · rw [if_neg d, sub64s_i a3 b3 (by omega) (Or.inl rfl)]
        refine ⟨by omega, by omega, by omega, by omega, fun e => ?_, fun e => ?_⟩
        · have := ap e; cases n2
          · exact absurd e hn
          · have := bm rfl; omega
        · have := am e; cases n2
          · have := bp rfl; omega
          · exact absurd e hn
theorem Ex.neg {n : Bool} {lo hi x : Int} (h : Ex n lo hi x) : Ex (!n) lo hi (-x) := by
  obtain ⟨a1, a2, a3, a4, ap, am⟩ := h
  refine ⟨a1, a2, a3, a4, fun e => ?_, fun e => ?_⟩
  · have := am (by simpa using e); omega
  · have := ap (by simpa using e); omega
theorem mul_lo {a b : Int} (ha : I64 a) (hb : I64 b) : -85070591730234615856620279821087277056 ≤ a * b ∧ a * b ≤ 85070591730234615865843651857942052864 := by
  have hp := abs_mul_le ha hb
  refine ⟨?_, ?_⟩
  · by_cases hs : (decide (a < 0) != decide (b < 0)) = true
    · rw [mul_sign a b hs]
      unfold I64 at ha hb
      by_cases h : a < 0
      · have hb0 : ¬ b < 0 := by intro h2; simp [h, h2] at hs
        have := Nat.mul_le_mul (show a.natAbs ≤ 9223372036854775808 by omega) (show b.natAbs ≤ 9223372036854775807 by omega)
        omega
      · have := Nat.mul_le_mul (show a.natAbs ≤ 9223372036854775807 by omega) (show b.natAbs ≤ 9223372036854775808 by omega)
        omega
    · rw [mul_sign' a b (by simpa using hs)]; omega
  · by_cases hs : (decide (a < 0) != decide (b < 0)) = true
    · rw [mul_sign a b hs]; omega
    · rw [mul_sign' a b (by simpa using hs)]; omega
theorem order_f (k : Nat) (hk : 3 ≤ k) {a b c d : Int} (ha : I64 a) (hb : I64 b) (hc : I64 c) (hd : I64 d) : fixed_Order.f k a b c d = some (sgn3 (a * b) (c * d)) := by
  obtain ⟨n1, lo1, hi1, e1, x1⟩ := product_ex ha hb
  obtain ⟨n2, lo2, hi2, e2, x2⟩ := product_ex hc hd
  have m1 := mul_lo ha hb
  have m2 := mul_lo hc hd
  have m : (a * b + -(c * d)).natAbs < 170141183460469231731687303715884105728 := by omega
  obtain ⟨n, lo, hi, e, x⟩ := plus_ex k hk x1 x2.neg m
  unfold fixed_Order.f
  rw [e1, e2]
  simp only [Option.bind_some, e]
  have ax := x.abs
  obtain ⟨p1, p2, p3, p4, pp, pm⟩ := x
  generalize a * b = u at *
  generalize c * d = v at *
  unfold sgn3
  by_cases h0 : u = v
  · rw [if_pos (by rw [show lo = 0 by omega, show hi = 0 by omega]; decide), if_neg (by omega), if_pos h0]
  · rw [if_neg (by intro h; simp at h; omega)]
    cases n
    · have := pp rfl
      rw [if_neg (by decide), if_neg (by omega), if_neg h0]
    · have := pm rfl
      rw [if_pos rfl, if_pos (by omega)]
theorem sv_i64 {v : Int} (h : I64 v) : Snd (sv v) := by unfold I64 at h; exact sv_snd h.1 h.2
theorem up_f {n : Bool} {lo : Int} (h0 : 0 ≤ lo) (h1 : lo < 18446744073709551616) : fixed_exact_up.f n lo 0 = some (n, lo % 4294967296 * 4294967296, lo / 4294967296) := by
  unfold fixed_exact_up.f
  rw [u64_id (x := 0 * 4294967296) (by omega) (by omega), or32 0 _ (by omega) (by omega) (by omega) (by omega), IntKind.wrap_u64]
  congr 3 <;> omega
theorem int_f (k : Nat) (hk : 1 ≤ k) {v : Int} (h : I64 v) : fixed_Int.f k v = some (fitV (v * 4294967296), fitF (v * 4294967296) false) := by
  unfold fixed_Int.f
  rw [of_f h]
  unfold I64 at h
  simp only [Option.bind_some]
  rw [up_f (by omega) (by omega)]
  simp only [Option.bind_some]
  rw [fit_ex (x := v * 4294967296) _ false k hk]
  · rfl
  · refine ⟨by omega, by omega, by omega, by omega, fun e => ?_, fun e => ?_⟩
    · have := of_decide_eq_false e; omega
    · have := of_decide_eq_true e; omega
theorem div_two (hi lo d : Nat) (hd : 0 < d) : (hi * 18446744073709551616 + lo) / d = hi / d * 18446744073709551616 + (hi % d * 18446744073709551616 + lo) / d := by
  have e : hi * 18446744073709551616 + lo = d * (hi / d * 18446744073709551616) + (hi % d * 18446744073709551616 + lo) := by
    have := Nat.div_add_mod hi d
    have e2 : d * (hi / d * 18446744073709551616) = d * (hi / d) * 18446744073709551616 := by rw [Nat.mul_assoc]
    rw [e2]
    omega
  rw [e, Nat.mul_add_div hd]
theorem tdiv_abs (x y : Int) : x.tdiv y = if (decide (x < 0) != decide (y < 0)) = true then -((x.natAbs / y.natAbs : Nat) : Int) else ((x.natAbs / y.natAbs : Nat) : Int) := by
  by_cases hx : x < 0
  · have ex : x = -(x.natAbs : Int) := by omega
    by_cases hy : y < 0
    · have ey : y = -(y.natAbs : Int) := by omega
      rw [if_neg (by simp [hx, hy])]
      generalize x.natAbs = m at ex
      generalize y.natAbs = n at ey
      subst ex; subst ey
      rw [Int.neg_tdiv, Int.tdiv_neg, Int.neg_neg, Int.ofNat_tdiv]
    · have ey : y = (y.natAbs : Int) := by omega
      rw [if_pos (by simp [hx, hy])]
      generalize x.natAbs = m at ex
      generalize y.natAbs = n at ey
      subst ex; subst ey
      rw [Int.neg_tdiv, Int.ofNat_tdiv]
  · have ex : x = (x.natAbs : Int) := by omega
    by_cases hy : y < 0
    · have ey : y = -(y.natAbs : Int) := by omega
      rw [if_pos (by simp [hx, hy])]
      generalize x.natAbs = m at ex
      generalize y.natAbs = n at ey
      subst ex; subst ey
      rw [Int.tdiv_neg, Int.ofNat_tdiv]
    · have ey : y = (y.natAbs : Int) := by omega
      rw [if_neg (by simp [hx, hy])]
      generalize x.natAbs = m at ex
      generalize y.natAbs = n at ey
      subst ex; subst ey
      rw [Int.ofNat_tdiv]
theorem two_lt (r d lo : Nat) (h : r < d) (h2 : lo < 18446744073709551616) : (r * 18446744073709551616 + lo) / d < 18446744073709551616 := by
  apply Nat.div_lt_of_lt_mul
  have := Nat.mul_le_mul_right 18446744073709551616 (show r + 1 ≤ d from h)
  omega
theorem ratio_of (k : Nat) (hk : 1 ≤ k) {a b : Int} (ha : I64 a) (hb : I64 b) (h0 : b ≠ 0) (r : Int)
    (hd : bits_Div64.f k ((a.natAbs / 4294967296 % b.natAbs : Nat) : Int) ((a.natAbs % 4294967296 * 4294967296 : Nat) : Int) (b.natAbs : Int) = some (((((a.natAbs / 4294967296 % b.natAbs) * 18446744073709551616 + a.natAbs % 4294967296 * 4294967296) / b.natAbs : Nat) : Int), r)) :
    fixed_Ratio.f k a b = some (fitV ((a * 4294967296).tdiv b), fitF ((a * 4294967296).tdiv b) false) := by
  have hp : 0 < b.natAbs := by omega
  have hlt := two_lt (a.natAbs / 4294967296 % b.natAbs) b.natAbs (a.natAbs % 4294967296 * 4294967296) (Nat.mod_lt _ hp) (by omega)
  have hle := Nat.div_le_self (a.natAbs / 4294967296) b.natAbs
  have hdv := div_two (a.natAbs / 4294967296) (a.natAbs % 4294967296 * 4294967296) b.natAbs hp
  have ht := tdiv_abs (a * 4294967296) b
  rw [show (a * 4294967296).natAbs = a.natAbs / 4294967296 * 18446744073709551616 + a.natAbs % 4294967296 * 4294967296 by omega, hdv, show decide (a * 4294967296 < 0) = decide (a < 0) by rw [decide_eq_decide]; omega] at ht
  unfold fixed_Ratio.f
  rw [if_neg h0, of_f ha, of_f hb]
  simp only [Option.bind_some]
  unfold I64 at ha hb
  rw [up_f (by omega) (by omega)]
  simp only [Option.bind_some]
  have d1 : (a.natAbs : Int) / 4294967296 = ((a.natAbs / 4294967296 : Nat) : Int) := by omega
  have d2 : (a.natAbs : Int) % 4294967296 * 4294967296 = ((a.natAbs % 4294967296 * 4294967296 : Nat) : Int) := by omega
  rw [if_neg (by omega), d1, d2, ← Int.ofNat_tmod, ← Int.ofNat_tdiv, hd, u64_id (by omega) (by omega)]
  simp only [Option.bind_some]
  rw [fit_ex (x := (a * 4294967296).tdiv b) _ false k hk]
  · simp only [Option.bind_some]
  · rw [ht]
    clear hd hdv ht
    generalize (a.natAbs / 4294967296 % b.natAbs * 18446744073709551616 + a.natAbs % 4294967296 * 4294967296) / b.natAbs = q at hlt ⊢
    generalize a.natAbs / 4294967296 / b.natAbs = p at hle ⊢
    refine ⟨by omega, by omega, by omega, by omega, fun e => ?_, fun e => ?_⟩
    · rw [if_neg (by rw [e]; decide)]; omega
    · rw [if_pos e]; omega
theorem awake_f (k : Nat) (hk : 5 ≤ k) : bagatellelaw01_awake.f k = some true := by
  have e1 : fixed_Int.f k 3 = some (12884901888, false) := int_f k (by omega) (by unfold I64; omega)
  have w1 : IntKind.u64.wrap (Int.tdiv 4294967296 2) = 2147483648 := by decide +kernel
  have w2 : Int.tmod 4294967296 2 = 0 := by decide +kernel
  have ed : bits_Div64.f k 0 4294967296 2 = some (2147483648, 0) := by
    unfold bits_Div64.f
    rw [if_neg (by decide), if_neg (by decide), if_pos rfl, w1, w2]
  have v1 : Snd ((-1 * 4294967296 : Int).tdiv 2) := by unfold Snd; decide +kernel
  have v2 : (-1 * 4294967296 : Int).tdiv 2 = -2147483648 := by decide +kernel
  have e2 : fixed_Ratio.f k (-1) 2 = some (-2147483648, false) := by
    rw [ratio_of (a := -1) (b := 2) k (by omega) (by unfold I64; omega) (by unfold I64; omega) (by decide) 0 (by simpa using ed), fitV_id v1, fitF_id v1, v2]
  have e3 : fixed_Order.f k (-2) 3 1 1 = some (-1) := order_f k (by omega) (by unfold I64; omega) (by unfold I64; omega) (by unfold I64; omega) (by unfold I64; omega)
  have e4 : fixed_Text.f (-2147483648) false = some ⟨#[45, 48, 46, 53]⟩ := by decide +kernel
  unfold bagatellelaw01_awake.f
  rw [e1, e2, e3]
  simp only [Option.bind_some, e4]
  decide +kernel
end Go.Proofs.Ytenpiaafkmfjfaa.B

end
section
namespace Go.Proofs.Ytenpiaafkmfjfaa.B
open Go.RowKit Go.Proofs.YtenpiaafkmfjfaaW.PrintWords Go.Proofs.YtenpiaafkmfjfaaW.PrintLast Go.Proofs.YtenpiaafkmfjfaaW.PrintMore
theorem sv_id {v : Int} (h : Snd v) : sv v = v := by unfold Snd at h; unfold sv; rw [if_neg (by omega)]
theorem sf_id {v : Int} (h : Snd v) (f : Bool) : sf v f = f := by unfold Snd at h; unfold sf; rw [if_neg (by omega)]
theorem Snd.neg {v : Int} (h : Snd v) : Snd (-v) := by unfold Snd at *; omega
theorem neg_f {v : Int} (f : Bool) (h : I64 v) : fixed_Neg.f v f = some (-(sv v), sf v f) := by
  have hs := sv_i64 h
  unfold Snd at hs
  unfold fixed_Neg.f
  rw [sound_f]
  simp only [Option.bind_some]
  rw [wrap64_id (by omega) (by omega)]
end Go.Proofs.Ytenpiaafkmfjfaa.B

end
section
namespace Go.Proofs.Ytenpiaafkmfjfaa.B
def isD (c : UInt8) : Bool := decide (48 ≤ c.toNat) && decide (c.toNat ≤ 57)
def dg (c : UInt8) : Nat := c.toNat - 48
def cutL (c : UInt8) : List UInt8 → List UInt8 × Bool
  | [] => ([], false)
  | x :: r => if x = c then (r, true) else (x :: r, false)
def finP (s : List UInt8) (neg : Bool) (V : Int) (f : Bool) : Int × Bool × Int :=
  if textB (if neg = true then -V else V) f = s then (if neg = true then -V else V, f, 0) else (0, false, 4)
def fracP (rest : List UInt8) : Nat × List UInt8 :=
  if (cutL 46 rest).2 = true then (frac 32 (((cutL 46 rest).1.takeWhile isD).map dg) 0, (cutL 46 rest).1.dropWhile isD) else (0, rest)
def parseF (s : List UInt8) : Int × Bool × Int :=
  if ((cutL 45 s).1.takeWhile isD).length < 1 ∨ ((cutL 45 s).1.takeWhile isD).length > 10 ∨ s.length > 50 then (0, false, 4)
  else if dval (((cutL 45 s).1.takeWhile isD).map dg) ≥ 2147483648 then (0, false, 4)
  else finP s (cutL 45 s).2 ((dval (((cutL 45 s).1.takeWhile isD).map dg) * 4294967296 + (fracP ((cutL 45 s).1.dropWhile isD)).1 : Nat) : Int) (!(fracP ((cutL 45 s).1.dropWhile isD)).2.isEmpty)
theorem isD_dg {c : UInt8} (h : isD c = true) : dg c ≤ 9 := by
  unfold isD at h; unfold dg
  simp only [Bool.and_eq_true, decide_eq_true_eq] at h
  omega
theorem nine_dg {l : List UInt8} (h : ∀ c ∈ l, isD c = true) : ninth (l.map dg) := by
  intro d hd
  obtain ⟨c, hc, rfl⟩ := List.mem_map.1 hd
  exact isD_dg (h c hc)
theorem tw_isD : ∀ (l : List UInt8), ∀ c ∈ l.takeWhile isD, isD c = true
  | [], c, h => by simp at h
  | x :: l, c, h => by
    rw [List.takeWhile_cons] at h
    by_cases hx : isD x = true
    · rw [if_pos hx] at h
      rcases List.mem_cons.1 h with rfl | h
      · exact hx
      · exact tw_isD l c h
    · rw [if_neg hx] at h; cases h
theorem fracP_lt (rest : List UInt8) : (fracP rest).1 < 4294967296 := by
  unfold fracP
  split
  · exact frac32_lt _ (nine_dg (tw_isD _))
  · omega
theorem finP_one (s : List UInt8) (neg : Bool) (V : Nat) (f : Bool) (hV : V < 9223372036854775808) :
    finP s neg (V : Int) f = (0, false, 4) ∨ ∃ v g, finP s neg (V : Int) f = (v, g, 0) ∧ Snd v ∧ textB v g = s := by
  unfold finP
  by_cases h : textB (if neg = true then -(V : Int) else (V : Int)) f = s
  · rw [if_pos h]
    refine .inr ⟨_, _, rfl, ?_, h⟩
    unfold Snd
    split <;> omega
  · rw [if_neg h]; exact .inl rfl
theorem parseF_one (s : List UInt8) : parseF s = (0, false, 4) ∨ ∃ v g, parseF s = (v, g, 0) ∧ Snd v ∧ textB v g = s := by
  unfold parseF
  split
  · exact .inl rfl
  · split
    · exact .inl rfl
    · exact finP_one s _ _ _ (by have := fracP_lt ((cutL 45 s).1.dropWhile isD); omega)
def Tail (T : List UInt8) : Prop := T = [] ∨ ∃ c r, T = c :: r ∧ isD c = false
theorem span_tw : ∀ (D : List UInt8) {T : List UInt8}, (∀ c ∈ D, isD c = true) → Tail T → (D ++ T).takeWhile isD = D ∧ (D ++ T).dropWhile isD = T
  | [], T, _, hT => by
    rcases hT with rfl | ⟨c, r, rfl, hc⟩
    · simp
    · simp [hc]
  | x :: D, T, hD, hT => by
    have ih := span_tw D (fun c hc => hD c (List.mem_cons_of_mem _ hc)) hT
    have hx := hD x List.mem_cons_self
    simp [hx, ih]
theorem dig_isD (d : Nat) (h : d ≤ 9) : isD (dig d) = true := by
  unfold isD; rw [dig_toNat d h]; simp; omega
theorem dg_dig (d : Nat) (h : d ≤ 9) : dg (dig d) = d := by unfold dg; rw [dig_toNat d h]; omega
theorem map_isD {l : List Nat} (h : ninth l) : ∀ c ∈ l.map dig, isD c = true := by
  intro c hc
  obtain ⟨d, hd, rfl⟩ := List.mem_map.1 hc
  exact dig_isD d (h d hd)
theorem map_dg : ∀ {l : List Nat}, ninth l → (l.map dig).map dg = l
  | [], _ => rfl
  | d :: l, h => by
    rw [List.map_cons, List.map_cons, dg_dig d (h d List.mem_cons_self), map_dg (fun x hx => h x (List.mem_cons_of_mem _ hx))]
def flagT (f : Bool) : List UInt8 := if f then [33] else []
def partT (p : Nat) : List UInt8 := if p = 0 then [] else 46 :: (fd 32 p).map dig
theorem flag_tail (f : Bool) : Tail (flagT f) := by
  cases f
  · exact .inl rfl
  · exact .inr ⟨33, [], rfl, by decide⟩
theorem part_tail (p : Nat) (f : Bool) : Tail (partT p ++ flagT f) := by
  unfold partT
  split
  · rw [List.nil_append]; exact flag_tail f
  · exact .inr ⟨46, _, rfl, by decide⟩
theorem fracP_text (p : Nat) (hp : p < 4294967296) (f : Bool) : fracP (partT p ++ flagT f) = (p, flagT f) := by
  unfold partT fracP
  by_cases h0 : p = 0
  · subst h0
    cases f <;> rfl
  · rw [if_neg h0]
    have hs := span_tw ((fd 32 p).map dig) (map_isD (fd_nine 32 p hp)) (flag_tail f)
    have e : cutL 46 (46 :: (fd 32 p).map dig ++ flagT f) = ((fd 32 p).map dig ++ flagT f, true) := rfl
    rw [e]
    dsimp only
    rw [if_pos rfl, hs.1, hs.2, map_dg (fd_nine 32 p hp), frac_fd p hp]
theorem flag_empty (f : Bool) : (!(flagT f).isEmpty) = f := by cases f <;> rfl
theorem text_parts {v : Int} (f : Bool) (hv : Snd v) : textB v f = (if v < 0 then [45] else []) ++ ((decs (v.natAbs / 4294967296)).map dig ++ (partT (v.natAbs % 4294967296) ++ flagT f)) := by
  unfold textB textN partT flagT
  rw [sv_id hv, sf_id hv]
  simp only [decide_eq_true_eq, List.append_assoc]
theorem cut_text {v : Int} (f : Bool) (hv : Snd v) : cutL 45 (textB v f) = ((decs (v.natAbs / 4294967296)).map dig ++ (partT (v.natAbs % 4294967296) ++ flagT f), decide (v < 0)) := by
  rw [text_parts f hv]
  have h1 := decs_pos (v.natAbs / 4294967296)
  have h9 := decs_nine (v.natAbs / 4294967296)
  cases hD : decs (v.natAbs / 4294967296) with
  | nil => rw [hD] at h1; simp at h1
  | cons d l =>
    rw [hD] at h9
    have hd : dig d ≠ 45 := by
      intro e
      have := dig_toNat d (h9 d List.mem_cons_self)
      rw [e] at this
      have : (45 : UInt8).toNat = 48 + d := this
      have e45 : (45 : UInt8).toNat = 45 := rfl
      omega
    by_cases hn : v < 0
    · rw [if_pos hn, decide_eq_true hn]; rfl
    · rw [if_neg hn, decide_eq_false hn, List.nil_append, List.map_cons, List.cons_append]
      exact if_neg hd
theorem text_len {v : Int} (f : Bool) (hv : Snd v) : (textB v f).length ≤ 50 := by
  rw [text_parts f hv]
  unfold Snd at hv
  have h1 := decs_ten (v.natAbs / 4294967296) (by omega)
  have h2 := fd_len 32 (v.natAbs % 4294967296)
  have e1 : (if v < 0 then ([45] : List UInt8) else []).length ≤ 1 := by split <;> simp
  have e2 : (partT (v.natAbs % 4294967296)).length ≤ 33 := by
    unfold partT
    split
    · simp
    · simp; omega
  have e3 : (flagT f).length ≤ 1 := by cases f <;> simp [flagT]
  simp only [List.length_append, List.length_map]
  omega
theorem finP_text {v : Int} (f : Bool) (hv : Snd v) : finP (textB v f) (decide (v < 0)) ((v.natAbs / 4294967296 * 4294967296 + v.natAbs % 4294967296 : Nat) : Int) f = (v, f, 0) := by
  have e : v.natAbs / 4294967296 * 4294967296 + v.natAbs % 4294967296 = v.natAbs := by omega
  rw [e]
  have e2 : (if decide (v < 0) = true then -(v.natAbs : Int) else (v.natAbs : Int)) = v := by
    by_cases h : v < 0
    · rw [if_pos (by simpa using h)]; omega
    · rw [if_neg (by simpa using h)]; omega
  unfold finP
  rw [e2, if_pos rfl]
theorem parseF_text {v : Int} (f : Bool) (hv : Snd v) : parseF (textB v f) = (v, f, 0) := by
  have hb := hv
  unfold Snd at hb
  have hs := span_tw ((decs (v.natAbs / 4294967296)).map dig) (map_isD (decs_nine _)) (part_tail (v.natAbs % 4294967296) f)
  have l1 := decs_pos (v.natAbs / 4294967296)
  have l2 := decs_ten (v.natAbs / 4294967296) (by omega)
  have l3 := text_len f hv
  unfold parseF
  rw [cut_text f hv]
  dsimp only
  rw [hs.1, hs.2, map_dg (decs_nine _), decs_val _ (by omega), List.length_map, fracP_text _ (by omega), if_neg (by omega), if_neg (by omega)]
  dsimp only
  rw [flag_empty]
  exact finP_text f hv
end Go.Proofs.Ytenpiaafkmfjfaa.B

end
section
namespace Go.Proofs.Ytenpiaafkmfjfaa.B
open Go.RowKit Go.Proofs.YtenpiaafkmfjfaaW.PrintWords Go.Proofs.YtenpiaafkmfjfaaW.PrintLast Go.Proofs.YtenpiaafkmfjfaaW.PrintMore
def digitsOf (s : ByteArray) : List Nat := s.data.toList.map fun b => b.toNat - 48
def allDigits (s : ByteArray) : Bool := s.data.toList.all fun b => decide (48 ≤ b.toNat) && decide (b.toNat ≤ 57)
def fixed_bits32.f (a0 : ByteArray) : Option Int := if a0.size ≤ 1000 then (if allDigits a0 = true then some ((frac 32 (digitsOf a0) 0 : Nat) : Int) else none) else none
def RowD (w : World) (g : Nat) (l : List Nat) : Prop :=
  ∃ (cs : Array Value) (m : Nat), w.heap[g]? = some (.cells cs 5 (m, m + 1)) ∧ l.length ≤ m ∧ m = cs.size ∧ ∀ (j d : Nat), l[j]? = some d → cs[j]? = some (Value.int .u8 (48 + d : Nat))
theorem RowD.cell {w : World} {g : Nat} {l : List Nat} (h : RowD w g l) (j : Nat) (d : Nat) (hj : l[j]? = some d) : w.cell? ⟨g, j, none⟩ = some (.int .u8 (48 + d : Nat)) := by
  obtain ⟨cs, m, hb, _, _, hc⟩ := h
  rw [cell_of_row w g j cs 5 (m, m + 1) hb]
  exact hc j d hj
theorem RowD.free {w : World} {g : Nat} {l : List Nat} (h : RowD w g l) (j : Nat) (hj : j < l.length) : w.frozen? ⟨g, j, none⟩ = false := by
  obtain ⟨cs, m, hb, hm, _, _⟩ := h
  simp [World.frozen?, hb]
  omega
theorem RowD.set {w : World} {g : Nat} {l : List Nat} (h : RowD w g l) (j : Nat) (hj : j < l.length) (d : Nat) : RowD (w.setCell ⟨g, j, none⟩ (.int .u8 (48 + d : Nat))) g (l.set j d) := by
  obtain ⟨cs, m, hb, hm, hs, hc⟩ := h
  refine ⟨cs.setIfInBounds j (.int .u8 (48 + d : Nat)), m, by simp [World.setCell, Array.getElem?_modify, hb], by simpa using hm, by simpa using hs, fun i e hi => ?_⟩
  by_cases hij : j = i
  · subst hij
    rw [List.getElem?_set_self hj] at hi
    obtain rfl := Option.some.inj hi
    rw [Array.getElem?_setIfInBounds_self_of_lt (by omega)]
  · rw [List.getElem?_set_ne hij] at hi
    rw [Array.getElem?_setIfInBounds_ne hij]
    exact hc i e hi
theorem vint {k : IntKind} {a b : Int} (h : a = b) : Value.int k a = Value.int k b := by rw [h]
theorem retI {k : IntKind} {a b : Int} (h : a = b) : Ending.returned (Value.int k a) = .returned (Value.int k b) := by rw [h]
theorem digit_back (b : Nat) (h1 : 48 ≤ b) : 48 + (b - 48) = b := by omega
theorem rowD_new (w : World) (s : ByteArray) (cap : Nat) (h : allDigits s = true) : RowD (w.alloc (.cells (bytesRow s cap) 5 ((bytesRow s cap).size, (bytesRow s cap).size + 1))) w.heap.size (digitsOf s) := by
  refine ⟨_, _, heap_alloc_new w _, ?_, rfl, fun j d hj => ?_⟩
  · simp [digitsOf, bytesRow]
  · unfold digitsOf at hj
    rw [List.getElem?_map] at hj
    obtain ⟨b, hb, rfl⟩ := Option.map_eq_some_iff.1 hj
    obtain ⟨hlt, hbe⟩ := List.getElem?_eq_some_iff.1 hb
    have hm : b ∈ s.data.toList := List.mem_of_getElem? hb
    have ha := List.all_eq_true.1 h b hm
    simp only [Bool.and_eq_true, decide_eq_true_eq] at ha
    rw [bytesRow_at s cap j (by simpa using hlt)]
    have : s.data[j]'(by simpa using hlt) = b := by simpa using hbe
    rw [this, digit_back _ ha.1]
theorem digits_nine (s : ByteArray) (h : allDigits s = true) : ninth (digitsOf s) := by
  intro d hd
  unfold digitsOf at hd
  obtain ⟨b, hb, rfl⟩ := List.mem_map.1 hd
  have ha := List.all_eq_true.1 h b hb
  simp only [Bool.and_eq_true, decide_eq_true_eq] at ha
  omega
set_option maxHeartbeats 2000000 in
set_option maxRecDepth 100000 in
theorem fixed_bits32.calls (a0 : ByteArray) (r : Int) (w : World) (h : fixed_bits32.f a0 = some r) :
    Calls Try.prog 94 #[.string a0] w fun e w' => e = .returned (.int .u64 r) ∧ Below w.heap.size w w' := by
  unfold fixed_bits32.f at h
  by_cases hn : a0.size ≤ 1000
  · rw [if_pos hn] at h
    by_cases hd : allDigits a0 = true
    · rw [if_pos hd] at h
      have h2 : ((frac 32 (digitsOf a0) 0 : Nat) : Int) = r := Option.some.inj h
      clear h
      generalize hR0 : frac 32 (digitsOf a0) 0 = R0 at h2
      subst h2
      have HR0 : Hid (frac 32 (digitsOf a0) 0 = R0) := hR0
      clear hR0
      have hcv := fun w => run_bytes_of_string (P := Try.prog) w 9 94 5 a0 Try.underlying9 Try.underlying94 Try.underlying5
      have HL : Hid ((digitsOf a0).length = a0.size) := by simp [digitsOf, Hid]
      have H9 : Hid (ninth (digitsOf a0)) := digits_nine a0 hd
      have HDG : Hid (allDigits a0 = true) := hd
      clear hd
      go_enter Try.func94, Try.ntmps94
      go_wp2
      have hR : Hid (RowD _ w.heap.size (digitsOf a0)) := rowD_new w.drew a0 (grownCap w a0.size 0 5) HDG.out
      have hB : Hid (Below w.heap.size w (w.drew.alloc (.cells (bytesRow a0 (grownCap w a0.size 0 5)) 5 ((bytesRow a0 (grownCap w a0.size 0 5)).size, (bytesRow a0 (grownCap w a0.size 0 5)).size + 1)))) := below_alloc (below_drew1 (Below.refl _ _)) _
      clear hcv
      go_loopw [4, 10] (fun o i wr => ∃ (n : Nat) (l : List Nat) (out : Nat), n ≤ 32 ∧ i = .int .i64 n ∧ o = .int .u64 out ∧ Hid (l.length = a0.size) ∧ Hid (ninth l) ∧ Hid (out < 2 ^ n) ∧ Hid (frac (32 - n) l out = R0) ∧ Hid (RowD wr w.heap.size l) ∧ Hid (Below w.heap.size w wr)) (fun _ i _ => 32 - (intOf i).toNat)
      case atStart => exact ⟨0, digitsOf a0, 0, by omega, rfl, rfl, HL, H9, (show 0 < 2 ^ 0 by decide), HR0, hR, hB⟩
      case round =>
        clear hR hB HL H9
        obtain ⟨n, l, out, hn32, rfl, rfl, HL, H9, HO, HF, hR, hB⟩ := hrel
        obtain ⟨wo, rfl⟩ : ∃ wo : World, wo = wr := ⟨_, rfl⟩
        by_cases hlt : n < 32
        · have hltB : decide ((n : Int) < 32) = true := by simp; omega
          have hOb : Hid (out < 4294967296) := Nat.lt_of_lt_of_le HO.out (by have := Nat.pow_le_pow_right (n := 2) (by decide) (show n ≤ 32 by omega); simpa using this)
          go_wp2_with fail
          clear hltB
          go_loopw [5, 6] (fun c i wr => ∃ (p : Nat) (z : Int), p ≤ l.length ∧ i = .int .i64 z ∧ Hid (z = (p : Int) - 1) ∧ c = .int .u8 (midC l p) ∧ Hid (RowD wr w.heap.size (mid l p)) ∧ Hid (Below w.heap.size w wr)) (fun _ i _ => (intOf i + 1).toNat)
          case atStart => exact ⟨l.length, _, by omega, rfl, (by rw [HL.out] : (a0.size : Int) - 1 = (l.length : Int) - 1), by rw [(mid_all l).2]; rfl, (by rw [(mid_all l).1]; exact hR.out), hB.out⟩
          case round =>
            clear hR hB
            obtain ⟨p, z, hp, rfl, hz, rfl, hR, hB⟩ := hrel
            have hzz := hz.out
            clear hz
            cases p with
            | zero =>
              obtain rfl : z = -1 := by omega
              clear hzz
              have hcz : midC l 0 ≤ 1 := midC_le l 0 H9.out
              have e0 : Hid (midC l 0 = (dblR l).2) := (mid_zero l).2
              have e1 : Hid (RowD wr w.heap.size (dblR l).1) := by have := hR.out; rw [(mid_zero l).1] at this; exact this
              clear hR
              generalize midC l 0 = c at hcz e0
              have hob := hOb.out
              have e2 : Hid (IntKind.u64.wrap ((out : Int) * 2) = ((2 * out : Nat) : Int)) := by show _ = _; rw [IntKind.wrap_u64]; omega
              have e3 : Hid (bits .or .u64 ((2 * out : Nat) : Int) (c : Int) = ((2 * out + c : Nat) : Int)) := or_bit out c hcz (by omega)
              have e4 : Hid (2 * out + c < 2 ^ (n + 1)) := by have := HO.out; show _ < _; rw [Nat.pow_succ]; omega
              have e5 : Hid (frac (32 - (n + 1)) (dblR l).1 (2 * out + c) = R0) := by
                have := HF.out
                rw [show 32 - n = (32 - (n + 1)) + 1 by omega, frac_step, ← e0.out] at this
                exact this
              clear hob
              go_wp2
              go_roundw
              case rel => exact ⟨n + 1, (dblR l).1, 2 * out + c, by omega, by go_num, by rw [e2.out, e3.out], (by show _ = _; rw [dblR_len]; exact HL.out), dblR_nine l, e4, e5, e1, hB⟩
              case measure => first | (simp [intOf]; done) | (simp [intOf]; omega)
            | succ q =>
              obtain rfl : z = (q : Int) := by omega
              clear hzz
              have hq : q < l.length := by omega
              have hqa : q < a0.size := by have := HL.out; omega
              have hcz : midC l (q + 1) ≤ 1 := midC_le l (q + 1) H9.out
              have hst := mid_step l q hq
              have hd9 : l[q] ≤ 9 := H9.out _ (List.getElem_mem hq)
              have q0 := hR.out.cell q _ (mid_at l q hq)
              have z0 := hR.out.free q (by rw [mid_len]; omega)
              have hset := hR.out.set q (by rw [mid_len]; omega) ((2 * l[q] + midC l (q + 1)) % 10)
              rw [← hst.1] at hset
              have hst2 := hst.2
              clear hst
              generalize l[q] = d at *
              generalize midC l (q + 1) = c at *
              have HS2 : Hid (midC l q = (2 * d + c) / 10) := hst2
              have HSET : Hid (RowD (wr.setCell ⟨w.heap.size, q, none⟩ (.int .u8 (48 + (2 * d + c) % 10 : Nat))) w.heap.size (mid l q)) := hset
              clear hst2 hset
              go_wp2
              go_roundw
              case rel =>
                refine ⟨q, _, by omega, rfl, rfl, ?_, ?_, ?_⟩
                · exact vint (by rw [HS2.out]; omega)
                · have := HSET.out
                  rw [show ((48 + (2 * d + c) % 10 : Nat) : Int) = 48 + (2 * (48 + (d : Int) - 48) + (c : Int)) % 10 by omega] at this
                  exact this
                · exact below_set hB.out (Nat.le_refl _)
              case measure => first | (simp [intOf]; done) | (simp [intOf]; omega)
        · obtain rfl : n = 32 := by omega
          have e6 : Hid (out = R0) := by have := HF.out; simp only [Nat.sub_self, frac] at this; exact this
          clear HF HO
          have hlt2 : decide ((32 : Int) < 32) = false := by decide
          go_wp2
          go_ret
          exact ⟨retI (by rw [e6.out]), hB.out⟩
    · rw [if_neg hd] at h
      cases h
  · rw [if_neg hn] at h
    cases h
end Go.Proofs.Ytenpiaafkmfjfaa.B

end
section
namespace Go.Proofs.Ytenpiaafkmfjfaa.B
open Go.RowKit Go.Proofs.YtenpiaafkmfjfaaW.PrintWords Go.Proofs.YtenpiaafkmfjfaaW.PrintLast Go.Proofs.YtenpiaafkmfjfaaW.PrintMore
attribute [local go_sem] max2_int min2_int max_two min_two max_three min_three max_four min_four
set_option linter.unusedVariables false
set_option linter.unusedSimpArgs false
def stringslite_HasPrefix.f (a0 : ByteArray) (a1 : ByteArray) : Option (Bool) := if (a0.size : Int) ≥ (a1.size : Int) then (if 0 ≤ (a1.size : Int) then (if (a1.size : Int) ≤ (a0.size : Int) then (some ((a0.extract 0 ((a1.size : Int) : Int).toNat).toList == a1.toList)) else (none)) else (none)) else (some false)
set_option maxHeartbeats 8000000 in
set_option maxRecDepth 100000 in
theorem stringslite_HasPrefix.calls (a0 : ByteArray) (a1 : ByteArray) (r : Bool) (w : World) (h : stringslite_HasPrefix.f a0 a1 = some r) :
    Calls Try.prog 119 #[.string a0, .string a1] w fun e w' => e = .returned (.bool r) ∧ Drawn0 w w' := by
  have H : (if (a0.size : Int) ≥ (a1.size : Int) then (if 0 ≤ (a1.size : Int) then (if (a1.size : Int) ≤ (a0.size : Int) then (some ((a0.extract 0 ((a1.size : Int) : Int).toNat).toList == a1.toList)) else (none)) else (none)) else (some false)) = some r := h
  clear h
  by_cases c3 : (a0.size : Int) ≥ (a1.size : Int)
  · rw [if_pos c3] at H
    have c3b0 : decide ((a1.size : Int) ≤ (a0.size : Int)) = true := decide_eq_true c3
    have c3b1 : decide (a1.size ≤ a0.size) = true := decide_eq_true (Int.ofNat_le.mp c3)
    clear c3
    by_cases c4 : 0 ≤ (a1.size : Int)
    · rw [if_pos c4] at H
      have c4b0 := eq_true c4
      have c4b1 : decide (0 ≤ (a1.size : Int)) = true := decide_eq_true c4
      clear c4
      by_cases c5 : (a1.size : Int) ≤ (a0.size : Int)
      · rw [if_pos c5] at H
        have c5b0 := eq_true c5
        have c5b1 : decide ((a1.size : Int) ≤ (a0.size : Int)) = true := decide_eq_true c5
        clear c5
        obtain rfl := Option.some.inj H
        go_enter Try.func119, Try.ntmps119
        go_wp2
        go_ret
        exact ⟨by first | rfl | (simp; done) | (simp [*]; done), by repeat (first | exact Drawn0.refl _ | apply Drawn0.step)⟩
      · rw [if_neg c5] at H
        exact absurd H (by simp)
    · rw [if_neg c4] at H
      exact absurd H (by simp)
  · rw [if_neg c3] at H
    have c3b0 : decide ((a1.size : Int) ≤ (a0.size : Int)) = false := decide_eq_false c3
    have c3b1 : decide (a1.size ≤ a0.size) = false := decide_eq_false (fun h => c3 (Int.ofNat_le.mpr h))
    clear c3
    obtain rfl := Option.some.inj H
    go_enter Try.func119, Try.ntmps119
    go_wp2
    go_ret
    exact ⟨by first | rfl | (simp; done) | (simp [*]; done), by repeat (first | exact Drawn0.refl _ | apply Drawn0.step)⟩
def stringslite_CutPrefix.f (a0 : ByteArray) (a1 : ByteArray) : Option (ByteArray × Bool) := (stringslite_HasPrefix.f a0 a1).bind fun t421 => (if t421 = true then (if 0 ≤ (a1.size : Int) then (if (a1.size : Int) ≤ (a0.size : Int) then (some (a0.extract ((a1.size : Int) : Int).toNat a0.size, true)) else (none)) else (none)) else (some (a0, false)))
set_option maxHeartbeats 8000000 in
set_option maxRecDepth 100000 in
theorem stringslite_CutPrefix.calls (a0 : ByteArray) (a1 : ByteArray) (r1 : ByteArray) (r2 : Bool) (w : World) (h : stringslite_CutPrefix.f a0 a1 = some (r1, r2)) :
    Calls Try.prog 115 #[.string a0, .string a1] w fun e w' => e = .returned (.tuple #[.string r1, .bool r2]) ∧ Drawn0 w w' := by
  have H : ((stringslite_HasPrefix.f a0 a1).bind fun t421 => (if t421 = true then (if 0 ≤ (a1.size : Int) then (if (a1.size : Int) ≤ (a0.size : Int) then (some (a0.extract ((a1.size : Int) : Int).toNat a0.size, true)) else (none)) else (none)) else (some (a0, false)))) = some (r1, r2) := h
  clear h
  replace H := Option.bind_eq_some_iff.mp H
  obtain ⟨t421, A30, H⟩ := H
  replace H : (if t421 = true then (if 0 ≤ (a1.size : Int) then (if (a1.size : Int) ≤ (a0.size : Int) then (some (a0.extract ((a1.size : Int) : Int).toNat a0.size, true)) else (none)) else (none)) else (some (a0, false))) = some (r1, r2) := H
  have A3 := Aside0.mk A30
  clear A30
  by_cases c4 : t421 = true
  · subst c4
    have H1 : (if 0 ≤ (a1.size : Int) then (if (a1.size : Int) ≤ (a0.size : Int) then (some (a0.extract ((a1.size : Int) : Int).toNat a0.size, true)) else (none)) else (none)) = some (r1, r2) := by rw [if_pos rfl] at H; exact H
    clear H
    have H := H1
    clear H1
    by_cases c5 : 0 ≤ (a1.size : Int)
    · rw [if_pos c5] at H
      have c5b0 := eq_true c5
      have c5b1 : decide (0 ≤ (a1.size : Int)) = true := decide_eq_true c5
      clear c5
      by_cases c6 : (a1.size : Int) ≤ (a0.size : Int)
      · rw [if_pos c6] at H
        have c6b0 := eq_true c6
        have c6b1 : decide ((a1.size : Int) ≤ (a0.size : Int)) = true := decide_eq_true c6
        clear c6
        simp only [Option.some.injEq, Prod.mk.injEq] at H
        obtain ⟨rfl, rfl⟩ := H
        go_enter Try.func115, Try.ntmps115
        go_wp2_with (first | ((with_reducible refine gate_callee (f := 119) rfl ?_); refine goesL_ (some 8) rfl rfl Try.func119 (by kernel_rfl) rfl #[.string a0, .string a1] rfl (by (try simp only [List.map_toArray, List.map_cons, List.map_nil]); first | done | rfl | (simp only [List.length_drop, List.length_take]; rfl)) ?_; (with_reducible refine (stringslite_HasPrefix.calls a0 a1 true _ A3.out).mono ?_); rintro e w' ⟨rfl, ⟨nd, rfl⟩⟩; refine ⟨_, rfl, ?_⟩))
        go_ret2
        exact ⟨by first | rfl | (simp; done) | (simp [*]; done), by repeat (first | exact Drawn0.refl _ | apply Drawn0.step)⟩
      · rw [if_neg c6] at H
        exact absurd H (by simp)
    · rw [if_neg c5] at H
      exact absurd H (by simp)
  · replace c4 := Bool.eq_false_iff.mpr c4
    subst c4
    have H1 : (some (a0, false)) = some (r1, r2) := by rw [if_neg (show ¬ (false = true) by decide)] at H; exact H
    clear H
    have H := H1
    clear H1
    simp only [Option.some.injEq, Prod.mk.injEq] at H
    obtain ⟨rfl, rfl⟩ := H
    go_enter Try.func115, Try.ntmps115
    go_wp2_with (first | ((with_reducible refine gate_callee (f := 119) rfl ?_); refine goesL_ (some 8) rfl rfl Try.func119 (by kernel_rfl) rfl #[.string a0, .string a1] rfl (by (try simp only [List.map_toArray, List.map_cons, List.map_nil]); first | done | rfl | (simp only [List.length_drop, List.length_take]; rfl)) ?_; (with_reducible refine (stringslite_HasPrefix.calls a0 a1 false _ A3.out).mono ?_); rintro e w' ⟨rfl, ⟨nd, rfl⟩⟩; refine ⟨_, rfl, ?_⟩))
    go_ret2
    exact ⟨by first | rfl | (simp; done) | (simp [*]; done), by repeat (first | exact Drawn0.refl _ | apply Drawn0.step)⟩
def strings_CutPrefix.f (a0 : ByteArray) (a1 : ByteArray) : Option (ByteArray × Bool) := (stringslite_CutPrefix.f a0 a1).bind fun bt422 => (some (bt422.1, bt422.2))
set_option maxHeartbeats 8000000 in
set_option maxRecDepth 100000 in
theorem strings_CutPrefix.calls (a0 : ByteArray) (a1 : ByteArray) (r1 : ByteArray) (r2 : Bool) (w : World) (h : strings_CutPrefix.f a0 a1 = some (r1, r2)) :
    Calls Try.prog 92 #[.string a0, .string a1] w fun e w' => e = .returned (.tuple #[.string r1, .bool r2]) ∧ Drawn0 w w' := by
  have H : ((stringslite_CutPrefix.f a0 a1).bind fun bt422 => (some (bt422.1, bt422.2))) = some (r1, r2) := h
  clear h
  replace H := Option.bind_eq_some_iff.mp H
  obtain ⟨⟨t422, t423⟩, A30, H⟩ := H
  replace H : (some (t422, t423)) = some (r1, r2) := H
  have A3 := Aside0.mk A30
  clear A30
  simp only [Option.some.injEq, Prod.mk.injEq] at H
  obtain ⟨rfl, rfl⟩ := H
  go_enter Try.func92, Try.ntmps92
  go_wp2_with (first | ((with_reducible refine gate_callee (f := 115) rfl ?_); refine goesL_ (some 8) rfl rfl Try.func115 (by kernel_rfl) rfl #[.string a0, .string a1] rfl (by (try simp only [List.map_toArray, List.map_cons, List.map_nil]); first | done | rfl | (simp only [List.length_drop, List.length_take]; rfl)) ?_; (with_reducible refine (stringslite_CutPrefix.calls a0 a1 t422 t423 _ A3.out).mono ?_); rintro e w' ⟨rfl, ⟨nd, rfl⟩⟩; refine ⟨_, rfl, ?_⟩))
  go_ret2
  exact ⟨by first | rfl | (simp; done) | (simp [*]; done), by repeat (first | exact Drawn0.refl _ | apply Drawn0.step)⟩
def fixed_figures.l0 : Nat → ByteArray → Int → Option (ByteArray × ByteArray)
  | 0, _, _ => none
  | k + 1, x0, x4 => if x4 < (x0.size : Int) then (if 0 ≤ x4 then (if (bt x0 x4) ≥ 48 then (if (bt x0 x4) ≤ 57 then (fixed_figures.l0 k x0 (wrap64 (x4 + 1))) else (if x4 ≤ (x0.size : Int) then (some (x0.extract 0 (x4 : Int).toNat, x0.extract (x4 : Int).toNat x0.size)) else (none))) else (if x4 ≤ (x0.size : Int) then (some (x0.extract 0 (x4 : Int).toNat, x0.extract (x4 : Int).toNat x0.size)) else (none))) else (none)) else (if 0 ≤ x4 then (if x4 ≤ (x0.size : Int) then (some (x0.extract 0 (x4 : Int).toNat, x0.extract (x4 : Int).toNat x0.size)) else (none)) else (none))
def fixed_figures.f (k : Nat) (a0 : ByteArray) : Option (ByteArray × ByteArray) := fixed_figures.l0 k a0 0
set_option maxHeartbeats 8000000 in
set_option maxRecDepth 100000 in
theorem fixed_figures.calls (k : Nat) (a0 : ByteArray) (r1 : ByteArray) (r2 : ByteArray) (w : World) (h : fixed_figures.f k a0 = some (r1, r2)) :
    Calls Try.prog 93 #[.string a0] w fun e w' => e = .returned (.tuple #[.string r1, .string r2]) ∧ Drawn0 w w' := by
  have H : (fixed_figures.l0 k a0 0) = some (r1, r2) := h
  clear h
  have H' := Aside0.mk H
  clear H
  go_enter Try.func93, Try.ntmps93
  go_wp2
  repeat (go_quiet (fail); try go_wp2)
  go_loopg [4] k (fun kq v4 w' => ∃ (x4_1 : Int), v4 = .int .i64 x4_1 ∧ Aside0 (fixed_figures.l0 kq a0 x4_1 = some (r1, r2)) ∧ Aside0 (kq ≤ k) ∧ Drawn0 w w')
  case atStart => exact ⟨(0), (by first | rfl | (simp; done) | (simp [*]; done)), H', ⟨Nat.le_refl _⟩, by repeat (first | exact Drawn0.refl _ | apply Drawn0.step)⟩
  case round =>
    clear H'
    obtain ⟨x4_1, rfl, HA, HK1, ⟨m1, rfl⟩⟩ := hrel
    cases gk with
    | zero => exact absurd HA.out (by simp [fixed_figures.l0])
    | succ k1 =>
      have H := HA.out
      clear HA
      simp only [fixed_figures.l0] at H
      by_cases c2 : x4_1 < (a0.size : Int)
      · rw [if_pos c2] at H
        have c2b0 : decide (x4_1 < (a0.size : Int)) = true := decide_eq_true c2
        clear c2
        by_cases c3 : 0 ≤ x4_1
        · rw [if_pos c3] at H
          have c3b0 : decide (0 ≤ x4_1) = true := decide_eq_true c3
          clear c3
          by_cases c5 : (bt a0 x4_1) ≥ 48
          · rw [if_pos c5] at H
            have c5b0 : decide (48 ≤ (bt a0 x4_1)) = true := decide_eq_true c5
            clear c5
            by_cases c7 : (bt a0 x4_1) ≤ 57
            · rw [if_pos c7] at H
              have c7b0 : decide ((bt a0 x4_1) ≤ 57) = true := decide_eq_true c7
              clear c7
              have H' := Aside0.mk H
              clear H
              have p4 : 0 ≤ (x4_1 : Int) := of_decide_eq_true (by first | (with_reducible assumption) | assumption)
              have q4 : x4_1 < (a0.size : Int) := of_decide_eq_true (by first | (with_reducible assumption) | assumption)
              have hx4 := bt_at a0 x4_1
              replace p4 := eq_true p4
              replace q4 := eq_true q4
              have p6 : 0 ≤ (x4_1 : Int) := of_decide_eq_true (by first | (with_reducible assumption) | assumption)
              have q6 : x4_1 < (a0.size : Int) := of_decide_eq_true (by first | (with_reducible assumption) | assumption)
              have hx6 := bt_at a0 x4_1
              replace p6 := eq_true p6
              replace q6 := eq_true q6
              go_wp2
              repeat (go_quiet (fail); try go_wp2)
              go_roundg k1
              case measure => have := HK1.out; omega
              case rel => exact ⟨(wrap64 (x4_1 + 1)), (by first | rfl | (simp; done) | (simp [*]; done)), H', ⟨by have := HK1.out; omega⟩, by repeat (first | exact Drawn0.refl _ | apply Drawn0.step)⟩
            · rw [if_neg c7] at H
              have c7b0 : decide ((bt a0 x4_1) ≤ 57) = false := decide_eq_false c7
              clear c7
              have c8b0 := eq_true (of_decide_eq_true (by first | (with_reducible assumption) | assumption) : 0 ≤ x4_1)
              by_cases c9 : x4_1 ≤ (a0.size : Int)
              · rw [if_pos c9] at H
                have c9b0 := eq_true c9
                have c9b1 : decide (x4_1 ≤ (a0.size : Int)) = true := decide_eq_true c9
                clear c9
                have c10b0 := eq_true (of_decide_eq_true (by first | (with_reducible assumption) | assumption) : 0 ≤ x4_1)
                have c11b0 := eq_true (of_decide_eq_true (by first | (with_reducible assumption) | assumption) : x4_1 ≤ (a0.size : Int))
                simp only [Option.some.injEq, Prod.mk.injEq] at H
                obtain ⟨rfl, rfl⟩ := H
                have p4 : 0 ≤ (x4_1 : Int) := of_decide_eq_true (by first | (with_reducible assumption) | assumption)
                have q4 : x4_1 < (a0.size : Int) := of_decide_eq_true (by first | (with_reducible assumption) | assumption)
                have hx4 := bt_at a0 x4_1
                replace p4 := eq_true p4
                replace q4 := eq_true q4
                have p6 : 0 ≤ (x4_1 : Int) := of_decide_eq_true (by first | (with_reducible assumption) | assumption)
                have q6 : x4_1 < (a0.size : Int) := of_decide_eq_true (by first | (with_reducible assumption) | assumption)
                have hx6 := bt_at a0 x4_1
                replace p6 := eq_true p6
                replace q6 := eq_true q6
                go_wp2
                repeat (go_quiet (fail); try go_wp2)
                go_ret2
                exact ⟨by first | rfl | (simp; done) | (simp [*]; done), by repeat (first | exact Drawn0.refl _ | apply Drawn0.step)⟩
              · rw [if_neg c9] at H
                exact absurd H (by simp)
          · rw [if_neg c5] at H
            have c5b0 : decide (48 ≤ (bt a0 x4_1)) = false := decide_eq_false c5
            clear c5
            have c12b0 := eq_true (of_decide_eq_true (by first | (with_reducible assumption) | assumption) : 0 ≤ x4_1)
            by_cases c13 : x4_1 ≤ (a0.size : Int)
            · rw [if_pos c13] at H
              have c13b0 := eq_true c13
              have c13b1 : decide (x4_1 ≤ (a0.size : Int)) = true := decide_eq_true c13
              clear c13
              have c14b0 := eq_true (of_decide_eq_true (by first | (with_reducible assumption) | assumption) : 0 ≤ x4_1)
              have c15b0 := eq_true (of_decide_eq_true (by first | (with_reducible assumption) | assumption) : x4_1 ≤ (a0.size : Int))
              simp only [Option.some.injEq, Prod.mk.injEq] at H
              obtain ⟨rfl, rfl⟩ := H
              have p4 : 0 ≤ (x4_1 : Int) := of_decide_eq_true (by first | (with_reducible assumption) | assumption)
              have q4 : x4_1 < (a0.size : Int) := of_decide_eq_true (by first | (with_reducible assumption) | assumption)
              have hx4 := bt_at a0 x4_1
              replace p4 := eq_true p4
              replace q4 := eq_true q4
              go_wp2
              repeat (go_quiet (fail); try go_wp2)
              go_ret2
              exact ⟨by first | rfl | (simp; done) | (simp [*]; done), by repeat (first | exact Drawn0.refl _ | apply Drawn0.step)⟩
            · rw [if_neg c13] at H
              exact absurd H (by simp)
        · rw [if_neg c3] at H
          exact absurd H (by simp)
      · rw [if_neg c2] at H
        have c2b0 : decide (x4_1 < (a0.size : Int)) = false := decide_eq_false c2
        clear c2
        by_cases c16 : 0 ≤ x4_1
        · rw [if_pos c16] at H
          have c16b0 := eq_true c16
          have c16b1 : decide (0 ≤ x4_1) = true := decide_eq_true c16
          clear c16
          by_cases c17 : x4_1 ≤ (a0.size : Int)
          · rw [if_pos c17] at H
            have c17b0 := eq_true c17
            have c17b1 : decide (x4_1 ≤ (a0.size : Int)) = true := decide_eq_true c17
            clear c17
            have c18b0 := eq_true (of_decide_eq_true (by first | (with_reducible assumption) | assumption) : 0 ≤ x4_1)
            have c19b0 := eq_true (of_decide_eq_true (by first | (with_reducible assumption) | assumption) : x4_1 ≤ (a0.size : Int))
            simp only [Option.some.injEq, Prod.mk.injEq] at H
            obtain ⟨rfl, rfl⟩ := H
            go_wp2
            repeat (go_quiet (fail); try go_wp2)
            go_ret2
            exact ⟨by first | rfl | (simp; done) | (simp [*]; done), by repeat (first | exact Drawn0.refl _ | apply Drawn0.step)⟩
          · rw [if_neg c17] at H
            exact absurd H (by simp)
        · rw [if_neg c16] at H
          exact absurd H (by simp)
end Go.Proofs.Ytenpiaafkmfjfaa.B

end
