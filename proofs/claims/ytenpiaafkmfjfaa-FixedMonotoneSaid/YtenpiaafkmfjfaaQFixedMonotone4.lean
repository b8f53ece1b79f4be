/- FixedMonotone: part 4 of the proof. -/
import Derived.Test.YtenpiaafkmfjfaaQFixedMonotone3
import Derived.Shelf.Bits.Mul64
section
namespace Go.Proofs.Ytenpiaafkmfjfaa.B
open Go.RowKit Go.Proofs.YtenpiaafkmfjfaaW.PrintWords Go.Proofs.YtenpiaafkmfjfaaW.PrintLast Go.Proofs.YtenpiaafkmfjfaaW.PrintMore
attribute [local go_sem] max2_int min2_int max_two min_two max_three min_three max_four min_four
set_option linter.unusedVariables false
set_option linter.unusedSimpArgs false
attribute [local go_sem high] eqA23
def bagatellelaw01_awake.f (k : Nat)  : Option (Bool) := (fixed_Int.f k 3).bind fun bt201 => (if (bt201.1 == 12884901888 && (!bt201.2)) = true then ((fixed_Ratio.f k (-1) 2).bind fun bt203 => ((fixed_Text.f bt203.1 bt203.2).bind fun t205 => (if t205.toList = ([45, 48, 46, 53] : List UInt8) then ((fixed_Order.f k (-2) 3 1 1).bind fun t206 => (some (t206 == (-1)))) else (none)))) else (none))
set_option maxHeartbeats 8000000 in
set_option maxRecDepth 100000 in
theorem bagatellelaw01_awake.calls (k : Nat)  (r : Bool) (w : World) (h : bagatellelaw01_awake.f k  = some r) :
    Calls Try.prog 23 #[] w fun e w' => e = .returned (.bool r) ∧ Below w.heap.size w w' := by
  have hu23 := Try.underlying23
  have HB := Aside0.mk (Below.refl w.heap.size w)
  have H : ((fixed_Int.f k 3).bind fun bt201 => (if (bt201.1 == 12884901888 && (!bt201.2)) = true then ((fixed_Ratio.f k (-1) 2).bind fun bt203 => ((fixed_Text.f bt203.1 bt203.2).bind fun t205 => (if t205.toList = ([45, 48, 46, 53] : List UInt8) then ((fixed_Order.f k (-2) 3 1 1).bind fun t206 => (some (t206 == (-1)))) else (none)))) else (none))) = some r := h
  clear h
  replace H := Option.bind_eq_some_iff.mp H
  obtain ⟨⟨t201, t202⟩, A10, H⟩ := H
  replace H : (if (t201 == 12884901888 && (!t202)) = true then ((fixed_Ratio.f k (-1) 2).bind fun bt203 => ((fixed_Text.f bt203.1 bt203.2).bind fun t205 => (if t205.toList = ([45, 48, 46, 53] : List UInt8) then ((fixed_Order.f k (-2) 3 1 1).bind fun t206 => (some (t206 == (-1)))) else (none)))) else (none)) = some r := H
  have A1 := Aside0.mk A10
  clear A10
  by_cases c2 : (t201 == 12884901888 && (!t202)) = true
  · rw [if_pos c2] at H
    have c2b0 : (t201 == 12884901888 && (!t202)) = true := c2
    (try (have c2b1 : decide (t201 = 12884901888 && (!t202)) = true := by simpa using c2))
    (try (have c2b2 : (t201 == 12884901888 && (!t202)) = true := by simpa using c2))
    clear c2
    replace H := Option.bind_eq_some_iff.mp H
    obtain ⟨⟨t203, t204⟩, A30, H⟩ := H
    replace H : ((fixed_Text.f t203 t204).bind fun t205 => (if t205.toList = ([45, 48, 46, 53] : List UInt8) then ((fixed_Order.f k (-2) 3 1 1).bind fun t206 => (some (t206 == (-1)))) else (none))) = some r := H
    have A3 := Aside0.mk A30
    clear A30
    replace H := Option.bind_eq_some_iff.mp H
    obtain ⟨t205, A40, H⟩ := H
    replace H : (if t205.toList = ([45, 48, 46, 53] : List UInt8) then ((fixed_Order.f k (-2) 3 1 1).bind fun t206 => (some (t206 == (-1)))) else (none)) = some r := H
    have A4 := Aside0.mk A40
    clear A40
    by_cases c5 : t205.toList = ([45, 48, 46, 53] : List UInt8)
    · rw [if_pos c5] at H
      have c5b0 : (t205.toList == ([45, 48, 46, 53] : List UInt8)) = true := beq_iff_eq.mpr c5
      have c5b1 : (t205.toList != ([45, 48, 46, 53] : List UInt8)) = false := bne_eq_false_iff_eq.mpr c5
      clear c5
      replace H := Option.bind_eq_some_iff.mp H
      obtain ⟨t206, A60, H⟩ := H
      replace H : (some (t206 == (-1))) = some r := H
      have A6 := Aside0.mk A60
      clear A60
      obtain rfl := Option.some.inj H
      go_enter Try.func23, Try.ntmps23
      go_wp2_with (first | ((with_reducible refine gate_callee (f := 49) rfl ?_); refine goesL_ (some 1) rfl rfl Try.func49 (by kernel_rfl) rfl #[.int .i64 3] rfl (by (try simp only [List.map_toArray, List.map_cons, List.map_nil]); first | done | rfl | (simp only [List.length_drop, List.length_take]; rfl)) ?_; (with_reducible refine (fixed_Int.calls k 3 t201 t202 _ A1.out).mono ?_); rintro e w7 ⟨rfl, hb⟩; refine ⟨_, rfl, ?_⟩; have n0_ := Aside0.mk (below_step (by repeat (first | (with_reducible first | exact HB.out | apply below_alloc | apply pw_below_drewN | apply below_drew1) | exact HB.out)) hb); clear HB; have HB := n0_; clear n0_; (try clear hb); (try clear hb2); (try clear hk); (try clear hi)) | (go_at_call 50; (with_reducible refine (fixed_Ratio.calls k (-1) 2 t203 t204 _ A3.out).mono ?_); rintro e w8 ⟨rfl, hb⟩; have n0_ := Aside0.mk (below_step (by repeat (first | (with_reducible first | exact HB.out | apply below_alloc | apply pw_below_drewN | apply below_drew1) | exact HB.out)) hb); clear HB; have HB := n0_; clear n0_; (try clear hb); (try clear hb2); (try clear hk); (try clear hi)) | (go_at_call 67; (with_reducible refine (fixed_Text.calls t203 t204 t205 _ A4.out).mono ?_); rintro e w9 ⟨rfl, hb⟩; have n0_ := Aside0.mk (below_step (by repeat (first | (with_reducible first | exact HB.out | apply below_alloc | apply pw_below_drewN | apply below_drew1) | exact HB.out)) hb); clear HB; have HB := n0_; clear n0_; (try clear hb); (try clear hb2); (try clear hk); (try clear hi)) | (go_at_call 21; (with_reducible refine (fixed_Order.calls k (-2) 3 1 1 t206 _ A6.out).mono ?_); rintro e w10 ⟨rfl, hb⟩; have n0_ := Aside0.mk (below_step (by repeat (first | (with_reducible first | exact HB.out | apply below_alloc | apply pw_below_drewN | apply below_drew1) | exact HB.out)) hb); clear HB; have HB := n0_; clear n0_; (try clear hb); (try clear hb2); (try clear hk); (try clear hi)))
      go_ret
      exact ⟨by first | rfl | (simp [errW_none, errW_some] <;> rfl) | (simp [*, errW_none, errW_some] <;> rfl), by repeat (first | (with_reducible first | exact HB.out | apply below_alloc | apply pw_below_drewN | apply below_drew1) | exact HB.out)⟩
    · rw [if_neg c5] at H
      exact absurd H (by simp)
  · rw [if_neg c2] at H
    exact absurd H (by simp)
def fixed_Sum.l0 : Nat → Bool → List Int → Int → Int → Bool → Int → Int → Option (Int × Bool)
  | 0, _, _, _, _, _, _, _ => none
  | k + 1, x4, x13, x14, x15, x213000, x213001, x213002 => if x15 < x14 then (if 0 ≤ x15 then (if x15 < (x13.length : Int) then ((fixed_of.f (rd x13 x15)).bind fun bt214 => ((fixed_exact_plus.f k x213000 x213001 x213002 bt214.1 bt214.2.1 bt214.2.2).bind fun bt217 => (fixed_Sum.l0 k x4 x13 x14 (wrap64 (x15 + 1)) bt217.1 bt217.2.1 bt217.2.2))) else (none)) else (none)) else ((fixed_exact_fit.f k x213000 x213001 x213002 x4).bind fun bt220 => (some (bt220.1, bt220.2)))
def fixed_Sum.f (k : Nat) (l0 : List (S23)) : Option (Int × Bool) := (fixed_values.f l0).bind fun bt208 => (fixed_Sum.l0 k bt208.2 bt208.1 (bt208.1.length : Int) 0 false 0 0)
set_option maxHeartbeats 8000000 in
set_option maxRecDepth 100000 in
theorem fixed_Sum.calls (k : Nat) (A0 : Option Addr) (c0 : Nat) (l0 : List (S23)) (r1 : Int) (r2 : Bool) (w : World) (hr0 : Kd.C k23 w A0 l0.length l0) (hc0 : l0.length ≤ c0) (h : fixed_Sum.f k l0 = some (r1, r2)) :
    Calls Try.prog 32 #[.slice A0 l0.length c0] w fun e w' => e = .returned (.agg #[.int .i64 r1, .bool r2]) ∧ Below w.heap.size w w' := by
  have hu23 := Try.underlying23
  have hu60 := Try.underlying60
  have HR0 := Aside0.mk hr0
  have HC0 := Aside0.mk hc0
  clear hr0 hc0
  have HB := Aside0.mk (Below.refl w.heap.size w)
  have H : ((fixed_values.f l0).bind fun bt208 => (fixed_Sum.l0 k bt208.2 bt208.1 (bt208.1.length : Int) 0 false 0 0)) = some (r1, r2) := h
  clear h
  replace H := Option.bind_eq_some_iff.mp H
  obtain ⟨⟨t208, t209⟩, A20, H⟩ := H
  replace H : (fixed_Sum.l0 k t209 t208 (t208.length : Int) 0 false 0 0) = some (r1, r2) := H
  have A2 := Aside0.mk A20
  clear A20
  have H' := Aside0.mk H
  clear H
  go_enter Try.func32, Try.ntmps32
  go_wp2_with (first | ((with_reducible refine gate_dst (N := 2) rfl ?_); refine box_event ?hg (N := 2) ?hd (cs := #[.int .i64 0, .bool false]) (t := 23) ?hr ?_; (case hd => rfl); (case hg => rfl); (case hr => first | (go_simp; done) | (go_simp; rfl)); intro gb207 hg w3 hbox hb; have n0_ := Aside0.mk (below_step (by repeat (first | (with_reducible first | exact HB.out | apply below_alloc | apply pw_below_drewN | apply below_drew1) | exact HB.out)) hb); have n1_ := Aside0.mk (hbox); have n2_ := Aside0.mk ((by rw [hg]; exact (below_size (by repeat (first | (with_reducible first | exact HB.out | apply below_alloc | apply pw_below_drewN | apply below_drew1) | exact HB.out))) : w.heap.size ≤ gb207)); have n3_ := Aside0.mk ((by rw [hg]; exact (below_size (by repeat (first | (with_reducible first | exact HB.out | apply below_alloc | apply pw_below_drewN | apply below_drew1) | exact HB.out))) : w.heap.size ≤ gb207)); clear HB; have HB := n0_; have BK207 := n1_; have GW207 := n2_; have GE207 := n3_; clear n0_ n1_ n2_ n3_; clear hb hbox hg) | ((with_reducible refine gate_callee (f := 81) rfl ?_); refine goesL_ (some 10) rfl rfl Try.func81 (by kernel_rfl) rfl #[.slice A0 l0.length c0] rfl (by (try simp only [List.map_toArray, List.map_cons, List.map_nil]); first | done | rfl | (simp only [List.length_drop, List.length_take]; rfl)) ?_; (with_reducible refine (fixed_values.calls _ _ l0 t208 t209 _ ?side1 ?side2 A2.out).mono ?_); (case side1 => repeat (first | exact (Kd.C_below HR0.out HB.out) | (with_reducible refine Kd.C_alloc ?_ _) | (with_reducible refine Kd.C_drewN ?_ _) | (with_reducible refine Kd.C_drew ?_))); (case side2 => exact HC0.out); rintro e w4 ⟨v210, rfl, ho0, hb⟩; refine ⟨_, rfl, ?_⟩; have n0_ := Aside0.mk (Kd.R_lower ho0 (below_size (by repeat (first | (with_reducible first | exact HB.out | apply below_alloc | apply pw_below_drewN | apply below_drew1 | refine below_set ?_ GE207.out) | exact HB.out)))); have n1_ := Aside0.mk (blk_below (g := gb207) (o := .cells #[.int .i64 0, .bool false] 23 (0, 0)) (by (with_reducible repeat (first | refine blk_drewN ?_ _ | refine blk_drew ?_ | refine blk_alloc ?_ _)); exact BK207.out) hb); have n2_ := Aside0.mk (below_step (by repeat (first | (with_reducible first | exact HB.out | apply below_alloc | apply pw_below_drewN | apply below_drew1 | refine below_set ?_ GE207.out) | exact HB.out)) hb); clear BK207; clear HB; have HO211 := n0_; have BK207 := n1_; have HB := n2_; clear n0_ n1_ n2_; (try clear hb); (try clear hb2); (try clear hk); (try clear hi); (try clear ho0)) | ((with_reducible refine gate_dst (N := 5) rfl ?_); refine box_event ?hg (N := 5) ?hd (cs := #[.bool false, .int .u64 0, .int .u64 0]) (t := 60) ?hr ?_; (case hd => rfl); (case hg => rfl); (case hr => first | (go_simp; done) | (go_simp; rfl)); intro gb212 hg w5 hbox hb; have n0_ := Aside0.mk (Kd.R_below (by (with_reducible repeat (first | apply Kd.R_alloc | apply Kd.R_drewN | apply Kd.R_drew)); exact HO211.out) hb); have n1_ := Aside0.mk (blk_below (g := gb207) (o := .cells #[.int .i64 0, .bool false] 23 (0, 0)) (by (with_reducible repeat (first | refine blk_drewN ?_ _ | refine blk_drew ?_ | refine blk_alloc ?_ _)); exact BK207.out) hb); have n2_ := Aside0.mk (below_step (by repeat (first | (with_reducible first | exact HB.out | apply below_alloc | apply pw_below_drewN | apply below_drew1 | refine below_set ?_ GE207.out) | exact HB.out)) hb); have n3_ := Aside0.mk (hbox); have n4_ := Aside0.mk ((by rw [hg]; exact (below_size (by repeat (first | (with_reducible first | exact HB.out | apply below_alloc | apply pw_below_drewN | apply below_drew1 | refine below_set ?_ GE207.out) | exact HB.out))) : w.heap.size ≤ gb212)); have n5_ := Aside0.mk ((by rw [hg]; exact (below_size (by repeat (first | (with_reducible first | exact HB.out | apply below_alloc | apply pw_below_drewN | apply below_drew1 | refine below_set ?_ GE207.out) | exact HB.out))) : w.heap.size ≤ gb212)); have n6_ := Aside0.mk ((by rw [hg]; exact Nat.ne_of_lt (blk_lt (g := gb207) (o := .cells #[.int .i64 0, .bool false] 23 (0, 0)) (by (with_reducible repeat (first | refine blk_drewN ?_ _ | refine blk_drew ?_ | refine blk_alloc ?_ _)); exact BK207.out)) : gb207 ≠ gb212)); have n7_ := Aside0.mk ((by rw [hg]; exact Nat.ne_of_gt (blk_lt (g := gb207) (o := .cells #[.int .i64 0, .bool false] 23 (0, 0)) (by (with_reducible repeat (first | refine blk_drewN ?_ _ | refine blk_drew ?_ | refine blk_alloc ?_ _)); exact BK207.out)) : gb212 ≠ gb207)); clear HO211; clear BK207; clear HB; have HO211 := n0_; have BK207 := n1_; have HB := n2_; have BK212 := n3_; have GW212 := n4_; have GE212 := n5_; have NB207_212 := n6_; have NB212_207 := n7_; clear n0_ n1_ n2_ n3_ n4_ n5_ n6_ n7_; clear hb hbox hg; obtain ⟨Ao6, co6, eo6⟩ := Kd.R_slice HO211.out; subst eo6))
  go_loopg [15] k (fun kq v15 w' => ∃ (x15_1 : Int) (x213000_1 : Bool) (x213001_1 : Int) (x213002_1 : Int), v15 = .int .i64 x15_1 ∧ Aside0 (fixed_Sum.l0 kq t209 t208 (t208.length : Int) x15_1 x213000_1 x213001_1 x213002_1 = some (r1, r2)) ∧ Aside0 (kq ≤ k) ∧ Aside0 (Kd.R (Kd.int .i64) 2 w' w.heap.size (fun _ => True) (.slice Ao6 t208.length co6) t208) ∧ Aside0 (w'.heap[gb207]? = some (.cells #[.int .i64 0, .bool false] 23 (0, 0))) ∧ Aside0 (w'.heap[gb212]? = some (.cells #[.bool x213000_1, .int .u64 x213001_1, .int .u64 x213002_1] 60 (0, 0))) ∧ Aside0 (Below w.heap.size w w'))
  case atStart => exact ⟨(0), (false), (0), (0), (by first | rfl | (simp; done) | (simp [*]; done)), H', ⟨Nat.le_refl _⟩, ⟨by (with_reducible repeat (first | apply Kd.R_alloc | apply Kd.R_drewN | apply Kd.R_drew)); exact HO211.out⟩, ⟨by (with_reducible repeat (first | refine blk_drewN ?_ _ | refine blk_drew ?_ | refine blk_alloc ?_ _)); exact BK207.out⟩, ⟨by (with_reducible repeat (first | refine blk_drewN ?_ _ | refine blk_drew ?_ | refine blk_alloc ?_ _)); exact BK212.out⟩, ⟨by repeat (first | (with_reducible first | exact HB.out | apply below_alloc | apply pw_below_drewN | apply below_drew1 | refine below_set ?_ GE207.out | refine below_set ?_ GE212.out) | exact HB.out)⟩⟩
  case round =>
    clear H'
    try clear p2
    try clear c3
    obtain ⟨x15_1, x213000_1, x213001_1, x213002_1, rfl, HA, HK1, HO_13, BK207, BK212, HB⟩ := hrel
    cases gk with
    | zero => exact absurd HA.out (by simp [fixed_Sum.l0])
    | succ k1 =>
      have H := HA.out
      clear HA
      simp only [fixed_Sum.l0] at H
      by_cases c7 : x15_1 < (t208.length : Int)
      · rw [if_pos c7] at H
        have c7b0 : decide (x15_1 < (t208.length : Int)) = true := decide_eq_true c7
        clear c7
        by_cases c8 : 0 ≤ x15_1
        · rw [if_pos c8] at H
          have c8b0 : decide (0 ≤ x15_1) = true := decide_eq_true c8
          clear c8
          by_cases c9 : x15_1 < (t208.length : Int)
          · rw [if_pos c9] at H
            have c9b0 : decide (x15_1 < (t208.length : Int)) = true := decide_eq_true c9
            clear c9
            replace H := Option.bind_eq_some_iff.mp H
            obtain ⟨⟨t214, t215, t216⟩, A100, H⟩ := H
            replace H : ((fixed_exact_plus.f k1 x213000_1 x213001_1 x213002_1 t214 t215 t216).bind fun bt217 => (fixed_Sum.l0 k1 t209 t208 (t208.length : Int) (wrap64 (x15_1 + 1)) bt217.1 bt217.2.1 bt217.2.2)) = some (r1, r2) := H
            have A10 := Aside0.mk A100
            clear A100
            replace H := Option.bind_eq_some_iff.mp H
            obtain ⟨⟨t217, t218, t219⟩, A110, H⟩ := H
            replace H : (fixed_Sum.l0 k1 t209 t208 (t208.length : Int) (wrap64 (x15_1 + 1)) t217 t218 t219) = some (r1, r2) := H
            have A11 := Aside0.mk A110
            clear A110
            have H' := Aside0.mk H
            clear H
            have p213 : 0 ≤ (x15_1 : Int) := of_decide_eq_true (by first | (with_reducible assumption) | assumption)
            have q213 : x15_1 < (t208.length : Int) := of_decide_eq_true (by first | (with_reducible assumption) | assumption)
            obtain ⟨ad213, e213, hx213_0⟩ := Kd.at_int (Kd.R_reads' HO_13.out).2.2 x15_1 p213 q213
            cases e213
            replace p213 := eq_true p213
            replace q213 := eq_true q213
            try go_wp2
            have n0_ := Aside0.mk (Kd.R_drew HO_13.out)
            have n1_ := Aside0.mk (blk_drew BK207.out)
            have n2_ := Aside0.mk (blk_drew BK212.out)
            have n3_ := Aside0.mk (below_drew1 HB.out)
            clear HO_13
            clear BK207
            clear BK212
            clear HB
            have HO_13 := n0_
            have BK207 := n1_
            have BK212 := n2_
            have HB := n3_
            clear n0_ n1_ n2_ n3_
            refine start_ (n := 5) (S := fun w' => w'.cell? ⟨gb212, 0, none⟩ = some (.bool x213000_1) ∧ w'.cell? ⟨gb212, 1, none⟩ = some (.int .u64 x213001_1) ∧ w'.cell? ⟨gb212, 2, none⟩ = some (.int .u64 x213002_1)) (ds := [4]) #[false, false, false, false, false] (by kernel_rfl) rfl rfl ⟨(blk_cell BK212.out 0).trans rfl, (blk_cell BK212.out 1).trans rfl, (blk_cell BK212.out 2).trans rfl⟩ (fun hHeld => ?_)
            generalize wr.drew = w12 at HO_13 BK207 BK212 HB hHeld ⊢
            refine pure_ (i := 1) (N := some 20) (v := ?_) (a' := ?_) #[false, true, false, false, false] rfl rfl (by kernel_rfl) (fun _ _ _ h => h) (Or.inl ⟨by rfl, ?_⟩) ?_ ?_
            rotate_left
            · intro w'
              go_simp
              with_reducible rfl
            rotate_left
            · simp only [Act.put, List.setIfInBounds_toArray, List.set_cons_zero, List.set_cons_succ, i64_w, i32_w]
              rfl
            refine take_ (i := 0) (N := some 19) (v := ?_) (a' := ?_) #[true, true, false, false, false] rfl rfl (by kernel_rfl) (fun _ _ _ h => h) (Or.inl ⟨by rfl, ?_⟩) hHeld ?_ ?_
            rotate_left
            · rintro w' ⟨s0, s1, s2⟩
              go_simp
              with_reducible rfl
            rotate_left
            · simp only [Act.put, List.setIfInBounds_toArray, List.set_cons_zero, List.set_cons_succ, i64_w, i32_w]
              rfl
            refine one_ (i := 2) (N := some 21) #[true, true, true, false, false] rfl rfl (by kernel_rfl) (by decide) (fun K hK => ?_)
            refine goes_ Try.func82 (by kernel_rfl) rfl #[.int .i64 (rd t208 x15_1)] (by rfl) rfl rfl (by (try simp only [List.map_toArray, List.map_cons, List.map_nil]); first | done | rfl | (simp only [List.length_drop, List.length_take]; rfl)) ?_
            with_reducible refine (fixed_of.calls (rd t208 x15_1) t214 t215 t216 _ A10.out).mono ?_
            rintro e w13 ⟨rfl, hb⟩
            refine ⟨_, rfl, ?_⟩
            have n0_ := Aside0.mk (Kd.R_below (by (with_reducible repeat (first | apply Kd.R_alloc | apply Kd.R_drewN | apply Kd.R_drew)); exact HO_13.out) hb)
            have n1_ := Aside0.mk (blk_below (g := gb207) (o := .cells #[.int .i64 0, .bool false] 23 (0, 0)) (by (with_reducible repeat (first | refine blk_drewN ?_ _ | refine blk_drew ?_ | refine blk_alloc ?_ _)); exact BK207.out) hb)
            have n2_ := Aside0.mk (blk_below (g := gb212) (o := .cells #[.bool x213000_1, .int .u64 x213001_1, .int .u64 x213002_1] 60 (0, 0)) (by (with_reducible repeat (first | refine blk_drewN ?_ _ | refine blk_drew ?_ | refine blk_alloc ?_ _)); exact BK212.out) hb)
            have n3_ := Aside0.mk (below_step (by repeat (first | (with_reducible first | exact HB.out | apply below_alloc | apply pw_below_drewN | apply below_drew1 | refine below_set ?_ GE207.out | refine below_set ?_ GE212.out) | exact HB.out)) hb)
            clear HO_13
            clear BK207
            clear BK212
            clear HB
            have HO_13 := n0_
            have BK207 := n1_
            have BK212 := n2_
            have HB := n3_
            clear n0_ n1_ n2_ n3_
            (try clear hb)
            (try clear hb2)
            (try clear hk)
            (try clear hi)
            refine hK.out _ _ ⟨(blk_cell BK212.out 0).trans rfl, (blk_cell BK212.out 1).trans rfl, (blk_cell BK212.out 2).trans rfl⟩ (fun hHeld => ?_)
            clear hK K
            refine norm_ (a' := ?_) ?_ ?_
            rotate_left
            · show Act.put _ (some 21) _ = _
              simp only [Act.put, List.setIfInBounds_toArray, List.set_cons_zero, List.set_cons_succ, i64_w, i32_w]
              rfl
            refine one_ (i := 3) (N := some 22) #[true, true, true, true, false] rfl rfl (by kernel_rfl) (by decide) (fun K hK => ?_)
            refine goes_ Try.func75 (by kernel_rfl) rfl #[.agg #[.bool x213000_1, .int .u64 x213001_1, .int .u64 x213002_1], .agg #[.bool t214, .int .u64 t215, .int .u64 t216]] (by rfl) rfl rfl (by (try simp only [List.map_toArray, List.map_cons, List.map_nil]); first | done | rfl | (simp only [List.length_drop, List.length_take]; rfl)) ?_
            with_reducible refine (fixed_exact_plus.calls k1 x213000_1 x213001_1 x213002_1 t214 t215 t216 t217 t218 t219 _ A11.out).mono ?_
            rintro e w14 ⟨rfl, hb⟩
            refine ⟨_, rfl, ?_⟩
            have n0_ := Aside0.mk (Kd.R_below (by (with_reducible repeat (first | apply Kd.R_alloc | apply Kd.R_drewN | apply Kd.R_drew)); exact HO_13.out) hb)
            have n1_ := Aside0.mk (blk_below (g := gb207) (o := .cells #[.int .i64 0, .bool false] 23 (0, 0)) (by (with_reducible repeat (first | refine blk_drewN ?_ _ | refine blk_drew ?_ | refine blk_alloc ?_ _)); exact BK207.out) hb)
            have n2_ := Aside0.mk (blk_below (g := gb212) (o := .cells #[.bool x213000_1, .int .u64 x213001_1, .int .u64 x213002_1] 60 (0, 0)) (by (with_reducible repeat (first | refine blk_drewN ?_ _ | refine blk_drew ?_ | refine blk_alloc ?_ _)); exact BK212.out) hb)
            have n3_ := Aside0.mk (below_step (by repeat (first | (with_reducible first | exact HB.out | apply below_alloc | apply pw_below_drewN | apply below_drew1 | refine below_set ?_ GE207.out | refine below_set ?_ GE212.out) | exact HB.out)) hb)
            clear HO_13
            clear BK207
            clear BK212
            clear HB
            have HO_13 := n0_
            have BK207 := n1_
            have BK212 := n2_
            have HB := n3_
            clear n0_ n1_ n2_ n3_
            (try clear hb)
            (try clear hb2)
            (try clear hk)
            (try clear hi)
            refine hK.out _ _ ⟨(blk_cell BK212.out 0).trans rfl, (blk_cell BK212.out 1).trans rfl, (blk_cell BK212.out 2).trans rfl⟩ (fun hHeld => ?_)
            clear hK K
            refine norm_ (a' := ?_) ?_ ?_
            rotate_left
            · show Act.put _ (some 22) _ = _
              simp only [Act.put, List.setIfInBounds_toArray, List.set_cons_zero, List.set_cons_succ, i64_w, i32_w]
              rfl
            refine last_ (i := 4) (N := none) #[true, true, true, true, true] rfl rfl (by kernel_rfl) (by decide) (fun K hK => ?_)
            have hs15 : w14.cell? ⟨gb212, 0, none⟩ = some (.bool x213000_1) := (blk_cell BK212.out 0).trans rfl
            have hfs15 := blk_frozen BK212.out 0
            have hns15_0 := NB207_212.out
            have hms15_0 := NB212_207.out
            have hs16 : w14.cell? ⟨gb212, 1, none⟩ = some (.int .u64 x213001_1) := (blk_cell BK212.out 1).trans rfl
            have hfs16 := blk_frozen BK212.out 1
            have hns16_0 := NB207_212.out
            have hms16_0 := NB212_207.out
            have hs17 : w14.cell? ⟨gb212, 2, none⟩ = some (.int .u64 x213002_1) := (blk_cell BK212.out 2).trans rfl
            have hfs17 := blk_frozen BK212.out 2
            have hns17_0 := NB207_212.out
            have hms17_0 := NB212_207.out
            refine skip_ (w1 := ?_) (by rfl) rfl ?_ ?_
            rotate_left
            · go_simp
              rfl
            refine hK.out _ _ ?_
            clear hK K
            refine done_ (by kernel_rfl) ?_
            try go_wp2
            go_roundg k1
            case measure => have := HK1.out; omega
            case rel => exact ⟨(wrap64 (x15_1 + 1)), (t217), (t218), (t219), (by first | rfl | (simp; done) | (simp [*]; done)), H', ⟨by have := HK1.out; omega⟩, ⟨by (with_reducible repeat (first | apply Kd.R_alloc | apply Kd.R_drewN | apply Kd.R_drew)); exact Kd.R_mono (Kd.R_far (p := ⟨gb212, 2, none⟩) (Kd.R_far (p := ⟨gb212, 1, none⟩) (Kd.R_far (p := ⟨gb212, 0, none⟩) (Kd.R_types HO_13.out BK212.out (by decide)) (fun _ hk => hk.2) (.bool t217)) (fun _ hk => hk.2) (.int .u64 t218)) (fun _ hk => hk.2) (.int .u64 t219)) (fun _ hk => trivial)⟩, ⟨by (with_reducible repeat (first | refine blk_drewN ?_ _ | refine blk_drew ?_ | refine blk_alloc ?_ _)); refine blk_far ?_ NB207_212.out _; (with_reducible repeat (first | refine blk_drewN ?_ _ | refine blk_drew ?_ | refine blk_alloc ?_ _)); refine blk_far ?_ NB207_212.out _; (with_reducible repeat (first | refine blk_drewN ?_ _ | refine blk_drew ?_ | refine blk_alloc ?_ _)); refine blk_far ?_ NB207_212.out _; (with_reducible repeat (first | refine blk_drewN ?_ _ | refine blk_drew ?_ | refine blk_alloc ?_ _)); exact BK207.out⟩, ⟨by (with_reducible repeat (first | refine blk_drewN ?_ _ | refine blk_drew ?_ | refine blk_alloc ?_ _)); refine blk_put (cs := #[.bool t217, .int .u64 t218, .int .u64 x213002_1]) ?_ 2 _ rfl; (with_reducible repeat (first | refine blk_drewN ?_ _ | refine blk_drew ?_ | refine blk_alloc ?_ _)); refine blk_put (cs := #[.bool t217, .int .u64 x213001_1, .int .u64 x213002_1]) ?_ 1 _ rfl; (with_reducible repeat (first | refine blk_drewN ?_ _ | refine blk_drew ?_ | refine blk_alloc ?_ _)); refine blk_put (cs := #[.bool x213000_1, .int .u64 x213001_1, .int .u64 x213002_1]) ?_ 0 _ rfl; (with_reducible repeat (first | refine blk_drewN ?_ _ | refine blk_drew ?_ | refine blk_alloc ?_ _)); exact BK212.out⟩, ⟨by repeat (first | (with_reducible first | exact HB.out | apply below_alloc | apply pw_below_drewN | apply below_drew1 | refine below_set ?_ GE207.out | refine below_set ?_ GE212.out) | exact HB.out)⟩⟩
          · rw [if_neg c9] at H
            exact absurd H (by simp)
        · rw [if_neg c8] at H
          exact absurd H (by simp)
      · rw [if_neg c7] at H
        have c7b0 : decide (x15_1 < (t208.length : Int)) = false := decide_eq_false c7
        clear c7
        replace H := Option.bind_eq_some_iff.mp H
        obtain ⟨⟨t220, t221⟩, A180, H⟩ := H
        replace H : (some (t220, t221)) = some (r1, r2) := H
        have A18 := Aside0.mk A180
        clear A180
        simp only [Option.some.injEq, Prod.mk.injEq] at H
        obtain ⟨rfl, rfl⟩ := H
        have hnb19 := NB212_207.out
        have hnc19 := NB207_212.out
        have hcz20_0 : wr.cell? ⟨gb212, 0, none⟩ = some (.bool x213000_1) := (blk_cell BK212.out 0).trans rfl
        have hcz20_1 : wr.cell? ⟨gb212, 1, none⟩ = some (.int .u64 x213001_1) := (blk_cell BK212.out 1).trans rfl
        have hcz20_2 : wr.cell? ⟨gb212, 2, none⟩ = some (.int .u64 x213002_1) := (blk_cell BK212.out 2).trans rfl
        have hfz20_0 := blk_frozen BK212.out 0
        have hfz20_1 := blk_frozen BK212.out 1
        have hfz20_2 := blk_frozen BK212.out 2
        go_wp2_with (first | ((with_reducible refine gate_callee (f := 83) rfl ?_); refine goesL_ (some 26) rfl rfl Try.func83 (by kernel_rfl) rfl #[.agg #[.bool x213000_1, .int .u64 x213001_1, .int .u64 x213002_1], .bool t209] rfl (by (try simp only [List.map_toArray, List.map_cons, List.map_nil]); first | done | rfl | (simp only [List.length_drop, List.length_take]; rfl)) ?_; (with_reducible refine (fixed_exact_fit.calls k1 x213000_1 x213001_1 x213002_1 t209 t220 t221 _ A18.out).mono ?_); rintro e w21 ⟨rfl, hb⟩; refine ⟨_, rfl, ?_⟩; have n0_ := Aside0.mk (Kd.R_below (by (with_reducible repeat (first | apply Kd.R_alloc | apply Kd.R_drewN | apply Kd.R_drew)); exact HO_13.out) hb); have n1_ := Aside0.mk (blk_below (g := gb207) (o := .cells #[.int .i64 0, .bool false] 23 (0, 0)) (by (with_reducible repeat (first | refine blk_drewN ?_ _ | refine blk_drew ?_ | refine blk_alloc ?_ _)); exact BK207.out) hb); have n2_ := Aside0.mk (blk_below (g := gb212) (o := .cells #[.bool x213000_1, .int .u64 x213001_1, .int .u64 x213002_1] 60 (0, 0)) (by (with_reducible repeat (first | refine blk_drewN ?_ _ | refine blk_drew ?_ | refine blk_alloc ?_ _)); exact BK212.out) hb); have n3_ := Aside0.mk (below_step (by repeat (first | (with_reducible first | exact HB.out | apply below_alloc | apply pw_below_drewN | apply below_drew1 | refine below_set ?_ GE207.out | refine below_set ?_ GE212.out) | exact HB.out)) hb); clear HO_13; clear BK207; clear BK212; clear HB; have HO_13 := n0_; have BK207 := n1_; have BK212 := n2_; have HB := n3_; clear n0_ n1_ n2_ n3_; (try clear hb); (try clear hb2); (try clear hk); (try clear hi); have hcz22_0 : w21.cell? ⟨gb207, 0, none⟩ = some (.int .i64 0) := (blk_cell BK207.out 0).trans rfl; have hcz22_1 : w21.cell? ⟨gb207, 1, none⟩ = some (.bool false) := (blk_cell BK207.out 1).trans rfl; have hfz22_0 := blk_frozen BK207.out 0; have hfz22_1 := blk_frozen BK207.out 1))
        refine bodyPost_ret (results_cell_row rfl _ _ gb207 23 #[.int .i64 t220, .bool t221] (0, 0) _ rfl (by (with_reducible repeat (first | refine blk_drewN ?_ _ | refine blk_drew ?_ | refine blk_alloc ?_ _)); refine blk_put (cs := #[.int .i64 t220, .bool false]) ?_ 1 _ rfl; (with_reducible repeat (first | refine blk_drewN ?_ _ | refine blk_drew ?_ | refine blk_alloc ?_ _)); refine blk_put (cs := #[.int .i64 0, .bool false]) ?_ 0 _ rfl; (with_reducible repeat (first | refine blk_drewN ?_ _ | refine blk_drew ?_ | refine blk_alloc ?_ _)); exact BK207.out) Try.underlying23 rfl (by kernel_rfl)) rfl ?_
        exact ⟨by first | rfl | (simp [errW_none, errW_some] <;> rfl) | (simp [*, errW_none, errW_some] <;> rfl), by repeat (first | (with_reducible first | exact HB.out | apply below_alloc | apply pw_below_drewN | apply below_drew1 | refine below_set ?_ GE207.out | refine below_set ?_ GE212.out) | exact HB.out)⟩
def fixed_Add.f (k : Nat) (a0_0 : Int) (a0_1 : Bool) (a1_0 : Int) (a1_1 : Bool) : Option (Int × Bool) := (fixed_Sum.f k (([(⟨a0_0, a0_1⟩ : S23), (⟨a1_0, a1_1⟩ : S23)] : List (S23)))).bind fun bt228 => (some (bt228.1, bt228.2))
set_option maxHeartbeats 8000000 in
set_option maxRecDepth 100000 in
theorem fixed_Add.calls (k : Nat) (a0_0 : Int) (a0_1 : Bool) (a1_0 : Int) (a1_1 : Bool) (r1 : Int) (r2 : Bool) (w : World) (h : fixed_Add.f k a0_0 a0_1 a1_0 a1_1 = some (r1, r2)) :
    Calls Try.prog 25 #[.agg #[.int .i64 a0_0, .bool a0_1], .agg #[.int .i64 a1_0, .bool a1_1]] w fun e w' => e = .returned (.agg #[.int .i64 r1, .bool r2]) ∧ Below w.heap.size w w' := by
  have hu23 := Try.underlying23
  have HB := Aside0.mk (Below.refl w.heap.size w)
  have H : ((fixed_Sum.f k (([(⟨a0_0, a0_1⟩ : S23), (⟨a1_0, a1_1⟩ : S23)] : List (S23)))).bind fun bt228 => (some (bt228.1, bt228.2))) = some (r1, r2) := h
  clear h
  obtain ⟨y225, hy225⟩ : ∃ y_ : List (S23), y_ = (([(⟨a0_0, a0_1⟩ : S23), (⟨a1_0, a1_1⟩ : S23)] : List (S23))) := ⟨_, rfl⟩
  replace H : ((fixed_Sum.f k y225).bind fun bt228 => (some (bt228.1, bt228.2))) = some (r1, r2) := by first | (rw [hy225]; with_reducible exact H) | (have H2_ := (Option.bind_some _ _).symm.trans H; rw [hy225]; with_reducible exact H2_) | (have H2_ := (Option.bind_some _ _).symm.trans H; with_reducible exact H2_) | with_reducible exact H | (rw [hy225]; exact H) | exact H
  have Ny225 := Aside0.mk hy225
  clear hy225
  replace H := Option.bind_eq_some_iff.mp H
  obtain ⟨⟨t228, t229⟩, A30, H⟩ := H
  replace H : (some (t228, t229)) = some (r1, r2) := H
  have A3 := Aside0.mk A30
  clear A30
  simp only [Option.some.injEq, Prod.mk.injEq] at H
  obtain ⟨rfl, rfl⟩ := H
  go_enter Try.func25, Try.ntmps25
  go_wp2_with (first | ((with_reducible refine gate_dst (N := 2) rfl ?_); refine box_event ?hg (N := 2) ?hd (cs := #[.int .i64 a0_0, .bool a0_1]) (t := 23) ?hr ?_; (case hd => rfl); (case hg => rfl); (case hr => first | (go_simp; done) | (go_simp; rfl)); intro gb222 hg w4 hbox hb; have n0_ := Aside0.mk (below_step (by repeat (first | (with_reducible first | exact HB.out | apply below_alloc | apply pw_below_drewN | apply below_drew1) | exact HB.out)) hb); have n1_ := Aside0.mk (hbox); have n2_ := Aside0.mk ((by rw [hg]; exact (below_size (by repeat (first | (with_reducible first | exact HB.out | apply below_alloc | apply pw_below_drewN | apply below_drew1) | exact HB.out))) : w.heap.size ≤ gb222)); have n3_ := Aside0.mk ((by rw [hg]; exact (below_size (by repeat (first | (with_reducible first | exact HB.out | apply below_alloc | apply pw_below_drewN | apply below_drew1) | exact HB.out))) : w.heap.size ≤ gb222)); clear HB; have HB := n0_; have BK222 := n1_; have GW222 := n2_; have GE222 := n3_; clear n0_ n1_ n2_ n3_; clear hb hbox hg) | ((with_reducible refine gate_dst (N := 3) rfl ?_); refine box_event ?hg (N := 3) ?hd (cs := #[.int .i64 a1_0, .bool a1_1]) (t := 23) ?hr ?_; (case hd => rfl); (case hg => rfl); (case hr => first | (go_simp; done) | (go_simp; rfl)); intro gb223 hg w5 hbox hb; have n0_ := Aside0.mk (blk_below (g := gb222) (o := .cells #[.int .i64 a0_0, .bool a0_1] 23 (0, 0)) (by (with_reducible repeat (first | refine blk_drewN ?_ _ | refine blk_drew ?_ | refine blk_alloc ?_ _)); exact BK222.out) hb); have n1_ := Aside0.mk (below_step (by repeat (first | (with_reducible first | exact HB.out | apply below_alloc | apply pw_below_drewN | apply below_drew1 | refine below_set ?_ GE222.out) | exact HB.out)) hb); have n2_ := Aside0.mk (hbox); have n3_ := Aside0.mk ((by rw [hg]; exact (below_size (by repeat (first | (with_reducible first | exact HB.out | apply below_alloc | apply pw_below_drewN | apply below_drew1 | refine below_set ?_ GE222.out) | exact HB.out))) : w.heap.size ≤ gb223)); have n4_ := Aside0.mk ((by rw [hg]; exact (below_size (by repeat (first | (with_reducible first | exact HB.out | apply below_alloc | apply pw_below_drewN | apply below_drew1 | refine below_set ?_ GE222.out) | exact HB.out))) : w.heap.size ≤ gb223)); have n5_ := Aside0.mk ((by rw [hg]; exact Nat.ne_of_lt (blk_lt (g := gb222) (o := .cells #[.int .i64 a0_0, .bool a0_1] 23 (0, 0)) (by (with_reducible repeat (first | refine blk_drewN ?_ _ | refine blk_drew ?_ | refine blk_alloc ?_ _)); exact BK222.out)) : gb222 ≠ gb223)); have n6_ := Aside0.mk ((by rw [hg]; exact Nat.ne_of_gt (blk_lt (g := gb222) (o := .cells #[.int .i64 a0_0, .bool a0_1] 23 (0, 0)) (by (with_reducible repeat (first | refine blk_drewN ?_ _ | refine blk_drew ?_ | refine blk_alloc ?_ _)); exact BK222.out)) : gb223 ≠ gb222)); clear BK222; clear HB; have BK222 := n0_; have HB := n1_; have BK223 := n2_; have GW223 := n3_; have GE223 := n4_; have NB222_223 := n5_; have NB223_222 := n6_; clear n0_ n1_ n2_ n3_ n4_ n5_ n6_; clear hb hbox hg) | ((with_reducible refine gate_dst (N := 4) rfl ?_); refine box_event ?hg (N := 4) ?hd (cs := #[.int .i64 0, .bool false]) (t := 23) ?hr ?_; (case hd => rfl); (case hg => rfl); (case hr => first | (go_simp; done) | (go_simp; rfl)); intro gb224 hg w6 hbox hb; have n0_ := Aside0.mk (blk_below (g := gb222) (o := .cells #[.int .i64 a0_0, .bool a0_1] 23 (0, 0)) (by (with_reducible repeat (first | refine blk_drewN ?_ _ | refine blk_drew ?_ | refine blk_alloc ?_ _)); exact BK222.out) hb); have n1_ := Aside0.mk (blk_below (g := gb223) (o := .cells #[.int .i64 a1_0, .bool a1_1] 23 (0, 0)) (by (with_reducible repeat (first | refine blk_drewN ?_ _ | refine blk_drew ?_ | refine blk_alloc ?_ _)); exact BK223.out) hb); have n2_ := Aside0.mk (below_step (by repeat (first | (with_reducible first | exact HB.out | apply below_alloc | apply pw_below_drewN | apply below_drew1 | refine below_set ?_ GE222.out | refine below_set ?_ GE223.out) | exact HB.out)) hb); have n3_ := Aside0.mk (hbox); have n4_ := Aside0.mk ((by rw [hg]; exact (below_size (by repeat (first | (with_reducible first | exact HB.out | apply below_alloc | apply pw_below_drewN | apply below_drew1 | refine below_set ?_ GE222.out | refine below_set ?_ GE223.out) | exact HB.out))) : w.heap.size ≤ gb224)); have n5_ := Aside0.mk ((by rw [hg]; exact (below_size (by repeat (first | (with_reducible first | exact HB.out | apply below_alloc | apply pw_below_drewN | apply below_drew1 | refine below_set ?_ GE222.out | refine below_set ?_ GE223.out) | exact HB.out))) : w.heap.size ≤ gb224)); have n6_ := Aside0.mk ((by rw [hg]; exact Nat.ne_of_lt (blk_lt (g := gb222) (o := .cells #[.int .i64 a0_0, .bool a0_1] 23 (0, 0)) (by (with_reducible repeat (first | refine blk_drewN ?_ _ | refine blk_drew ?_ | refine blk_alloc ?_ _)); exact BK222.out)) : gb222 ≠ gb224)); have n7_ := Aside0.mk ((by rw [hg]; exact Nat.ne_of_gt (blk_lt (g := gb222) (o := .cells #[.int .i64 a0_0, .bool a0_1] 23 (0, 0)) (by (with_reducible repeat (first | refine blk_drewN ?_ _ | refine blk_drew ?_ | refine blk_alloc ?_ _)); exact BK222.out)) : gb224 ≠ gb222)); have n8_ := Aside0.mk ((by rw [hg]; exact Nat.ne_of_lt (blk_lt (g := gb223) (o := .cells #[.int .i64 a1_0, .bool a1_1] 23 (0, 0)) (by (with_reducible repeat (first | refine blk_drewN ?_ _ | refine blk_drew ?_ | refine blk_alloc ?_ _)); exact BK223.out)) : gb223 ≠ gb224)); have n9_ := Aside0.mk ((by rw [hg]; exact Nat.ne_of_gt (blk_lt (g := gb223) (o := .cells #[.int .i64 a1_0, .bool a1_1] 23 (0, 0)) (by (with_reducible repeat (first | refine blk_drewN ?_ _ | refine blk_drew ?_ | refine blk_alloc ?_ _)); exact BK223.out)) : gb224 ≠ gb223)); clear BK222; clear BK223; clear HB; have BK222 := n0_; have BK223 := n1_; have HB := n2_; have BK224 := n3_; have GW224 := n4_; have GE224 := n5_; have NB222_224 := n6_; have NB224_222 := n7_; have NB223_224 := n8_; have NB224_223 := n9_; clear n0_ n1_ n2_ n3_ n4_ n5_ n6_ n7_ n8_ n9_; clear hb hbox hg; have hnb7 := NB222_223.out; have hnc7 := NB223_222.out; have hnb8 := NB222_224.out; have hnc8 := NB224_222.out; have hcz9_0 : w6.cell? ⟨gb222, 0, none⟩ = some (.int .i64 a0_0) := (blk_cell BK222.out 0).trans rfl; have hcz9_1 : w6.cell? ⟨gb222, 1, none⟩ = some (.bool a0_1) := (blk_cell BK222.out 1).trans rfl; have hfz9_0 := blk_frozen BK222.out 0; have hfz9_1 := blk_frozen BK222.out 1; have hnb10 := NB223_224.out; have hnc10 := NB224_223.out; have hcz11_0 : w6.cell? ⟨gb223, 0, none⟩ = some (.int .i64 a1_0) := (blk_cell BK223.out 0).trans rfl; have hcz11_1 : w6.cell? ⟨gb223, 1, none⟩ = some (.bool a1_1) := (blk_cell BK223.out 1).trans rfl; have hfz11_0 := blk_frozen BK223.out 0; have hfz11_1 := blk_frozen BK223.out 1) | ((with_reducible refine gate_dst (N := 7) rfl ?_); refine Kd.R_lit k23 _ 23 ?hg (N := 7) ?hd (xs := ([(⟨a0_0, a0_1⟩ : S23), (⟨a1_0, a1_1⟩ : S23)] : List (S23))) (inner := [.int .i64 a0_0, .bool a0_1, .int .i64 a1_0, .bool a1_1]) (ok := fun _ => True) (okp := fun _ => True) ?hr ?hp (fun _ hk => hk) trivial (Below.refl _ _) (Nat.le_refl _) (by simp) ?_; (case hd => rfl); (case hg => rfl); (case hr => first | (go_simp; done) | (go_simp; rfl)); (case hp => exact (Reps.c2 (show Kd.M k23 _ _ _ (⟨a0_0, a0_1⟩ : S23) [.int .i64 a0_0, .bool a0_1] from (k23_mkM _ _ _ (⟨a0_0, a0_1⟩ : S23) )) (Reps.c2 (show Kd.M k23 _ _ _ (⟨a1_0, a1_1⟩ : S23) [.int .i64 a1_0, .bool a1_1] from (k23_mkM _ _ _ (⟨a1_0, a1_1⟩ : S23) )) (Reps.none _ _)))); intro v226 w12 ho13 hb hg_ hnew_; clear hg_ hnew_; (first | rw [← Ny225.out] at ho13 | (simp only [Int.reduceToNat] at ho13; rw [← Ny225.out] at ho13)); have n0_ := Aside0.mk (Kd.R_lower (Kd.R_newB (Kd.R_newB (Kd.R_newB ho13 (g := gb222) (o := .cells #[.int .i64 a0_0, .bool a0_1] 23 (0, 0)) (by (with_reducible repeat (first | refine blk_drewN ?_ _ | refine blk_drew ?_ | refine blk_alloc ?_ _)); exact BK222.out)) (g := gb223) (o := .cells #[.int .i64 a1_0, .bool a1_1] 23 (0, 0)) (by (with_reducible repeat (first | refine blk_drewN ?_ _ | refine blk_drew ?_ | refine blk_alloc ?_ _)); exact BK223.out)) (g := gb224) (o := .cells #[.int .i64 0, .bool false] 23 (0, 0)) (by (with_reducible repeat (first | refine blk_drewN ?_ _ | refine blk_drew ?_ | refine blk_alloc ?_ _)); exact BK224.out)) (below_size (by repeat (first | (with_reducible first | exact HB.out | apply below_alloc | apply pw_below_drewN | apply below_drew1 | refine below_set ?_ GE222.out | refine below_set ?_ GE223.out | refine below_set ?_ GE224.out) | exact HB.out)))); have n1_ := Aside0.mk (blk_below (g := gb222) (o := .cells #[.int .i64 a0_0, .bool a0_1] 23 (0, 0)) (by (with_reducible repeat (first | refine blk_drewN ?_ _ | refine blk_drew ?_ | refine blk_alloc ?_ _)); exact BK222.out) hb); have n2_ := Aside0.mk (blk_below (g := gb223) (o := .cells #[.int .i64 a1_0, .bool a1_1] 23 (0, 0)) (by (with_reducible repeat (first | refine blk_drewN ?_ _ | refine blk_drew ?_ | refine blk_alloc ?_ _)); exact BK223.out) hb); have n3_ := Aside0.mk (blk_below (g := gb224) (o := .cells #[.int .i64 0, .bool false] 23 (0, 0)) (by (with_reducible repeat (first | refine blk_drewN ?_ _ | refine blk_drew ?_ | refine blk_alloc ?_ _)); exact BK224.out) hb); have n4_ := Aside0.mk (below_step (by repeat (first | (with_reducible first | exact HB.out | apply below_alloc | apply pw_below_drewN | apply below_drew1 | refine below_set ?_ GE222.out | refine below_set ?_ GE223.out | refine below_set ?_ GE224.out) | exact HB.out)) hb); clear BK222; clear BK223; clear BK224; clear HB; have HO227 := n0_; have BK222 := n1_; have BK223 := n2_; have BK224 := n3_; have HB := n4_; clear n0_ n1_ n2_ n3_ n4_; clear hb ho13; obtain ⟨Ao14, co14, eo14⟩ := Kd.R_slice HO227.out; subst eo14) | ((with_reducible refine gate_callee (f := 32) rfl ?_); refine goesL_ (some 8) rfl rfl Try.func32 (by kernel_rfl) rfl #[.slice Ao14 y225.length co14] rfl (by (try simp only [List.map_toArray, List.map_cons, List.map_nil]); first | done | rfl | (simp only [List.length_drop, List.length_take]; rfl)) ?_; (with_reducible refine (fixed_Sum.calls k _ _ y225 t228 t229 _ ?side1 ?side2 A3.out).mono ?_); (case side1 => repeat (first | exact (Kd.R_reads' HO227.out).2.2 | (with_reducible refine Kd.C_alloc ?_ _) | (with_reducible refine Kd.C_drewN ?_ _) | (with_reducible refine Kd.C_drew ?_))); (case side2 => exact (Kd.R_reads' HO227.out).2.1); rintro e w15 ⟨rfl, hb⟩; refine ⟨_, rfl, ?_⟩; have n0_ := Aside0.mk (Kd.R_below (by (with_reducible repeat (first | apply Kd.R_alloc | apply Kd.R_drewN | apply Kd.R_drew)); exact HO227.out) hb); have n1_ := Aside0.mk (blk_below (g := gb222) (o := .cells #[.int .i64 a0_0, .bool a0_1] 23 (0, 0)) (by (with_reducible repeat (first | refine blk_drewN ?_ _ | refine blk_drew ?_ | refine blk_alloc ?_ _)); exact BK222.out) hb); have n2_ := Aside0.mk (blk_below (g := gb223) (o := .cells #[.int .i64 a1_0, .bool a1_1] 23 (0, 0)) (by (with_reducible repeat (first | refine blk_drewN ?_ _ | refine blk_drew ?_ | refine blk_alloc ?_ _)); exact BK223.out) hb); have n3_ := Aside0.mk (blk_below (g := gb224) (o := .cells #[.int .i64 0, .bool false] 23 (0, 0)) (by (with_reducible repeat (first | refine blk_drewN ?_ _ | refine blk_drew ?_ | refine blk_alloc ?_ _)); exact BK224.out) hb); have n4_ := Aside0.mk (below_step (by repeat (first | (with_reducible first | exact HB.out | apply below_alloc | apply pw_below_drewN | apply below_drew1 | refine below_set ?_ GE222.out | refine below_set ?_ GE223.out | refine below_set ?_ GE224.out) | exact HB.out)) hb); clear HO227; clear BK222; clear BK223; clear BK224; clear HB; have HO227 := n0_; have BK222 := n1_; have BK223 := n2_; have BK224 := n3_; have HB := n4_; clear n0_ n1_ n2_ n3_ n4_; (try clear hb); (try clear hb2); (try clear hk); (try clear hi); have hcz16_0 : w15.cell? ⟨gb224, 0, none⟩ = some (.int .i64 0) := (blk_cell BK224.out 0).trans rfl; have hcz16_1 : w15.cell? ⟨gb224, 1, none⟩ = some (.bool false) := (blk_cell BK224.out 1).trans rfl; have hfz16_0 := blk_frozen BK224.out 0; have hfz16_1 := blk_frozen BK224.out 1))
  refine bodyPost_ret (results_cell_row rfl _ _ gb224 23 #[.int .i64 t228, .bool t229] (0, 0) _ rfl (by (with_reducible repeat (first | refine blk_drewN ?_ _ | refine blk_drew ?_ | refine blk_alloc ?_ _)); refine blk_put (cs := #[.int .i64 t228, .bool false]) ?_ 1 _ rfl; (with_reducible repeat (first | refine blk_drewN ?_ _ | refine blk_drew ?_ | refine blk_alloc ?_ _)); refine blk_put (cs := #[.int .i64 0, .bool false]) ?_ 0 _ rfl; (with_reducible repeat (first | refine blk_drewN ?_ _ | refine blk_drew ?_ | refine blk_alloc ?_ _)); exact BK224.out) Try.underlying23 rfl (by kernel_rfl)) rfl ?_
  exact ⟨by first | rfl | (simp [errW_none, errW_some] <;> rfl) | (simp [*, errW_none, errW_some] <;> rfl), by repeat (first | (with_reducible first | exact HB.out | apply below_alloc | apply pw_below_drewN | apply below_drew1 | refine below_set ?_ GE222.out | refine below_set ?_ GE223.out | refine below_set ?_ GE224.out) | exact HB.out)⟩
end Go.Proofs.Ytenpiaafkmfjfaa.B

end
section
namespace Go.Proofs.Ytenpiaafkmfjfaa.B
open Go.RowKit Go.Proofs.YtenpiaafkmfjfaaW.PrintWords Go.Proofs.YtenpiaafkmfjfaaW.PrintLast Go.Proofs.YtenpiaafkmfjfaaW.PrintMore
theorem sv_snd {v : Int} (h1 : -9223372036854775808 ≤ v) (h2 : v ≤ 9223372036854775807) : Snd (sv v) := by
  unfold sv Snd; split <;> omega
theorem of_ex {v : Int} (h : Snd v) : ∃ n lo, fixed_of.f v = some (n, lo, 0) ∧ Ex n lo 0 v := by
  unfold Snd at h
  unfold fixed_of.f
  by_cases hv : v < 0
  · rw [if_pos hv]
    refine ⟨_, _, rfl, ?_⟩
    have e : IntKind.u64.wrap (-(IntKind.u64.wrap v)) = -v := by rw [IntKind.wrap_u64, IntKind.wrap_u64]; omega
    rw [e]
    exact ⟨by omega, by omega, by omega, by omega, fun h => absurd h (by decide), fun _ => by omega⟩
  · rw [if_neg hv]
    refine ⟨_, _, rfl, ?_⟩
    rw [u64_id (by omega) (by omega)]
    exact ⟨by omega, by omega, by omega, by omega, fun _ => by omega, fun h => absurd h (by decide)⟩
theorem fit_ex {n : Bool} {lo hi x : Int} (h : Ex n lo hi x) (f : Bool) (k : Nat) (hk : 1 ≤ k) : fixed_exact_fit.f k n lo hi f = some (fitV x, fitF x f) := by
  obtain ⟨k, rfl⟩ : ∃ m, k = m + 1 := ⟨k - 1, by omega⟩
  obtain ⟨h1, h2, h3, h4, hp, hm⟩ := h
  unfold fixed_exact_fit.f
  by_cases h0 : hi = 0
  · subst h0
    rw [if_pos rfl]
    simp only [fixed_exact_fit.j0]
    by_cases hl : lo ≤ 9223372036854775807
    · have ew : wrap64 lo = lo := wrap64_id (by omega) (by omega)
      rw [if_pos (decide_eq_true hl), ew]
      have hs : Snd x := by
        unfold Snd
        cases n
        · have := hp rfl; omega
        · have := hm rfl; omega
      rw [fitV_id hs, fitF_id hs]
      cases n
      · have := hp rfl
        simp only [Bool.false_eq_true, if_false]
        rw [show lo = x by omega]
      · have := hm rfl
        simp only [if_true]
        rw [wrap64_id (by omega) (by omega), show -lo = x by omega]
    · rw [if_neg (by simpa using hl)]
      cases n
      · have := hp rfl
        simp only [Bool.false_eq_true, if_false]
        unfold fitV fitF
        rw [if_pos (by omega), if_pos (by omega)]
      · have := hm rfl
        simp only [if_true]
        unfold fitV fitF
        rw [if_neg (by omega), if_pos (by omega), if_neg (by omega), if_pos (by omega), wrap64_id (by omega) (by omega)]
  · rw [if_neg h0]
    simp only [fixed_exact_fit.j0]
    rw [if_neg (by decide)]
    cases n
    · have := hp rfl
      simp only [Bool.false_eq_true, if_false]
      unfold fitV fitF
      rw [if_pos (by omega), if_pos (by omega)]
    · have := hm rfl
      simp only [if_true]
      unfold fitV fitF
      rw [if_neg (by omega), if_pos (by omega), if_neg (by omega), if_pos (by omega), wrap64_id (by omega) (by omega)]
theorem mul64_f (x y : Nat) (hx : x < 18446744073709551616) (hy : y < 18446744073709551616) : bits_Mul64.f x y = some (((x * y / 18446744073709551616 : Nat) : Int), ((x * y % 18446744073709551616 : Nat) : Int)) := by
  obtain ⟨bd, bt, bw, hhi⟩ := Lib.mul64_hi x y hx hy
  have ba := Lib.half_mul_le (a := x / 4294967296) (b := y / 4294967296) (by omega) (by omega)
  have bb := Lib.half_mul_le (a := x / 4294967296) (b := y % 4294967296) (by omega) (by omega)
  have bc := Lib.half_mul_le (a := x % 4294967296) (b := y / 4294967296) (by omega) (by omega)
  have ba' : x / 4294967296 * (y / 4294967296) < 18446744073709551616 := by omega
  have bb' : x / 4294967296 * (y % 4294967296) < 18446744073709551616 := by omega
  have bc' : x % 4294967296 * (y / 4294967296) < 18446744073709551616 := by omega
  have bh1 : x / 4294967296 * (y / 4294967296) + (x / 4294967296 * (y % 4294967296) + x % 4294967296 * (y % 4294967296) / 4294967296) / 4294967296 < 18446744073709551616 := by omega
  have bh : x / 4294967296 * (y / 4294967296) + (x / 4294967296 * (y % 4294967296) + x % 4294967296 * (y % 4294967296) / 4294967296) / 4294967296 + ((x / 4294967296 * (y % 4294967296) + x % 4294967296 * (y % 4294967296) / 4294967296) % 4294967296 + x % 4294967296 * (y / 4294967296)) / 4294967296 < 18446744073709551616 := by omega
  unfold bits_Mul64.f
  simp only [Mul64.maskN x hx, Mul64.maskN y hy, Mul64.divN, Mul64.mulN, Mul64.addN, Mul64.wrapN _ bd, Mul64.wrapN _ bb', Mul64.wrapN _ bt, Mul64.maskN _ bt, Mul64.wrapN _ bc', Mul64.wrapN _ bw, Mul64.wrapN _ ba', Mul64.wrapN _ bh1, Mul64.wrapN _ bh, Mul64.wrapM (x * y)]
  rw [hhi]
end Go.Proofs.Ytenpiaafkmfjfaa.B

end
section
namespace Go.Proofs.Ytenpiaafkmfjfaa.B
open Go.RowKit Go.Proofs.YtenpiaafkmfjfaaW.PrintWords Go.Proofs.YtenpiaafkmfjfaaW.PrintLast Go.Proofs.YtenpiaafkmfjfaaW.PrintMore
attribute [local go_sem] max2_int min2_int max_two min_two max_three min_three max_four min_four
set_option linter.unusedVariables false
set_option linter.unusedSimpArgs false
theorem eqA64 (d : Nat) (w : World) (x0 y0 : Bool) (x1 y1 : Int) (x2 y2 : Int) :
    (Op.equalIn (d + 2) 64 (.agg #[.bool x0, .int .u64 x1, .int .u64 x2]) (.agg #[.bool y0, .int .u64 y1, .int .u64 y2])).run Try.prog w = .ok (x0 == y0 && (x1 == y1 && (x2 == y2))) w := by
  refine eqA_of Try.underlying64 (by kernel_rfl) ?_
  refine eqf_cons (by rfl) (by go_simp; rfl) (by go_simp; rfl) (by go_simp) ?_
  refine eqf_cons (by rfl) (by go_simp; rfl) (by go_simp; rfl) (by go_simp) ?_
  exact eqf_last (by rfl) (by go_simp; rfl) (by go_simp; rfl) (by go_simp)
end Go.Proofs.Ytenpiaafkmfjfaa.B

end
section
namespace Go.Proofs.Ytenpiaafkmfjfaa.B
open Go.RowKit Go.Proofs.YtenpiaafkmfjfaaW.PrintWords Go.Proofs.YtenpiaafkmfjfaaW.PrintLast Go.Proofs.YtenpiaafkmfjfaaW.PrintMore
def I64 (v : Int) : Prop := -9223372036854775808 ≤ v ∧ v ≤ 9223372036854775807
theorem Snd.i64 {v : Int} (h : Snd v) : I64 v := by unfold Snd at h; unfold I64; omega
def sgn3 (x y : Int) : Int := if x < y then -1 else if x = y then 0 else 1
theorem of_f {v : Int} (h : I64 v) : fixed_of.f v = some (decide (v < 0), (v.natAbs : Int), 0) := by
  unfold I64 at h
  unfold fixed_of.f
  by_cases hv : v < 0
  · rw [if_pos hv, decide_eq_true hv]
    have e : IntKind.u64.wrap (-(IntKind.u64.wrap v)) = (v.natAbs : Int) := by rw [IntKind.wrap_u64, IntKind.wrap_u64]; omega
    rw [e]
  · rw [if_neg hv, decide_eq_false hv, u64_id (by omega) (by omega)]
    rw [show (v.natAbs : Int) = v by omega]
theorem abs_mul_le {a b : Int} (ha : I64 a) (hb : I64 b) : a.natAbs * b.natAbs ≤ 85070591730234615865843651857942052864 := by
  unfold I64 at ha hb
  have := Nat.mul_le_mul (show a.natAbs ≤ 9223372036854775808 by omega) (show b.natAbs ≤ 9223372036854775808 by omega)
  omega
theorem mul_sign (a b : Int) : (decide (a < 0) != decide (b < 0)) = true → a * b = -((a.natAbs * b.natAbs : Nat) : Int) := by
  intro h
  rw [Int.natCast_mul]
  by_cases ha : a < 0
  · by_cases hb : b < 0
    · simp [ha, hb] at h
    · rw [show (a.natAbs : Int) = -a by omega, show (b.natAbs : Int) = b by omega, Int.neg_mul, Int.neg_neg]
  · by_cases hb : b < 0
    · rw [show (a.natAbs : Int) = a by omega, show (b.natAbs : Int) = -b by omega, Int.mul_neg, Int.neg_neg]
    · simp [ha, hb] at h
theorem mul_sign' (a b : Int) : (decide (a < 0) != decide (b < 0)) = false → a * b = ((a.natAbs * b.natAbs : Nat) : Int) := by
  intro h
  rw [Int.natCast_mul]
  by_cases ha : a < 0
  · by_cases hb : b < 0
    · rw [show (a.natAbs : Int) = -a by omega, show (b.natAbs : Int) = -b by omega, Int.neg_mul_neg]
    · simp [ha, hb] at h
  · by_cases hb : b < 0
    · simp [ha, hb] at h
    · rw [show (a.natAbs : Int) = a by omega, show (b.natAbs : Int) = b by omega]
theorem ex_nat (n : Bool) (p : Nat) (x : Int) (hp : p ≤ 85070591730234615865843651857942052864) (h1 : n = false → x = (p : Int)) (h2 : n = true → x = -(p : Int)) : Ex n ((p % 18446744073709551616 : Nat) : Int) ((p / 18446744073709551616 : Nat) : Int) x :=
  ⟨by omega, by omega, by omega, by omega, fun e => by have := h1 e; omega, fun e => by have := h2 e; omega⟩
theorem product_ex {a b : Int} (ha : I64 a) (hb : I64 b) : ∃ n lo hi, fixed_product.f a b = some (n, lo, hi) ∧ Ex n lo hi (a * b) := by
  have hp := abs_mul_le ha hb
  unfold fixed_product.f
  rw [of_f ha, of_f hb]
  unfold I64 at ha hb
  simp only [Option.bind_some, mul64_f a.natAbs b.natAbs (by omega) (by omega)]
  exact ⟨_, _, _, rfl, ex_nat _ _ _ hp (mul_sign' a b) (mul_sign a b)⟩
structure Rx (n : Bool) (hi lo x : Int) : Prop where
  ex : Ex n lo hi x
  s : n = decide (x < 0)
theorem add64s_i {x y c : Int} (hx : 0 ≤ x) (hy : 0 ≤ y) (hc : 0 ≤ c) : add64s x y c = (x + y + c) % 18446744073709551616 := by unfold add64s; omega
theorem add64c_i {x y c : Int} (hx : 0 ≤ x) (hy : 0 ≤ y) (hc : 0 ≤ c) : add64c x y c = (x + y + c) / 18446744073709551616 := by unfold add64c; omega
theorem sub64s_i {x y c : Int} (hx : 0 ≤ x) (hy : 0 ≤ y) (hy' : y < 18446744073709551616) (hc : c = 0 ∨ c = 1) : sub64s x y c = (x - y - c) % 18446744073709551616 := by unfold sub64s; omega
theorem sub64c_i {x y c : Int} (hx : 0 ≤ x) (hy : 0 ≤ y) (hc : c = 0 ∨ c = 1) : sub64c x y c = if x < y + c then 1 else 0 := by
  unfold sub64c
  by_cases h : x < y + c
  · rw [if_pos h, if_pos (by omega)]; rfl
  · rw [if_neg h, if_neg (by omega)]; rfl
theorem compare_u (a b : Int) : cmp_Compare_uint64.f a b = some (sgn3 a b) := by
  unfold cmp_Compare_uint64.f cmp_isNaN_uint64.f sgn3
  simp only [bne_self_eq_false, Option.bind_some, Bool.false_eq_true, if_false]
  by_cases h : a < b
  · rw [if_pos h, if_pos h]
  · rw [if_neg h, if_neg h]
    by_cases h2 : a = b
    · rw [if_pos h2, if_neg (by omega)]
    · rw [if_neg h2, if_pos (by omega)]
theorem compare_i (a b : Int) : cmp_Compare_int64.f a b = some (sgn3 a b) := by
  unfold cmp_Compare_int64.f cmp_isNaN_int64.f sgn3
  simp only [bne_self_eq_false, Option.bind_some, Bool.false_eq_true, if_false]
  by_cases h : a < b
  · rw [if_pos h, if_pos h]
  · rw [if_neg h, if_neg h]
    by_cases h2 : a = b
    · rw [if_pos h2, if_neg (by omega)]
    · rw [if_neg h2, if_pos (by omega)]
theorem or_two (k : Nat) (hk : 3 ≤ k) (a b : Int) : cmp_Or_int.f k [a, b] = some (if a = 0 then b else a) := by
  obtain ⟨k, rfl⟩ : ∃ m, k = m + 3 := ⟨k - 3, by omega⟩
  unfold cmp_Or_int.f
  rw [cmp_Or_int.l0]
  simp only [show (([a, b] : List Int).length : Int) = 2 by rfl, show rd [a, b] 0 = a by rfl, show ((0 : Int) < 2) by decide, show ((0 : Int) ≤ 0) by decide, if_true]
  by_cases ha : a = 0
  · subst ha
    rw [if_pos rfl, if_pos rfl, show wrap64 (0 + 1) = 1 from wrap64_id (by decide) (by decide), cmp_Or_int.l0]
    simp only [show (([0, b] : List Int).length : Int) = 2 by rfl, show rd [0, b] 1 = b by rfl, show ((1 : Int) < 2) by decide, show ((0 : Int) ≤ 1) by decide, if_true]
    by_cases hb : b = 0
    · subst hb
      rw [if_pos rfl, show wrap64 (1 + 1) = 2 from wrap64_id (by decide) (by decide), cmp_Or_int.l0]
      simp
    · rw [if_neg hb]
  · rw [if_neg ha, if_neg ha]
theorem words_cmp (k : Nat) (hk : 3 ≤ k) {lo1 hi1 lo2 hi2 : Int} (h1 : 0 ≤ lo1) (h2 : lo1 < 18446744073709551616) (h3 : 0 ≤ lo2) (h4 : lo2 < 18446744073709551616) :
    fixed_words_compare.f k lo1 hi1 lo2 hi2 = some (sgn3 (hi1 * 18446744073709551616 + lo1) (hi2 * 18446744073709551616 + lo2)) := by
  unfold fixed_words_compare.f
  simp only [compare_u, Option.bind_some, or_two k hk]
  unfold sgn3
  by_cases a : hi1 < hi2
  · simp only [if_pos a]
    rw [if_neg (by decide), if_pos (by omega)]
  · by_cases b : hi1 = hi2
    · subst b
      simp only [if_neg a, if_true]
      by_cases c : lo1 < lo2
      · rw [if_pos c, if_pos (by omega)]
      · by_cases d : lo1 = lo2
        · rw [if_neg c, if_pos d, if_neg (by omega), if_pos (by omega)]
        · rw [if_neg c, if_neg d, if_neg (by omega), if_neg (by omega)]
    · simp only [if_neg a, if_neg b]
      rw [if_neg (by decide), if_neg (by omega), if_neg (by omega)]
theorem plus_ex (k : Nat) (hk : 3 ≤ k) {n1 n2 : Bool} {lo1 hi1 lo2 hi2 x y : Int} (h : Ex n1 lo1 hi1 x) (g : Ex n2 lo2 hi2 y) (hb : (x + y).natAbs < 170141183460469231731687303715884105728) :
    ∃ n lo hi, fixed_exact_plus.f k n1 lo1 hi1 n2 lo2 hi2 = some (n, lo, hi) ∧ Ex n lo hi (x + y) := by
  have ah := h.abs
  have ag := g.abs
  obtain ⟨a1, a2, a3, a4, ap, am⟩ := h
  obtain ⟨b1, b2, b3, b4, bp, bm⟩ := g
  unfold fixed_exact_plus.f
  by_cases hn : n1 = n2
  · subst hn
    rw [if_pos (by simp)]
    have hs : hi1 * 18446744073709551616 + lo1 + (hi2 * 18446744073709551616 + lo2) < 170141183460469231731687303715884105728 := by
      cases n1
      · have := ap rfl; have := bp rfl; omega
      · have := am rfl; have := bm rfl; omega
    rw [add64c_i a1 b1 (by omega), add64s_i a1 b1 (by omega), add64s_i a3 b3 (by omega), if_pos (by omega)]
    refine ⟨_, _, _, rfl, by omega, by omega, by omega, by omega, fun e => ?_, fun e => ?_⟩
    · have := ap e; have := bp e; omega
    · have := am e; have := bm e; omega
  · rw [if_neg (by simpa using hn), words_cmp k hk a1 a2 b1 b2]
    simp only [Option.bind_some]
    by_cases c : hi1 * 18446744073709551616 + lo1 < hi2 * 18446744073709551616 + lo2
    · rw [show sgn3 (hi1 * 18446744073709551616 + lo1) (hi2 * 18446744073709551616 + lo2) = -1 by unfold sgn3; rw [if_pos c]]
      rw [if_pos (by decide), sub64c_i b1 a1 (Or.inl rfl), sub64s_i b1 a1 a2 (Or.inl rfl)]
      refine ⟨_, _, _, rfl, ?_⟩
      by_cases d : lo2 < lo1 + 0
      · rw [if_pos d, sub64s_i b3 a3 (by omega) (Or.inr rfl)]
        refine ⟨by omega, by omega, by omega, by omega, fun e => ?_, fun e => ?_⟩
        · have := bp e; cases n1
          · exact absurd e.symm hn
          · have := am rfl; omega
        · have := bm e; cases n1
          · have := ap rfl; omega
          · exact absurd e.symm hn
      · rw [if_neg d, sub64s_i b3 a3 (by omega) (Or.inl rfl)]
        refine ⟨by omega, by omega, by omega, by omega, fun e => ?_, fun e => ?_⟩
        · have := bp e; cases n1
          · exact absurd e.symm hn
          · have := am rfl; omega
        · have := bm e; cases n1
          · have := ap rfl; omega
          · exact absurd e.symm hn
    · rw [if_neg (by unfold sgn3; rw [if_neg c]; split <;> decide), sub64c_i a1 b1 (Or.inl rfl), sub64s_i a1 b1 b2 (Or.inl rfl)]
      refine ⟨_, _, _, rfl, ?_⟩
      by_cases d : lo1 < lo2 + 0
      · rw [if_pos d, sub64s_i a3 b3 (by omega) (Or.inr rfl)]
        refine ⟨by omega, by omega, by omega, by omega, fun e => ?_, fun e => ?_⟩
        · have := ap e; cases n2
          · exact absurd e hn
          · have := bm rfl; omega
        · have := am e; cases n2
          · have := bp rfl; omega
          · exact absurd e hn
      · rw [if_neg d, sub64s_i a3 b3 (by omega) (Or.inl rfl)]
        refine ⟨by omega, by omega, by omega, by omega, fun e => ?_, fun e => ?_⟩
        · have := ap e; cases n2
          · exact absurd e hn
          · have := bm rfl; omega
        · have := am e; cases n2
          · have := bp rfl; omega
          · exact absurd e hn
theorem Ex.neg {n : Bool} {lo hi x : Int} (h : Ex n lo hi x) : Ex (!n) lo hi (-x) := by
  obtain ⟨a1, a2, a3, a4, ap, am⟩ := h
  refine ⟨a1, a2, a3, a4, fun e => ?_, fun e => ?_⟩
  · have := am (by simpa using e); omega
  · have := ap (by simpa using e); omega
theorem mul_lo {a b : Int} (ha : I64 a) (hb : I64 b) : -85070591730234615856620279821087277056 ≤ a * b ∧ a * b ≤ 85070591730234615865843651857942052864 := by
  have hp := abs_mul_le ha hb
  refine ⟨?_, ?_⟩
  · by_cases hs : (decide (a < 0) != decide (b < 0)) = true
    · rw [mul_sign a b hs]
      unfold I64 at ha hb
      by_cases h : a < 0
      · have hb0 : ¬ b < 0 := by intro h2; simp [h, h2] at hs
        have := Nat.mul_le_mul (show a.natAbs ≤ 9223372036854775808 by omega) (show b.natAbs ≤ 9223372036854775807 by omega)
        omega
      · have := Nat.mul_le_mul (show a.natAbs ≤ 9223372036854775807 by omega) (show b.natAbs ≤ 9223372036854775808 by omega)
        omega
    · rw [mul_sign' a b (by simpa using hs)]; omega
  · by_cases hs : (decide (a < 0) != decide (b < 0)) = true
    · rw [mul_sign a b hs]; omega
    · rw [mul_sign' a b (by simpa using hs)]; omega
theorem order_f (k : Nat) (hk : 3 ≤ k) {a b c d : Int} (ha : I64 a) (hb : I64 b) (hc : I64 c) (hd : I64 d) : fixed_Order.f k a b c d = some (sgn3 (a * b) (c * d)) := by
  obtain ⟨n1, lo1, hi1, e1, x1⟩ := product_ex ha hb
  obtain ⟨n2, lo2, hi2, e2, x2⟩ := product_ex hc hd
  have m1 := mul_lo ha hb
  have m2 := mul_lo hc hd
  have m : (a * b + -(c * d)).natAbs < 170141183460469231731687303715884105728 := by omega
  obtain ⟨n, lo, hi, e, x⟩ := plus_ex k hk x1 x2.neg m
  unfold fixed_Order.f
  rw [e1, e2]
  simp only [Option.bind_some, e]
  have ax := x.abs
  obtain ⟨p1, p2, p3, p4, pp, pm⟩ := x
  generalize a * b = u at *
  generalize c * d = v at *
  unfold sgn3
  by_cases h0 : u = v
  · rw [if_pos (by rw [show lo = 0 by omega, show hi = 0 by omega]; decide), if_neg (by omega), if_pos h0]
  · rw [if_neg (by intro h; simp at h; omega)]
    cases n
    · have := pp rfl
      rw [if_neg (by decide), if_neg (by omega), if_neg h0]
    · have := pm rfl
      rw [if_pos rfl, if_pos (by omega)]
theorem sv_i64 {v : Int} (h : I64 v) : Snd (sv v) := by unfold I64 at h; exact sv_snd h.1 h.2
theorem floor_f (v : Int) (f : Bool) : fixed_Floor.f v f = some (sv v / 4294967296) := by unfold fixed_Floor.f; rw [sound_f]; rfl
theorem round_f {v : Int} (f : Bool) (h : I64 v) : fixed_Round.f v f = some ((sv v + 2147483648) / 4294967296) := by
  have hs := sv_i64 h
  unfold Snd at hs
  unfold fixed_Round.f
  rw [sound_f]
  simp only [Option.bind_some]
  generalize sv v = u at *
  by_cases hc : u % 4294967296 ≥ 2147483648
  · rw [if_pos hc, wrap64_id (by omega) (by omega)]; congr 1; omega
  · rw [if_neg hc]; congr 1; omega
theorem up_f {n : Bool} {lo : Int} (h0 : 0 ≤ lo) (h1 : lo < 18446744073709551616) : fixed_exact_up.f n lo 0 = some (n, lo % 4294967296 * 4294967296, lo / 4294967296) := by
  unfold fixed_exact_up.f
  rw [u64_id (x := 0 * 4294967296) (by omega) (by omega), or32 0 _ (by omega) (by omega) (by omega) (by omega), IntKind.wrap_u64]
  congr 3 <;> omega
theorem int_f (k : Nat) (hk : 1 ≤ k) {v : Int} (h : I64 v) : fixed_Int.f k v = some (fitV (v * 4294967296), fitF (v * 4294967296) false) := by
  unfold fixed_Int.f
  rw [of_f h]
  unfold I64 at h
  simp only [Option.bind_some]
  rw [up_f (by omega) (by omega)]
  simp only [Option.bind_some]
  rw [fit_ex (x := v * 4294967296) _ false k hk]
  · rfl
  · refine ⟨by omega, by omega, by omega, by omega, fun e => ?_, fun e => ?_⟩
    · have := of_decide_eq_false e; omega
    · have := of_decide_eq_true e; omega
theorem div_two (hi lo d : Nat) (hd : 0 < d) : (hi * 18446744073709551616 + lo) / d = hi / d * 18446744073709551616 + (hi % d * 18446744073709551616 + lo) / d := by
  have e : hi * 18446744073709551616 + lo = d * (hi / d * 18446744073709551616) + (hi % d * 18446744073709551616 + lo) := by
    have := Nat.div_add_mod hi d
    have e2 : d * (hi / d * 18446744073709551616) = d * (hi / d) * 18446744073709551616 := by rw [Nat.mul_assoc]
    rw [e2]
    omega
  rw [e, Nat.mul_add_div hd]
theorem tdiv_abs (x y : Int) : x.tdiv y = if (decide (x < 0) != decide (y < 0)) = true then -((x.natAbs / y.natAbs : Nat) : Int) else ((x.natAbs / y.natAbs : Nat) : Int) := by
  by_cases hx : x < 0
  · have ex : x = -(x.natAbs : Int) := by omega
    by_cases hy : y < 0
    · have ey : y = -(y.natAbs : Int) := by omega
      rw [if_neg (by simp [hx, hy])]
      generalize x.natAbs = m at ex
      generalize y.natAbs = n at ey
      subst ex; subst ey
      rw [Int.neg_tdiv, Int.tdiv_neg, Int.neg_neg, Int.ofNat_tdiv]
    · have ey : y = (y.natAbs : Int) := by omega
      rw [if_pos (by simp [hx, hy])]
      generalize x.natAbs = m at ex
      generalize y.natAbs = n at ey
      subst ex; subst ey
      rw [Int.neg_tdiv, Int.ofNat_tdiv]
  · have ex : x = (x.natAbs : Int) := by omega
    by_cases hy : y < 0
    · have ey : y = -(y.natAbs : Int) := by omega
      rw [if_pos (by simp [hx, hy])]
      generalize x.natAbs = m at ex
      generalize y.natAbs = n at ey
      subst ex; subst ey
      rw [Int.tdiv_neg, Int.ofNat_tdiv]
    · have ey : y = (y.natAbs : Int) := by omega
      rw [if_neg (by simp [hx, hy])]
      generalize x.natAbs = m at ex
      generalize y.natAbs = n at ey
      subst ex; subst ey
      rw [Int.ofNat_tdiv]
theorem two_lt (r d lo : Nat) (h : r < d) (h2 : lo < 18446744073709551616) : (r * 18446744073709551616 + lo) / d < 18446744073709551616 := by
  apply Nat.div_lt_of_lt_mul
  have := Nat.mul_le_mul_right 18446744073709551616 (show r + 1 ≤ d from h)
  omega
theorem ratio_of (k : Nat) (hk : 1 ≤ k) {a b : Int} (ha : I64 a) (hb : I64 b) (h0 : b ≠ 0) (r : Int)
    (hd : bits_Div64.f k ((a.natAbs / 4294967296 % b.natAbs : Nat) : Int) ((a.natAbs % 4294967296 * 4294967296 : Nat) : Int) (b.natAbs : Int) = some (((((a.natAbs / 4294967296 % b.natAbs) * 18446744073709551616 + a.natAbs % 4294967296 * 4294967296) / b.natAbs : Nat) : Int), r)) :
    fixed_Ratio.f k a b = some (fitV ((a * 4294967296).tdiv b), fitF ((a * 4294967296).tdiv b) false) := by
  have hp : 0 < b.natAbs := by omega
  have hlt := two_lt (a.natAbs / 4294967296 % b.natAbs) b.natAbs (a.natAbs % 4294967296 * 4294967296) (Nat.mod_lt _ hp) (by omega)
  have hle := Nat.div_le_self (a.natAbs / 4294967296) b.natAbs
  have hdv := div_two (a.natAbs / 4294967296) (a.natAbs % 4294967296 * 4294967296) b.natAbs hp
  have ht := tdiv_abs (a * 4294967296) b
  rw [show (a * 4294967296).natAbs = a.natAbs / 4294967296 * 18446744073709551616 + a.natAbs % 4294967296 * 4294967296 by omega, hdv, show decide (a * 4294967296 < 0) = decide (a < 0) by rw [decide_eq_decide]; omega] at ht
  unfold fixed_Ratio.f
  rw [if_neg h0, of_f ha, of_f hb]
  simp only [Option.bind_some]
  unfold I64 at ha hb
  rw [up_f (by omega) (by omega)]
  simp only [Option.bind_some]
  have d1 : (a.natAbs : Int) / 4294967296 = ((a.natAbs / 4294967296 : Nat) : Int) := by omega
  have d2 : (a.natAbs : Int) % 4294967296 * 4294967296 = ((a.natAbs % 4294967296 * 4294967296 : Nat) : Int) := by omega
  rw [if_neg (by omega), d1, d2, ← Int.ofNat_tmod, ← Int.ofNat_tdiv, hd, u64_id (by omega) (by omega)]
  simp only [Option.bind_some]
  rw [fit_ex (x := (a * 4294967296).tdiv b) _ false k hk]
  · simp only [Option.bind_some]
  · rw [ht]
    clear hd hdv ht
    generalize (a.natAbs / 4294967296 % b.natAbs * 18446744073709551616 + a.natAbs % 4294967296 * 4294967296) / b.natAbs = q at hlt ⊢
    generalize a.natAbs / 4294967296 / b.natAbs = p at hle ⊢
    refine ⟨by omega, by omega, by omega, by omega, fun e => ?_, fun e => ?_⟩
    · rw [if_neg (by rw [e]; decide)]; omega
    · rw [if_pos e]; omega
theorem awake_f (k : Nat) (hk : 5 ≤ k) : bagatellelaw01_awake.f k = some true := by
  have e1 : fixed_Int.f k 3 = some (12884901888, false) := int_f k (by omega) (by unfold I64; omega)
  have w1 : IntKind.u64.wrap (Int.tdiv 4294967296 2) = 2147483648 := by decide +kernel
  have w2 : Int.tmod 4294967296 2 = 0 := by decide +kernel
  have ed : bits_Div64.f k 0 4294967296 2 = some (2147483648, 0) := by
    unfold bits_Div64.f
    rw [if_neg (by decide), if_neg (by decide), if_pos rfl, w1, w2]
  have v1 : Snd ((-1 * 4294967296 : Int).tdiv 2) := by unfold Snd; decide +kernel
  have v2 : (-1 * 4294967296 : Int).tdiv 2 = -2147483648 := by decide +kernel
  have e2 : fixed_Ratio.f k (-1) 2 = some (-2147483648, false) := by
    rw [ratio_of (a := -1) (b := 2) k (by omega) (by unfold I64; omega) (by unfold I64; omega) (by decide) 0 (by simpa using ed), fitV_id v1, fitF_id v1, v2]
  have e3 : fixed_Order.f k (-2) 3 1 1 = some (-1) := order_f k (by omega) (by unfold I64; omega) (by unfold I64; omega) (by unfold I64; omega) (by unfold I64; omega)
  have e4 : fixed_Text.f (-2147483648) false = some ⟨#[45, 48, 46, 53]⟩ := by decide +kernel
  unfold bagatellelaw01_awake.f
  rw [e1, e2, e3]
  simp only [Option.bind_some, e4]
  decide +kernel
end Go.Proofs.Ytenpiaafkmfjfaa.B

end
section
namespace Go.Proofs.Ytenpiaafkmfjfaa.B
open Go.RowKit Go.Proofs.YtenpiaafkmfjfaaW.PrintWords Go.Proofs.YtenpiaafkmfjfaaW.PrintLast Go.Proofs.YtenpiaafkmfjfaaW.PrintMore
theorem sv_id {v : Int} (h : Snd v) : sv v = v := by unfold Snd at h; unfold sv; rw [if_neg (by omega)]
theorem Snd.neg {v : Int} (h : Snd v) : Snd (-v) := by unfold Snd at *; omega
theorem abs_f {v : Int} (f : Bool) (h : I64 v) : fixed_Abs.f v f = some (((sv v).natAbs : Int), sf v f) := by
  have hs := sv_i64 h
  unfold Snd at hs
  unfold fixed_Abs.f
  rw [sound_f]
  simp only [Option.bind_some]
  rw [wrap64_id (by omega) (by omega)]
  unfold mx
  split
  · rw [show -sv v = ((sv v).natAbs : Int) by omega]
  · rw [show sv v = ((sv v).natAbs : Int) by omega]; simp
theorem cmp_f (v w : Int) (f g : Bool) : fixed_Cmp.f v f w g = some (sgn3 (sv v) (sv w)) := by
  unfold fixed_Cmp.f
  simp only [sound_f, Option.bind_some, compare_i]
theorem fitv_cases (x : Int) : (9223372036854775807 < x ∧ fitV x = 9223372036854775807) ∨ (x < -9223372036854775807 ∧ fitV x = -9223372036854775807) ∨ (-9223372036854775807 ≤ x ∧ x ≤ 9223372036854775807 ∧ fitV x = x) := by
  unfold fitV
  by_cases h : 9223372036854775807 < x
  · rw [if_pos h]; omega
  · rw [if_neg h]
    by_cases h2 : x < -9223372036854775807
    · rw [if_pos h2]; omega
    · rw [if_neg h2]; omega
theorem sum_loop (vs : List Int) (hs : ∀ v ∈ vs, Snd v) (hl : vs.length ≤ 1000000) (f : Bool) : ∀ (m i k : Nat) (n : Bool) (lo hi x : Int), m + i = vs.length → m + 4 ≤ k → Ex n lo hi x → x.natAbs ≤ i * 9223372036854775808 →
    fixed_Sum.l0 k f vs vs.length i n lo hi = some (fitV (x + (vs.drop i).sum), fitF (x + (vs.drop i).sum) f)
  | 0, i, k, n, lo, hi, x, hm, hk, hx, hb => by
    obtain ⟨k, rfl⟩ : ∃ m, k = m + 4 := ⟨k - 4, by omega⟩
    rw [fixed_Sum.l0, if_neg (by omega), fit_ex hx f _ (by omega)]
    simp only [Option.bind_some]
    rw [List.drop_of_length_le (by omega)]
    simp
  | m + 1, i, k, n, lo, hi, x, hm, hk, hx, hb => by
    obtain ⟨k, rfl⟩ : ∃ m, k = m + 1 := ⟨k - 1, by omega⟩
    have hi' : i < vs.length := by omega
    have hv : Snd vs[i] := hs _ (List.getElem_mem hi')
    have hr : rd vs (i : Int) = vs[i] := by unfold rd; rw [Int.toNat_natCast, List.getD_eq_getElem?_getD, List.getElem?_eq_getElem hi']; rfl
    have hv2 := hv
    unfold Snd at hv2
    rw [fixed_Sum.l0, if_pos (by omega), if_pos (by omega), if_pos (by omega), hr]
    obtain ⟨n1, lo1, e1, x1⟩ := of_ex hv
    rw [e1]
    simp only [Option.bind_some]
    obtain ⟨n2, lo2, hi2, e2, x2⟩ := plus_ex k (by omega) hx x1 (by omega)
    rw [e2]
    simp only [Option.bind_some]
    rw [wrap64_id (by omega) (by omega)]
    have h := sum_loop vs hs hl f m (i + 1) k n2 lo2 hi2 (x + vs[i]) (by omega) (by omega) x2 (by omega)
    rw [show (i : Int) + 1 = ((i + 1 : Nat) : Int) by omega, h]
    rw [List.drop_eq_getElem_cons hi', List.sum_cons]
    rw [Int.add_assoc]
theorem vals_snd {l : List S23} (h : ∀ x ∈ l, I64 x.f0) : ∀ v ∈ vals l, Snd v := by
  intro v hv
  unfold vals at hv
  obtain ⟨x, hx, rfl⟩ := List.mem_map.mp hv
  exact sv_i64 (h x hx)
theorem sum_f (k : Nat) (l : List S23) (h : ∀ x ∈ l, I64 x.f0) (hl : l.length ≤ 1000000) (hk : l.length + 5 ≤ k) : fixed_Sum.f k l = some (fitV (vals l).sum, fitF (vals l).sum (anyF l)) := by
  unfold fixed_Sum.f fixed_values.f
  rw [if_pos hl]
  simp only [Option.bind_some]
  have hlen : (vals l).length = l.length := by unfold vals; simp
  have := sum_loop (vals l) (vals_snd h) (by omega) (anyF l) l.length 0 k false 0 0 0 (by omega) (by omega) ⟨by omega, by omega, by omega, by omega, fun _ => by omega, fun h => absurd h (by decide)⟩ (by omega)
  rw [show ((0 : Nat) : Int) = 0 from rfl] at this
  rw [this]
  simp
theorem add_f (k : Nat) (hk : 7 ≤ k) {a b : Int} (fa fb : Bool) (ha : I64 a) (hb : I64 b) : fixed_Add.f k a fa b fb = some (fitV (sv a + sv b), fitF (sv a + sv b) (sf a fa || sf b fb)) := by
  unfold fixed_Add.f
  rw [sum_f k _ (by intro x hx; simp at hx; rcases hx with rfl | rfl <;> assumption) (by simp) (by simpa using hk)]
  simp [vals, anyF]
end Go.Proofs.Ytenpiaafkmfjfaa.B

end
section
namespace Go.Proofs.Ytenpiaafkmfjfaa.B
open Go.RowKit Go.Proofs.YtenpiaafkmfjfaaW.PrintWords Go.Proofs.YtenpiaafkmfjfaaW.PrintLast Go.Proofs.YtenpiaafkmfjfaaW.PrintMore
attribute [local go_sem] max2_int min2_int max_two min_two max_three min_three max_four min_four
set_option linter.unusedVariables false
set_option linter.unusedSimpArgs false
mutual
def bagatellelaw01_FixedMonotone.j0 : Nat → Bool → Int → Bool → Option (Bool)
  | 0, _, _, _ => none
  | k + 1, x23, x224000, x224001 => if x23 = true then (none) else ((fixed_Floor.f x224000 x224001).bind fun t232 => (if t232 < (-2147483648) then (bagatellelaw01_FixedMonotone.j1 k t232 true x224000 x224001) else (if t232 ≥ 2147483648 then (bagatellelaw01_FixedMonotone.j1 k t232 true x224000 x224001) else ((fixed_Abs.f x224000 x224001).bind fun bt233 => ((fixed_Order.f k t232 4294967296 bt233.1 1).bind fun t235 => (if t235 > 0 then (bagatellelaw01_FixedMonotone.j1 k t232 (decide (x224000 ≥ 0)) x224000 x224001) else (bagatellelaw01_FixedMonotone.j1 k t232 false x224000 x224001)))))))
def bagatellelaw01_FixedMonotone.j1 : Nat → Int → Bool → Int → Bool → Option (Bool)
  | 0, _, _, _, _ => none
  | k + 1, x7, x44, x224000, x224001 => if x44 = true then (none) else (if x224000 = (-9223372036854775808) then ((fixed_Round.f x224000 x224001).bind fun t236 => (if x7 = ((wrap64 (x224000 + 1)) / 4294967296) then (if (wrap64 (t236 - x7)) = 0 then (if (((wrap64 (t236 - x7)) == 1) == (decide ((wrap64 ((wrap64 (x224000 + 1)) - (wrap64 (x7 * 4294967296)))) ≥ 2147483648))) = true then ((bagatellelaw01_awake.f k).bind fun t237 => (some t237)) else (none)) else (if (wrap64 (t236 - x7)) = 1 then (if (((wrap64 (t236 - x7)) == 1) == (decide ((wrap64 ((wrap64 (x224000 + 1)) - (wrap64 (x7 * 4294967296)))) ≥ 2147483648))) = true then ((bagatellelaw01_awake.f k).bind fun t238 => (some t238)) else (none)) else (none))) else (none))) else ((fixed_Round.f x224000 x224001).bind fun t239 => (if x7 = (x224000 / 4294967296) then (if (wrap64 (t239 - x7)) = 0 then (if (((wrap64 (t239 - x7)) == 1) == (decide ((wrap64 (x224000 - (wrap64 (x7 * 4294967296)))) ≥ 2147483648))) = true then ((bagatellelaw01_awake.f k).bind fun t240 => (some t240)) else (none)) else (if (wrap64 (t239 - x7)) = 1 then (if (((wrap64 (t239 - x7)) == 1) == (decide ((wrap64 (x224000 - (wrap64 (x7 * 4294967296)))) ≥ 2147483648))) = true then ((bagatellelaw01_awake.f k).bind fun t241 => (some t241)) else (none)) else (none))) else (none))))
end
def bagatellelaw01_FixedMonotone.f (k : Nat) (a0_0 : Int) (a0_1 : Bool) (a1_0 : Int) (a1_1 : Bool) (a2_0 : Int) (a2_1 : Bool) : Option (Bool) := (fixed_Cmp.f a0_0 a0_1 a1_0 a1_1).bind fun t226 => (if t226 ≤ 0 then ((fixed_Add.f k a0_0 a0_1 a2_0 a2_1).bind fun bt227 => ((fixed_Add.f k a1_0 a1_1 a2_0 a2_1).bind fun bt229 => ((fixed_Cmp.f bt227.1 bt227.2 bt229.1 bt229.2).bind fun t231 => (bagatellelaw01_FixedMonotone.j0 k (decide (t231 > 0)) a0_0 a0_1)))) else (bagatellelaw01_FixedMonotone.j0 k false a0_0 a0_1))
def bagatellelaw01_FixedMonotone.T1 : Bool × List (List Nat × List Nat) := (true, [([], []), ([], []), ([0, 1], [0, 1]), ([2], [2]), ([3, 2], [3]), ([4], [4]), ([4], [4]), ([5, 6, 4, 4], [4, 5, 6]), ([4], [4]), ([4], [4]), ([8, 9, 7, 4], [4, 8, 9]), ([7, 10, 10, 4], [4, 7, 10]), ([11, 4], [4, 11]), ([4, 12], [4, 12])])
def bagatellelaw01_FixedMonotone.B1 : List Nat := [0, 0, 3, 7, 15, 31, 31, 127, 31, 31, 1023, 2047, 4095, 8191]
theorem bagatellelaw01_FixedMonotone.tab1 : rtab .any (opsOf Try.f4 1) = bagatellelaw01_FixedMonotone.T1 := by kernel_rfl
theorem bagatellelaw01_FixedMonotone.bits1 : waitsOk bagatellelaw01_FixedMonotone.T1.2 bagatellelaw01_FixedMonotone.B1 = true := by kernel_rfl
set_option maxHeartbeats 8000000 in
set_option maxRecDepth 100000 in
theorem bagatellelaw01_FixedMonotone.calls (k : Nat) (a0_0 : Int) (a0_1 : Bool) (a1_0 : Int) (a1_1 : Bool) (a2_0 : Int) (a2_1 : Bool) (r : Bool) (w : World) (h : bagatellelaw01_FixedMonotone.f k a0_0 a0_1 a1_0 a1_1 a2_0 a2_1 = some r) :
    Calls Try.prog 4 #[.agg #[.int .i64 a0_0, .bool a0_1], .agg #[.int .i64 a1_0, .bool a1_1], .agg #[.int .i64 a2_0, .bool a2_1]] w fun e w' => e = .returned (.bool r) ∧ Below w.heap.size w w' := by
  have hu23 := Try.underlying23
  have hfld23_0 := @fld23_0
  have HB := Aside0.mk (Below.refl w.heap.size w)
  have H : ((fixed_Cmp.f a0_0 a0_1 a1_0 a1_1).bind fun t226 => (if t226 ≤ 0 then ((fixed_Add.f k a0_0 a0_1 a2_0 a2_1).bind fun bt227 => ((fixed_Add.f k a1_0 a1_1 a2_0 a2_1).bind fun bt229 => ((fixed_Cmp.f bt227.1 bt227.2 bt229.1 bt229.2).bind fun t231 => (bagatellelaw01_FixedMonotone.j0 k (decide (t231 > 0)) a0_0 a0_1)))) else (bagatellelaw01_FixedMonotone.j0 k false a0_0 a0_1))) = some r := h
  clear h
  have HC4 := Aside0.mk H
  clear H
  go_enter Try.func4, Try.ntmps4
  go_upto_region 1 with (first | ((with_reducible refine gate_dst (N := 3) rfl ?_); refine box_event ?hg (N := 3) ?hd (cs := #[.int .i64 a0_0, .bool a0_1]) (t := 23) ?hr ?_; (case hd => rfl); (case hg => rfl); (case hr => first | (go_simp; done) | (go_simp; rfl)); intro gb223 hg w5 hbox hb; have n0_ := Aside0.mk (below_step (by repeat (first | (with_reducible first | exact HB.out | apply below_alloc | apply pw_below_drewN | apply below_drew1) | exact HB.out)) hb); have n1_ := Aside0.mk (hbox); have n2_ := Aside0.mk ((by rw [hg]; exact (below_size (by repeat (first | (with_reducible first | exact HB.out | apply below_alloc | apply pw_below_drewN | apply below_drew1) | exact HB.out))) : w.heap.size ≤ gb223)); have n3_ := Aside0.mk ((by rw [hg]; exact (below_size (by repeat (first | (with_reducible first | exact HB.out | apply below_alloc | apply pw_below_drewN | apply below_drew1) | exact HB.out))) : w.heap.size ≤ gb223)); clear HB; have HB := n0_; have BK223 := n1_; have GW223 := n2_; have GE223 := n3_; clear n0_ n1_ n2_ n3_; clear hb hbox hg) | ((with_reducible refine gate_dst (N := 4) rfl ?_); refine box_event ?hg (N := 4) ?hd (cs := #[.int .i64 a1_0, .bool a1_1]) (t := 23) ?hr ?_; (case hd => rfl); (case hg => rfl); (case hr => first | (go_simp; done) | (go_simp; rfl)); intro gb224 hg w6 hbox hb; have n0_ := Aside0.mk (blk_below (g := gb223) (o := .cells #[.int .i64 a0_0, .bool a0_1] 23 (0, 0)) (by (with_reducible repeat (first | refine blk_drewN ?_ _ | refine blk_drew ?_ | refine blk_alloc ?_ _)); exact BK223.out) hb); have n1_ := Aside0.mk (below_step (by repeat (first | (with_reducible first | exact HB.out | apply below_alloc | apply pw_below_drewN | apply below_drew1 | refine below_set ?_ GE223.out) | exact HB.out)) hb); have n2_ := Aside0.mk (hbox); have n3_ := Aside0.mk ((by rw [hg]; exact (below_size (by repeat (first | (with_reducible first | exact HB.out | apply below_alloc | apply pw_below_drewN | apply below_drew1 | refine below_set ?_ GE223.out) | exact HB.out))) : w.heap.size ≤ gb224)); have n4_ := Aside0.mk ((by rw [hg]; exact (below_size (by repeat (first | (with_reducible first | exact HB.out | apply below_alloc | apply pw_below_drewN | apply below_drew1 | refine below_set ?_ GE223.out) | exact HB.out))) : w.heap.size ≤ gb224)); have n5_ := Aside0.mk ((by rw [hg]; exact Nat.ne_of_lt (blk_lt (g := gb223) (o := .cells #[.int .i64 a0_0, .bool a0_1] 23 (0, 0)) (by (with_reducible repeat (first | refine blk_drewN ?_ _ | refine blk_drew ?_ | refine blk_alloc ?_ _)); exact BK223.out)) : gb223 ≠ gb224)); have n6_ := Aside0.mk ((by rw [hg]; exact Nat.ne_of_gt (blk_lt (g := gb223) (o := .cells #[.int .i64 a0_0, .bool a0_1] 23 (0, 0)) (by (with_reducible repeat (first | refine blk_drewN ?_ _ | refine blk_drew ?_ | refine blk_alloc ?_ _)); exact BK223.out)) : gb224 ≠ gb223)); clear BK223; clear HB; have BK223 := n0_; have HB := n1_; have BK224 := n2_; have GW224 := n3_; have GE224 := n4_; have NB223_224 := n5_; have NB224_223 := n6_; clear n0_ n1_ n2_ n3_ n4_ n5_ n6_; clear hb hbox hg) | ((with_reducible refine gate_dst (N := 5) rfl ?_); refine box_event ?hg (N := 5) ?hd (cs := #[.int .i64 a2_0, .bool a2_1]) (t := 23) ?hr ?_; (case hd => rfl); (case hg => rfl); (case hr => first | (go_simp; done) | (go_simp; rfl)); intro gb225 hg w7 hbox hb; have n0_ := Aside0.mk (blk_below (g := gb223) (o := .cells #[.int .i64 a0_0, .bool a0_1] 23 (0, 0)) (by (with_reducible repeat (first | refine blk_drewN ?_ _ | refine blk_drew ?_ | refine blk_alloc ?_ _)); exact BK223.out) hb); have n1_ := Aside0.mk (blk_below (g := gb224) (o := .cells #[.int .i64 a1_0, .bool a1_1] 23 (0, 0)) (by (with_reducible repeat (first | refine blk_drewN ?_ _ | refine blk_drew ?_ | refine blk_alloc ?_ _)); exact BK224.out) hb); have n2_ := Aside0.mk (below_step (by repeat (first | (with_reducible first | exact HB.out | apply below_alloc | apply pw_below_drewN | apply below_drew1 | refine below_set ?_ GE223.out | refine below_set ?_ GE224.out) | exact HB.out)) hb); have n3_ := Aside0.mk (hbox); have n4_ := Aside0.mk ((by rw [hg]; exact (below_size (by repeat (first | (with_reducible first | exact HB.out | apply below_alloc | apply pw_below_drewN | apply below_drew1 | refine below_set ?_ GE223.out | refine below_set ?_ GE224.out) | exact HB.out))) : w.heap.size ≤ gb225)); have n5_ := Aside0.mk ((by rw [hg]; exact (below_size (by repeat (first | (with_reducible first | exact HB.out | apply below_alloc | apply pw_below_drewN | apply below_drew1 | refine below_set ?_ GE223.out | refine below_set ?_ GE224.out) | exact HB.out))) : w.heap.size ≤ gb225)); have n6_ := Aside0.mk ((by rw [hg]; exact Nat.ne_of_lt (blk_lt (g := gb223) (o := .cells #[.int .i64 a0_0, .bool a0_1] 23 (0, 0)) (by (with_reducible repeat (first | refine blk_drewN ?_ _ | refine blk_drew ?_ | refine blk_alloc ?_ _)); exact BK223.out)) : gb223 ≠ gb225)); have n7_ := Aside0.mk ((by rw [hg]; exact Nat.ne_of_gt (blk_lt (g := gb223) (o := .cells #[.int .i64 a0_0, .bool a0_1] 23 (0, 0)) (by (with_reducible repeat (first | refine blk_drewN ?_ _ | refine blk_drew ?_ | refine blk_alloc ?_ _)); exact BK223.out)) : gb225 ≠ gb223)); have n8_ := Aside0.mk ((by rw [hg]; exact Nat.ne_of_lt (blk_lt (g := gb224) (o := .cells #[.int .i64 a1_0, .bool a1_1] 23 (0, 0)) (by (with_reducible repeat (first | refine blk_drewN ?_ _ | refine blk_drew ?_ | refine blk_alloc ?_ _)); exact BK224.out)) : gb224 ≠ gb225)); have n9_ := Aside0.mk ((by rw [hg]; exact Nat.ne_of_gt (blk_lt (g := gb224) (o := .cells #[.int .i64 a1_0, .bool a1_1] 23 (0, 0)) (by (with_reducible repeat (first | refine blk_drewN ?_ _ | refine blk_drew ?_ | refine blk_alloc ?_ _)); exact BK224.out)) : gb225 ≠ gb224)); clear BK223; clear BK224; clear HB; have BK223 := n0_; have BK224 := n1_; have HB := n2_; have BK225 := n3_; have GW225 := n4_; have GE225 := n5_; have NB223_225 := n6_; have NB225_223 := n7_; have NB224_225 := n8_; have NB225_224 := n9_; clear n0_ n1_ n2_ n3_ n4_ n5_ n6_ n7_ n8_ n9_; clear hb hbox hg))
  (try simp only [Act.put, List.setIfInBounds_toArray, List.set_cons_zero, List.set_cons_succ])
  go_cut [23] (fun v23 wc => ∃ (kq : Nat) (x23_3 : Bool), v23 = .bool x23_3 ∧ Aside0 (bagatellelaw01_FixedMonotone.j0 kq x23_3 a0_0 a0_1 = some r) ∧ Aside0 (kq ≤ k) ∧ Aside0 (wc.heap[gb223]? = some (.cells #[.int .i64 a0_0, .bool a0_1] 23 (0, 0))) ∧ Aside0 (wc.heap[gb224]? = some (.cells #[.int .i64 a1_0, .bool a1_1] 23 (0, 0))) ∧ Aside0 (wc.heap[gb225]? = some (.cells #[.int .i64 a2_0, .bool a2_1] 23 (0, 0))) ∧ Aside0 (Below w.heap.size w wc))
  case first =>
    have H := HC4.out
    clear HC4
    replace H := Option.bind_eq_some_iff.mp H
    obtain ⟨t226, A80, H⟩ := H
    replace H : (if t226 ≤ 0 then ((fixed_Add.f k a0_0 a0_1 a2_0 a2_1).bind fun bt227 => ((fixed_Add.f k a1_0 a1_1 a2_0 a2_1).bind fun bt229 => ((fixed_Cmp.f bt227.1 bt227.2 bt229.1 bt229.2).bind fun t231 => (bagatellelaw01_FixedMonotone.j0 k (decide (t231 > 0)) a0_0 a0_1)))) else (bagatellelaw01_FixedMonotone.j0 k false a0_0 a0_1)) = some r := H
    have A8 := Aside0.mk A80
    clear A80
    by_cases c9 : t226 ≤ 0
    · rw [if_pos c9] at H
      have c9b0 : decide (t226 ≤ 0) = true := decide_eq_true c9
      clear c9
      (first | rw [c9b0] | (simp only [i64_w, i32_w]; rw [c9b0]) | skip)
      replace H := Option.bind_eq_some_iff.mp H
      obtain ⟨⟨t227, t228⟩, A100, H⟩ := H
      replace H : ((fixed_Add.f k a1_0 a1_1 a2_0 a2_1).bind fun bt229 => ((fixed_Cmp.f t227 t228 bt229.1 bt229.2).bind fun t231 => (bagatellelaw01_FixedMonotone.j0 k (decide (t231 > 0)) a0_0 a0_1))) = some r := H
      have A10 := Aside0.mk A100
      clear A100
      replace H := Option.bind_eq_some_iff.mp H
      obtain ⟨⟨t229, t230⟩, A110, H⟩ := H
      replace H : ((fixed_Cmp.f t227 t228 t229 t230).bind fun t231 => (bagatellelaw01_FixedMonotone.j0 k (decide (t231 > 0)) a0_0 a0_1)) = some r := H
      have A11 := Aside0.mk A110
      clear A110
      replace H := Option.bind_eq_some_iff.mp H
      obtain ⟨t231, A120, H⟩ := H
      replace H : (bagatellelaw01_FixedMonotone.j0 k (decide (t231 > 0)) a0_0 a0_1) = some r := H
      have A12 := Aside0.mk A120
      clear A120
      have H' := Aside0.mk H
      clear H
      try go_wp2
      have n0_ := Aside0.mk (blk_drew BK223.out)
      have n1_ := Aside0.mk (blk_drew BK224.out)
      have n2_ := Aside0.mk (blk_drew BK225.out)
      have n3_ := Aside0.mk (below_drew1 HB.out)
      clear BK223
      clear BK224
      clear BK225
      clear HB
      have BK223 := n0_
      have BK224 := n1_
      have BK225 := n2_
      have HB := n3_
      clear n0_ n1_ n2_ n3_
      refine start_ (n := 14) (S := fun w' => w'.cell? ⟨gb223, 0, none⟩ = some (.int .i64 a0_0) ∧ w'.cell? ⟨gb223, 1, none⟩ = some (.bool a0_1) ∧ w'.cell? ⟨gb224, 0, none⟩ = some (.int .i64 a1_0) ∧ w'.cell? ⟨gb224, 1, none⟩ = some (.bool a1_1) ∧ w'.cell? ⟨gb225, 0, none⟩ = some (.int .i64 a2_0) ∧ w'.cell? ⟨gb225, 1, none⟩ = some (.bool a2_1)) (ds := []) #[false, false, false, false, false, false, false, false, false, false, false, false, false, false] (by kernel_rfl) rfl rfl ⟨(blk_cell BK223.out 0).trans rfl, (blk_cell BK223.out 1).trans rfl, (blk_cell BK224.out 0).trans rfl, (blk_cell BK224.out 1).trans rfl, (blk_cell BK225.out 0).trans rfl, (blk_cell BK225.out 1).trans rfl⟩ (fun hHeld => ?_); refine with_tabW bagatellelaw01_FixedMonotone.tab1 bagatellelaw01_FixedMonotone.bits1 (fun HT_ HW_ => ?_)
      generalize w7.drew = w13 at BK223 BK224 BK225 HB hHeld ⊢
      refine take_ (i := 0) (N := some 10) (v := ?_) (a' := ?_) #[true, false, false, false, false, false, false, false, false, false, false, false, false, false] rfl rfl (take_ofW HT_.out HW_.out (by kernel_rfl)) (fun _ _ _ h => h) (Or.inl ⟨by rfl, ?_⟩) hHeld ?_ ?_
      rotate_left
      · rintro w' ⟨s0, s1, s2, s3, s4, s5⟩
        go_simp
        with_reducible rfl
      rotate_left
      · simp only [Act.put, List.setIfInBounds_toArray, List.set_cons_zero, List.set_cons_succ, i64_w, i32_w]
        rfl
      refine take_ (i := 1) (N := some 11) (v := ?_) (a' := ?_) #[true, true, false, false, false, false, false, false, false, false, false, false, false, false] rfl rfl (take_ofW HT_.out HW_.out (by kernel_rfl)) (fun _ _ _ h => h) (Or.inl ⟨by rfl, ?_⟩) hHeld ?_ ?_
      rotate_left
      · rintro w' ⟨s0, s1, s2, s3, s4, s5⟩
        go_simp
        with_reducible rfl
      rotate_left
      · simp only [Act.put, List.setIfInBounds_toArray, List.set_cons_zero, List.set_cons_succ, i64_w, i32_w]
        rfl
      refine one_ (i := 2) (N := some 12) #[true, true, true, false, false, false, false, false, false, false, false, false, false, false] rfl rfl (one_of HT_.out (by kernel_rfl)) (by decide) (fun K hK => ?_)
      refine goes_ Try.func24 (by kernel_rfl) rfl #[.agg #[.int .i64 a0_0, .bool a0_1], .agg #[.int .i64 a1_0, .bool a1_1]] (by rfl) rfl rfl (by (try simp only [List.map_toArray, List.map_cons, List.map_nil]); first | done | rfl | (simp only [List.length_drop, List.length_take]; rfl)) ?_
      with_reducible refine (fixed_Cmp.calls a0_0 a0_1 a1_0 a1_1 t226 _ A8.out).mono ?_
      rintro e w14 ⟨rfl, hb⟩
      refine ⟨_, rfl, ?_⟩
      have n0_ := Aside0.mk (blk_below (g := gb223) (o := .cells #[.int .i64 a0_0, .bool a0_1] 23 (0, 0)) (by (with_reducible repeat (first | refine blk_drewN ?_ _ | refine blk_drew ?_ | refine blk_alloc ?_ _)); exact BK223.out) hb)
      have n1_ := Aside0.mk (blk_below (g := gb224) (o := .cells #[.int .i64 a1_0, .bool a1_1] 23 (0, 0)) (by (with_reducible repeat (first | refine blk_drewN ?_ _ | refine blk_drew ?_ | refine blk_alloc ?_ _)); exact BK224.out) hb)
      have n2_ := Aside0.mk (blk_below (g := gb225) (o := .cells #[.int .i64 a2_0, .bool a2_1] 23 (0, 0)) (by (with_reducible repeat (first | refine blk_drewN ?_ _ | refine blk_drew ?_ | refine blk_alloc ?_ _)); exact BK225.out) hb)
      have n3_ := Aside0.mk (below_step (by repeat (first | (with_reducible first | exact HB.out | apply below_alloc | apply pw_below_drewN | apply below_drew1 | refine below_set ?_ GE223.out | refine below_set ?_ GE224.out | refine below_set ?_ GE225.out) | exact HB.out)) hb)
      clear BK223
      clear BK224
      clear BK225
      clear HB
      have BK223 := n0_
      have BK224 := n1_
      have BK225 := n2_
      have HB := n3_
      clear n0_ n1_ n2_ n3_
      (try clear hb)
      (try clear hb2)
      (try clear hk)
      (try clear hi)
      refine hK.out _ _ ⟨(blk_cell BK223.out 0).trans rfl, (blk_cell BK223.out 1).trans rfl, (blk_cell BK224.out 0).trans rfl, (blk_cell BK224.out 1).trans rfl, (blk_cell BK225.out 0).trans rfl, (blk_cell BK225.out 1).trans rfl⟩ (fun hHeld => ?_)
      clear hK K
      refine norm_ (a' := ?_) ?_ ?_
      rotate_left
      · show Act.put _ (some 12) _ = _
        simp only [Act.put, List.setIfInBounds_toArray, List.set_cons_zero, List.set_cons_succ, i64_w, i32_w]
        rfl
      refine pure_ (i := 3) (N := some 13) (v := ?_) (a' := ?_) #[true, true, true, true, false, false, false, false, false, false, false, false, false, false] rfl rfl (any_of HT_.out (by kernel_rfl)) (fun _ _ _ h => h) (Or.inl ⟨by rfl, ?_⟩) ?_ ?_
      rotate_left
      · intro w'
        go_simp
        with_reducible rfl
      rotate_left
      · simp only [Act.put, List.setIfInBounds_toArray, List.set_cons_zero, List.set_cons_succ, i64_w, i32_w]
        rfl
      refine pure_ (i := 4) (N := some 14) (v := ?_) (a' := ?_) #[true, true, true, true, true, false, false, false, false, false, false, false, false, false] rfl rfl (any_of HT_.out (by kernel_rfl)) (fun _ _ _ h => h) (Or.inl ⟨by rfl, ?_⟩) ?_ ?_
      rotate_left
      · intro w'
        go_simp
        with_reducible rfl
      rotate_left
      · simp only [Act.put, List.setIfInBounds_toArray, List.set_cons_zero, List.set_cons_succ, i64_w, i32_w]
        rfl
      refine take_ (i := 5) (N := some 15) (v := ?_) (a' := ?_) #[true, true, true, true, true, true, false, false, false, false, false, false, false, false] rfl rfl (take_ofW HT_.out HW_.out (by kernel_rfl)) (fun _ _ _ h => h) (Or.inl ⟨by rfl, ?_⟩) hHeld ?_ ?_
      rotate_left
      · rintro w' ⟨s0, s1, s2, s3, s4, s5⟩
        go_simp
        with_reducible rfl
      rotate_left
      · simp only [Act.put, List.setIfInBounds_toArray, List.set_cons_zero, List.set_cons_succ, i64_w, i32_w]
        rfl
      refine take_ (i := 6) (N := some 16) (v := ?_) (a' := ?_) #[true, true, true, true, true, true, true, false, false, false, false, false, false, false] rfl rfl (take_ofW HT_.out HW_.out (by kernel_rfl)) (fun _ _ _ h => h) (Or.inl ⟨by rfl, ?_⟩) hHeld ?_ ?_
      rotate_left
      · rintro w' ⟨s0, s1, s2, s3, s4, s5⟩
        go_simp
        with_reducible rfl
      rotate_left
      · simp only [Act.put, List.setIfInBounds_toArray, List.set_cons_zero, List.set_cons_succ, i64_w, i32_w]
        rfl
      refine take_ (i := 8) (N := some 18) (v := ?_) (a' := ?_) #[true, true, true, true, true, true, true, false, true, false, false, false, false, false] rfl rfl (take_ofW HT_.out HW_.out (by kernel_rfl)) (fun _ _ _ h => h) (Or.inl ⟨by rfl, ?_⟩) hHeld ?_ ?_
      rotate_left
      · rintro w' ⟨s0, s1, s2, s3, s4, s5⟩
        go_simp
        with_reducible rfl
      rotate_left
      · simp only [Act.put, List.setIfInBounds_toArray, List.set_cons_zero, List.set_cons_succ, i64_w, i32_w]
        rfl
      refine take_ (i := 9) (N := some 19) (v := ?_) (a' := ?_) #[true, true, true, true, true, true, true, false, true, true, false, false, false, false] rfl rfl (take_ofW HT_.out HW_.out (by kernel_rfl)) (fun _ _ _ h => h) (Or.inl ⟨by rfl, ?_⟩) hHeld ?_ ?_
      rotate_left
      · rintro w' ⟨s0, s1, s2, s3, s4, s5⟩
        go_simp
        with_reducible rfl
      rotate_left
      · simp only [Act.put, List.setIfInBounds_toArray, List.set_cons_zero, List.set_cons_succ, i64_w, i32_w]
        rfl
      refine one_ (i := 7) (N := some 17) #[true, true, true, true, true, true, true, true, true, true, false, false, false, false] rfl rfl (one_of HT_.out (by kernel_rfl)) (by decide) (fun K hK => ?_)
      refine goes_ Try.func25 (by kernel_rfl) rfl #[.agg #[.int .i64 a0_0, .bool a0_1], .agg #[.int .i64 a2_0, .bool a2_1]] (by rfl) rfl rfl (by (try simp only [List.map_toArray, List.map_cons, List.map_nil]); first | done | rfl | (simp only [List.length_drop, List.length_take]; rfl)) ?_
      with_reducible refine (fixed_Add.calls k a0_0 a0_1 a2_0 a2_1 t227 t228 _ A10.out).mono ?_
      rintro e w15 ⟨rfl, hb⟩
      refine ⟨_, rfl, ?_⟩
      have n0_ := Aside0.mk (blk_below (g := gb223) (o := .cells #[.int .i64 a0_0, .bool a0_1] 23 (0, 0)) (by (with_reducible repeat (first | refine blk_drewN ?_ _ | refine blk_drew ?_ | refine blk_alloc ?_ _)); exact BK223.out) hb)
      have n1_ := Aside0.mk (blk_below (g := gb224) (o := .cells #[.int .i64 a1_0, .bool a1_1] 23 (0, 0)) (by (with_reducible repeat (first | refine blk_drewN ?_ _ | refine blk_drew ?_ | refine blk_alloc ?_ _)); exact BK224.out) hb)
      have n2_ := Aside0.mk (blk_below (g := gb225) (o := .cells #[.int .i64 a2_0, .bool a2_1] 23 (0, 0)) (by (with_reducible repeat (first | refine blk_drewN ?_ _ | refine blk_drew ?_ | refine blk_alloc ?_ _)); exact BK225.out) hb)
      have n3_ := Aside0.mk (below_step (by repeat (first | (with_reducible first | exact HB.out | apply below_alloc | apply pw_below_drewN | apply below_drew1 | refine below_set ?_ GE223.out | refine below_set ?_ GE224.out | refine below_set ?_ GE225.out) | exact HB.out)) hb)
      clear BK223
      clear BK224
      clear BK225
      clear HB
      have BK223 := n0_
      have BK224 := n1_
      have BK225 := n2_
      have HB := n3_
      clear n0_ n1_ n2_ n3_
      (try clear hb)
      (try clear hb2)
      (try clear hk)
      (try clear hi)
      refine hK.out _ _ ⟨(blk_cell BK223.out 0).trans rfl, (blk_cell BK223.out 1).trans rfl, (blk_cell BK224.out 0).trans rfl, (blk_cell BK224.out 1).trans rfl, (blk_cell BK225.out 0).trans rfl, (blk_cell BK225.out 1).trans rfl⟩ (fun hHeld => ?_)
      clear hK K
      refine norm_ (a' := ?_) ?_ ?_
      rotate_left
      · show Act.put _ (some 17) _ = _
        simp only [Act.put, List.setIfInBounds_toArray, List.set_cons_zero, List.set_cons_succ, i64_w, i32_w]
        rfl
      refine one_ (i := 10) (N := some 20) #[true, true, true, true, true, true, true, true, true, true, true, false, false, false] rfl rfl (one_of HT_.out (by kernel_rfl)) (by decide) (fun K hK => ?_)
      refine goes_ Try.func25 (by kernel_rfl) rfl #[.agg #[.int .i64 a1_0, .bool a1_1], .agg #[.int .i64 a2_0, .bool a2_1]] (by rfl) rfl rfl (by (try simp only [List.map_toArray, List.map_cons, List.map_nil]); first | done | rfl | (simp only [List.length_drop, List.length_take]; rfl)) ?_
      with_reducible refine (fixed_Add.calls k a1_0 a1_1 a2_0 a2_1 t229 t230 _ A11.out).mono ?_
      rintro e w16 ⟨rfl, hb⟩
      refine ⟨_, rfl, ?_⟩
      have n0_ := Aside0.mk (blk_below (g := gb223) (o := .cells #[.int .i64 a0_0, .bool a0_1] 23 (0, 0)) (by (with_reducible repeat (first | refine blk_drewN ?_ _ | refine blk_drew ?_ | refine blk_alloc ?_ _)); exact BK223.out) hb)
      have n1_ := Aside0.mk (blk_below (g := gb224) (o := .cells #[.int .i64 a1_0, .bool a1_1] 23 (0, 0)) (by (with_reducible repeat (first | refine blk_drewN ?_ _ | refine blk_drew ?_ | refine blk_alloc ?_ _)); exact BK224.out) hb)
      have n2_ := Aside0.mk (blk_below (g := gb225) (o := .cells #[.int .i64 a2_0, .bool a2_1] 23 (0, 0)) (by (with_reducible repeat (first | refine blk_drewN ?_ _ | refine blk_drew ?_ | refine blk_alloc ?_ _)); exact BK225.out) hb)
      have n3_ := Aside0.mk (below_step (by repeat (first | (with_reducible first | exact HB.out | apply below_alloc | apply pw_below_drewN | apply below_drew1 | refine below_set ?_ GE223.out | refine below_set ?_ GE224.out | refine below_set ?_ GE225.out) | exact HB.out)) hb)
      clear BK223
      clear BK224
      clear BK225
      clear HB
      have BK223 := n0_
      have BK224 := n1_
      have BK225 := n2_
      have HB := n3_
      clear n0_ n1_ n2_ n3_
      (try clear hb)
      (try clear hb2)
      (try clear hk)
      (try clear hi)
      refine hK.out _ _ ⟨(blk_cell BK223.out 0).trans rfl, (blk_cell BK223.out 1).trans rfl, (blk_cell BK224.out 0).trans rfl, (blk_cell BK224.out 1).trans rfl, (blk_cell BK225.out 0).trans rfl, (blk_cell BK225.out 1).trans rfl⟩ (fun hHeld => ?_)
      clear hK K
      refine norm_ (a' := ?_) ?_ ?_
      rotate_left
      · show Act.put _ (some 20) _ = _
        simp only [Act.put, List.setIfInBounds_toArray, List.set_cons_zero, List.set_cons_succ, i64_w, i32_w]
        rfl
      refine one_ (i := 11) (N := some 21) #[true, true, true, true, true, true, true, true, true, true, true, true, false, false] rfl rfl (one_of HT_.out (by kernel_rfl)) (by decide) (fun K hK => ?_)
      refine goes_ Try.func24 (by kernel_rfl) rfl #[.agg #[.int .i64 t227, .bool t228], .agg #[.int .i64 t229, .bool t230]] (by rfl) rfl rfl (by (try simp only [List.map_toArray, List.map_cons, List.map_nil]); first | done | rfl | (simp only [List.length_drop, List.length_take]; rfl)) ?_
      with_reducible refine (fixed_Cmp.calls t227 t228 t229 t230 t231 _ A12.out).mono ?_
      rintro e w17 ⟨rfl, hb⟩
      refine ⟨_, rfl, ?_⟩
      have n0_ := Aside0.mk (blk_below (g := gb223) (o := .cells #[.int .i64 a0_0, .bool a0_1] 23 (0, 0)) (by (with_reducible repeat (first | refine blk_drewN ?_ _ | refine blk_drew ?_ | refine blk_alloc ?_ _)); exact BK223.out) hb)
      have n1_ := Aside0.mk (blk_below (g := gb224) (o := .cells #[.int .i64 a1_0, .bool a1_1] 23 (0, 0)) (by (with_reducible repeat (first | refine blk_drewN ?_ _ | refine blk_drew ?_ | refine blk_alloc ?_ _)); exact BK224.out) hb)
      have n2_ := Aside0.mk (blk_below (g := gb225) (o := .cells #[.int .i64 a2_0, .bool a2_1] 23 (0, 0)) (by (with_reducible repeat (first | refine blk_drewN ?_ _ | refine blk_drew ?_ | refine blk_alloc ?_ _)); exact BK225.out) hb)
      have n3_ := Aside0.mk (below_step (by repeat (first | (with_reducible first | exact HB.out | apply below_alloc | apply pw_below_drewN | apply below_drew1 | refine below_set ?_ GE223.out | refine below_set ?_ GE224.out | refine below_set ?_ GE225.out) | exact HB.out)) hb)
      clear BK223
      clear BK224
      clear BK225
      clear HB
      have BK223 := n0_
      have BK224 := n1_
      have BK225 := n2_
      have HB := n3_
      clear n0_ n1_ n2_ n3_
      (try clear hb)
      (try clear hb2)
      (try clear hk)
      (try clear hi)
      refine hK.out _ _ ⟨(blk_cell BK223.out 0).trans rfl, (blk_cell BK223.out 1).trans rfl, (blk_cell BK224.out 0).trans rfl, (blk_cell BK224.out 1).trans rfl, (blk_cell BK225.out 0).trans rfl, (blk_cell BK225.out 1).trans rfl⟩ (fun hHeld => ?_)
      clear hK K
      refine norm_ (a' := ?_) ?_ ?_
      rotate_left
      · show Act.put _ (some 21) _ = _
        simp only [Act.put, List.setIfInBounds_toArray, List.set_cons_zero, List.set_cons_succ, i64_w, i32_w]
        rfl
      refine pure_ (i := 12) (N := some 22) (v := ?_) (a' := ?_) #[true, true, true, true, true, true, true, true, true, true, true, true, true, false] rfl rfl (any_of HT_.out (by kernel_rfl)) (fun _ _ _ h => h) (Or.inl ⟨by rfl, ?_⟩) ?_ ?_
      rotate_left
      · intro w'
        go_simp
        with_reducible rfl
      rotate_left
      · simp only [Act.put, List.setIfInBounds_toArray, List.set_cons_zero, List.set_cons_succ, i64_w, i32_w]
        rfl
      refine pure_ (i := 13) (N := some 23) (v := ?_) (a' := ?_) #[true, true, true, true, true, true, true, true, true, true, true, true, true, true] rfl rfl (any_of HT_.out (by kernel_rfl)) (fun _ _ _ h => h) (Or.inl ⟨by rfl, ?_⟩) ?_ ?_
      rotate_left
      · intro w'
        go_simp
        with_reducible rfl
      rotate_left
      · simp only [Act.put, List.setIfInBounds_toArray, List.set_cons_zero, List.set_cons_succ, i64_w, i32_w]
        rfl
      refine done_ (done_of HT_.out (by kernel_rfl)) ?_
      try go_wp2
      go_meet
      case rel => exact ⟨_, (decide (t231 > 0)), (by first | rfl | (simp; done) | (simp [*]; done)), H', ⟨by first | omega | exact Nat.le_refl _⟩, ⟨by (with_reducible repeat (first | refine blk_drewN ?_ _ | refine blk_drew ?_ | refine blk_alloc ?_ _)); exact BK223.out⟩, ⟨by (with_reducible repeat (first | refine blk_drewN ?_ _ | refine blk_drew ?_ | refine blk_alloc ?_ _)); exact BK224.out⟩, ⟨by (with_reducible repeat (first | refine blk_drewN ?_ _ | refine blk_drew ?_ | refine blk_alloc ?_ _)); exact BK225.out⟩, ⟨by repeat (first | (with_reducible first | exact HB.out | apply below_alloc | apply pw_below_drewN | apply below_drew1 | refine below_set ?_ GE223.out | refine below_set ?_ GE224.out | refine below_set ?_ GE225.out) | exact HB.out)⟩⟩
    · rw [if_neg c9] at H
      have c9b0 : decide (t226 ≤ 0) = false := decide_eq_false c9
      clear c9
      (first | rw [c9b0] | (simp only [i64_w, i32_w]; rw [c9b0]) | skip)
      have H' := Aside0.mk H
      clear H
      try go_wp2
      have n0_ := Aside0.mk (blk_drew BK223.out)
      have n1_ := Aside0.mk (blk_drew BK224.out)
      have n2_ := Aside0.mk (blk_drew BK225.out)
      have n3_ := Aside0.mk (below_drew1 HB.out)
      clear BK223
      clear BK224
      clear BK225
      clear HB
      have BK223 := n0_
      have BK224 := n1_
      have BK225 := n2_
      have HB := n3_
      clear n0_ n1_ n2_ n3_
      refine start_ (n := 14) (S := fun w' => w'.cell? ⟨gb223, 0, none⟩ = some (.int .i64 a0_0) ∧ w'.cell? ⟨gb223, 1, none⟩ = some (.bool a0_1) ∧ w'.cell? ⟨gb224, 0, none⟩ = some (.int .i64 a1_0) ∧ w'.cell? ⟨gb224, 1, none⟩ = some (.bool a1_1)) (ds := []) #[false, false, false, false, false, false, false, false, false, false, false, false, false, false] (by kernel_rfl) rfl rfl ⟨(blk_cell BK223.out 0).trans rfl, (blk_cell BK223.out 1).trans rfl, (blk_cell BK224.out 0).trans rfl, (blk_cell BK224.out 1).trans rfl⟩ (fun hHeld => ?_); refine with_tabW bagatellelaw01_FixedMonotone.tab1 bagatellelaw01_FixedMonotone.bits1 (fun HT_ HW_ => ?_)
      generalize w7.drew = w18 at BK223 BK224 BK225 HB hHeld ⊢
      refine take_ (i := 0) (N := some 10) (v := ?_) (a' := ?_) #[true, false, false, false, false, false, false, false, false, false, false, false, false, false] rfl rfl (take_ofW HT_.out HW_.out (by kernel_rfl)) (fun _ _ _ h => h) (Or.inl ⟨by rfl, ?_⟩) hHeld ?_ ?_
      rotate_left
      · rintro w' ⟨s0, s1, s2, s3⟩
        go_simp
        with_reducible rfl
      rotate_left
      · simp only [Act.put, List.setIfInBounds_toArray, List.set_cons_zero, List.set_cons_succ, i64_w, i32_w]
        rfl
      refine take_ (i := 1) (N := some 11) (v := ?_) (a' := ?_) #[true, true, false, false, false, false, false, false, false, false, false, false, false, false] rfl rfl (take_ofW HT_.out HW_.out (by kernel_rfl)) (fun _ _ _ h => h) (Or.inl ⟨by rfl, ?_⟩) hHeld ?_ ?_
      rotate_left
      · rintro w' ⟨s0, s1, s2, s3⟩
        go_simp
        with_reducible rfl
      rotate_left
      · simp only [Act.put, List.setIfInBounds_toArray, List.set_cons_zero, List.set_cons_succ, i64_w, i32_w]
        rfl
      refine one_ (i := 2) (N := some 12) #[true, true, true, false, false, false, false, false, false, false, false, false, false, false] rfl rfl (one_of HT_.out (by kernel_rfl)) (by decide) (fun K hK => ?_)
      refine goes_ Try.func24 (by kernel_rfl) rfl #[.agg #[.int .i64 a0_0, .bool a0_1], .agg #[.int .i64 a1_0, .bool a1_1]] (by rfl) rfl rfl (by (try simp only [List.map_toArray, List.map_cons, List.map_nil]); first | done | rfl | (simp only [List.length_drop, List.length_take]; rfl)) ?_
      with_reducible refine (fixed_Cmp.calls a0_0 a0_1 a1_0 a1_1 t226 _ A8.out).mono ?_
      rintro e w19 ⟨rfl, hb⟩
      refine ⟨_, rfl, ?_⟩
      have n0_ := Aside0.mk (blk_below (g := gb223) (o := .cells #[.int .i64 a0_0, .bool a0_1] 23 (0, 0)) (by (with_reducible repeat (first | refine blk_drewN ?_ _ | refine blk_drew ?_ | refine blk_alloc ?_ _)); exact BK223.out) hb)
      have n1_ := Aside0.mk (blk_below (g := gb224) (o := .cells #[.int .i64 a1_0, .bool a1_1] 23 (0, 0)) (by (with_reducible repeat (first | refine blk_drewN ?_ _ | refine blk_drew ?_ | refine blk_alloc ?_ _)); exact BK224.out) hb)
      have n2_ := Aside0.mk (blk_below (g := gb225) (o := .cells #[.int .i64 a2_0, .bool a2_1] 23 (0, 0)) (by (with_reducible repeat (first | refine blk_drewN ?_ _ | refine blk_drew ?_ | refine blk_alloc ?_ _)); exact BK225.out) hb)
      have n3_ := Aside0.mk (below_step (by repeat (first | (with_reducible first | exact HB.out | apply below_alloc | apply pw_below_drewN | apply below_drew1 | refine below_set ?_ GE223.out | refine below_set ?_ GE224.out | refine below_set ?_ GE225.out) | exact HB.out)) hb)
      clear BK223
      clear BK224
      clear BK225
      clear HB
      have BK223 := n0_
      have BK224 := n1_
      have BK225 := n2_
      have HB := n3_
      clear n0_ n1_ n2_ n3_
      (try clear hb)
      (try clear hb2)
      (try clear hk)
      (try clear hi)
      refine hK.out _ _ ⟨(blk_cell BK223.out 0).trans rfl, (blk_cell BK223.out 1).trans rfl, (blk_cell BK224.out 0).trans rfl, (blk_cell BK224.out 1).trans rfl⟩ (fun hHeld => ?_)
      clear hK K
      refine norm_ (a' := ?_) ?_ ?_
      rotate_left
      · show Act.put _ (some 12) _ = _
        simp only [Act.put, List.setIfInBounds_toArray, List.set_cons_zero, List.set_cons_succ, i64_w, i32_w]
        rfl
      refine pure_ (i := 3) (N := some 13) (v := ?_) (a' := ?_) #[true, true, true, true, false, false, false, false, false, false, false, false, false, false] rfl rfl (any_of HT_.out (by kernel_rfl)) (fun _ _ _ h => h) (Or.inl ⟨by rfl, ?_⟩) ?_ ?_
      rotate_left
      · intro w'
        go_simp
        with_reducible rfl
      rotate_left
      · simp only [Act.put, List.setIfInBounds_toArray, List.set_cons_zero, List.set_cons_succ, i64_w, i32_w]
        rfl
      refine pure_ (i := 4) (N := some 14) (v := ?_) (a' := ?_) #[true, true, true, true, true, false, false, false, false, false, false, false, false, false] rfl rfl (any_of HT_.out (by kernel_rfl)) (fun _ _ _ h => h) (Or.inl ⟨by rfl, ?_⟩) ?_ ?_
      rotate_left
      · intro w'
        go_simp
        with_reducible rfl
      rotate_left
      · simp only [Act.put, List.setIfInBounds_toArray, List.set_cons_zero, List.set_cons_succ, i64_w, i32_w]
        rfl
      refine pure_ (i := 5) (N := some 15) (v := undef) (a' := ?_) #[true, true, true, true, true, true, false, false, false, false, false, false, false, false] rfl rfl (any_of HT_.out (by kernel_rfl)) (fun _ _ _ h => h) (Or.inr ⟨by rfl, rfl⟩) ?_ ?_
      rotate_left
      · simp only [Act.put, List.setIfInBounds_toArray, List.set_cons_zero, List.set_cons_succ, i64_w, i32_w]
        rfl
      refine pure_ (i := 6) (N := some 16) (v := undef) (a' := ?_) #[true, true, true, true, true, true, true, false, false, false, false, false, false, false] rfl rfl (any_of HT_.out (by kernel_rfl)) (fun _ _ _ h => h) (Or.inr ⟨by rfl, rfl⟩) ?_ ?_
      rotate_left
      · simp only [Act.put, List.setIfInBounds_toArray, List.set_cons_zero, List.set_cons_succ, i64_w, i32_w]
        rfl
      refine pure_ (i := 7) (N := some 17) (v := undef) (a' := ?_) #[true, true, true, true, true, true, true, true, false, false, false, false, false, false] rfl rfl (any_of HT_.out (by kernel_rfl)) (fun _ _ _ h => h) (Or.inr ⟨by rfl, rfl⟩) ?_ ?_
      rotate_left
      · simp only [Act.put, List.setIfInBounds_toArray, List.set_cons_zero, List.set_cons_succ, i64_w, i32_w]
        rfl
      refine pure_ (i := 8) (N := some 18) (v := undef) (a' := ?_) #[true, true, true, true, true, true, true, true, true, false, false, false, false, false] rfl rfl (any_of HT_.out (by kernel_rfl)) (fun _ _ _ h => h) (Or.inr ⟨by rfl, rfl⟩) ?_ ?_
      rotate_left
      · simp only [Act.put, List.setIfInBounds_toArray, List.set_cons_zero, List.set_cons_succ, i64_w, i32_w]
        rfl
      refine pure_ (i := 9) (N := some 19) (v := undef) (a' := ?_) #[true, true, true, true, true, true, true, true, true, true, false, false, false, false] rfl rfl (any_of HT_.out (by kernel_rfl)) (fun _ _ _ h => h) (Or.inr ⟨by rfl, rfl⟩) ?_ ?_
      rotate_left
      · simp only [Act.put, List.setIfInBounds_toArray, List.set_cons_zero, List.set_cons_succ, i64_w, i32_w]
        rfl
      refine pure_ (i := 10) (N := some 20) (v := undef) (a' := ?_) #[true, true, true, true, true, true, true, true, true, true, true, false, false, false] rfl rfl (any_of HT_.out (by kernel_rfl)) (fun _ _ _ h => h) (Or.inr ⟨by rfl, rfl⟩) ?_ ?_
      rotate_left
      · simp only [Act.put, List.setIfInBounds_toArray, List.set_cons_zero, List.set_cons_succ, i64_w, i32_w]
        rfl
      refine pure_ (i := 11) (N := some 21) (v := undef) (a' := ?_) #[true, true, true, true, true, true, true, true, true, true, true, true, false, false] rfl rfl (any_of HT_.out (by kernel_rfl)) (fun _ _ _ h => h) (Or.inr ⟨by rfl, rfl⟩) ?_ ?_
      rotate_left
      · simp only [Act.put, List.setIfInBounds_toArray, List.set_cons_zero, List.set_cons_succ, i64_w, i32_w]
        rfl
      refine pure_ (i := 12) (N := some 22) (v := undef) (a' := ?_) #[true, true, true, true, true, true, true, true, true, true, true, true, true, false] rfl rfl (any_of HT_.out (by kernel_rfl)) (fun _ _ _ h => h) (Or.inr ⟨by rfl, rfl⟩) ?_ ?_
      rotate_left
      · simp only [Act.put, List.setIfInBounds_toArray, List.set_cons_zero, List.set_cons_succ, i64_w, i32_w]
        rfl
      refine pure_ (i := 13) (N := some 23) (v := ?_) (a' := ?_) #[true, true, true, true, true, true, true, true, true, true, true, true, true, true] rfl rfl (any_of HT_.out (by kernel_rfl)) (fun _ _ _ h => h) (Or.inl ⟨by rfl, ?_⟩) ?_ ?_
      rotate_left
      · intro w'
        go_simp
        with_reducible rfl
      rotate_left
      · simp only [Act.put, List.setIfInBounds_toArray, List.set_cons_zero, List.set_cons_succ, i64_w, i32_w]
        rfl
      refine done_ (done_of HT_.out (by kernel_rfl)) ?_
      try go_wp2
      go_meet
      case rel => exact ⟨_, (false), (by first | rfl | (simp; done) | (simp [*]; done)), H', ⟨by first | omega | exact Nat.le_refl _⟩, ⟨by (with_reducible repeat (first | refine blk_drewN ?_ _ | refine blk_drew ?_ | refine blk_alloc ?_ _)); exact BK223.out⟩, ⟨by (with_reducible repeat (first | refine blk_drewN ?_ _ | refine blk_drew ?_ | refine blk_alloc ?_ _)); exact BK224.out⟩, ⟨by (with_reducible repeat (first | refine blk_drewN ?_ _ | refine blk_drew ?_ | refine blk_alloc ?_ _)); exact BK225.out⟩, ⟨by repeat (first | (with_reducible first | exact HB.out | apply below_alloc | apply pw_below_drewN | apply below_drew1 | refine below_set ?_ GE223.out | refine below_set ?_ GE224.out | refine below_set ?_ GE225.out) | exact HB.out)⟩⟩
  case rest =>
    clear HC4
    try clear c2
    try clear p2
    try clear c4
    try clear c9
    try clear c9b0
    obtain ⟨kq, x23_3, rfl, HA, HJ3, BK223, BK224, BK225, HB⟩ := hcut
    cases kq with
    | zero => exact absurd HA.out (by simp [bagatellelaw01_FixedMonotone.j0])
    | succ kj3 =>
      have H := HA.out
      clear HA
      simp only [bagatellelaw01_FixedMonotone.j0] at H
      by_cases c20 : x23_3 = true
      · subst c20
        have H1 : (none) = some r := by rw [if_pos rfl] at H; exact H
        clear H
        have H := H1
        clear H1
        exact absurd H (by simp)
      · replace c20 := Bool.eq_false_iff.mpr c20
        subst c20
        have H1 : ((fixed_Floor.f a0_0 a0_1).bind fun t232 => (if t232 < (-2147483648) then (bagatellelaw01_FixedMonotone.j1 kj3 t232 true a0_0 a0_1) else (if t232 ≥ 2147483648 then (bagatellelaw01_FixedMonotone.j1 kj3 t232 true a0_0 a0_1) else ((fixed_Abs.f a0_0 a0_1).bind fun bt233 => ((fixed_Order.f kj3 t232 4294967296 bt233.1 1).bind fun t235 => (if t235 > 0 then (bagatellelaw01_FixedMonotone.j1 kj3 t232 (decide (a0_0 ≥ 0)) a0_0 a0_1) else (bagatellelaw01_FixedMonotone.j1 kj3 t232 false a0_0 a0_1))))))) = some r := by rw [if_neg (show ¬ (false = true) by decide)] at H; exact H
        clear H
        have H := H1
        clear H1
        replace H := Option.bind_eq_some_iff.mp H
        obtain ⟨t232, A210, H⟩ := H
        replace H : (if t232 < (-2147483648) then (bagatellelaw01_FixedMonotone.j1 kj3 t232 true a0_0 a0_1) else (if t232 ≥ 2147483648 then (bagatellelaw01_FixedMonotone.j1 kj3 t232 true a0_0 a0_1) else ((fixed_Abs.f a0_0 a0_1).bind fun bt233 => ((fixed_Order.f kj3 t232 4294967296 bt233.1 1).bind fun t235 => (if t235 > 0 then (bagatellelaw01_FixedMonotone.j1 kj3 t232 (decide (a0_0 ≥ 0)) a0_0 a0_1) else (bagatellelaw01_FixedMonotone.j1 kj3 t232 false a0_0 a0_1)))))) = some r := H
        have A21 := Aside0.mk A210
        clear A210
        have HC22 := Aside0.mk H
        clear H
        have hnb23 := NB223_224.out
        have hnc23 := NB224_223.out
        have hnb24 := NB223_225.out
        have hnc24 := NB225_223.out
        have hcz25_0 : wc.cell? ⟨gb223, 0, none⟩ = some (.int .i64 a0_0) := (blk_cell BK223.out 0).trans rfl
        have hcz25_1 : wc.cell? ⟨gb223, 1, none⟩ = some (.bool a0_1) := (blk_cell BK223.out 1).trans rfl
        have hfz25_0 := blk_frozen BK223.out 0
        have hfz25_1 := blk_frozen BK223.out 1
        go_upto_region 4 with (first | ((with_reducible refine gate_callee (f := 17) rfl ?_); refine goesL_ (some 25) rfl rfl Try.func17 (by kernel_rfl) rfl #[.agg #[.int .i64 a0_0, .bool a0_1]] rfl (by (try simp only [List.map_toArray, List.map_cons, List.map_nil]); first | done | rfl | (simp only [List.length_drop, List.length_take]; rfl)) ?_; (with_reducible refine (fixed_Floor.calls a0_0 a0_1 t232 _ A21.out).mono ?_); rintro e w26 ⟨rfl, hb⟩; refine ⟨_, rfl, ?_⟩; have n0_ := Aside0.mk (blk_below (g := gb223) (o := .cells #[.int .i64 a0_0, .bool a0_1] 23 (0, 0)) (by (with_reducible repeat (first | refine blk_drewN ?_ _ | refine blk_drew ?_ | refine blk_alloc ?_ _)); exact BK223.out) hb); have n1_ := Aside0.mk (blk_below (g := gb224) (o := .cells #[.int .i64 a1_0, .bool a1_1] 23 (0, 0)) (by (with_reducible repeat (first | refine blk_drewN ?_ _ | refine blk_drew ?_ | refine blk_alloc ?_ _)); exact BK224.out) hb); have n2_ := Aside0.mk (blk_below (g := gb225) (o := .cells #[.int .i64 a2_0, .bool a2_1] 23 (0, 0)) (by (with_reducible repeat (first | refine blk_drewN ?_ _ | refine blk_drew ?_ | refine blk_alloc ?_ _)); exact BK225.out) hb); have n3_ := Aside0.mk (below_step (by repeat (first | (with_reducible first | exact HB.out | apply below_alloc | apply pw_below_drewN | apply below_drew1 | refine below_set ?_ GE223.out | refine below_set ?_ GE224.out | refine below_set ?_ GE225.out) | exact HB.out)) hb); clear BK223; clear BK224; clear BK225; clear HB; have BK223 := n0_; have BK224 := n1_; have BK225 := n2_; have HB := n3_; clear n0_ n1_ n2_ n3_; (try clear hb); (try clear hb2); (try clear hk); (try clear hi)))
        (try simp only [Act.put, List.setIfInBounds_toArray, List.set_cons_zero, List.set_cons_succ])
        go_cut [44] (fun v44 wc => ∃ (kq : Nat) (x44_21 : Bool), v44 = .bool x44_21 ∧ Aside0 (bagatellelaw01_FixedMonotone.j1 kq t232 x44_21 a0_0 a0_1 = some r) ∧ Aside0 (kq ≤ kj3) ∧ Aside0 (wc.heap[gb223]? = some (.cells #[.int .i64 a0_0, .bool a0_1] 23 (0, 0))) ∧ Aside0 (wc.heap[gb224]? = some (.cells #[.int .i64 a1_0, .bool a1_1] 23 (0, 0))) ∧ Aside0 (wc.heap[gb225]? = some (.cells #[.int .i64 a2_0, .bool a2_1] 23 (0, 0))) ∧ Aside0 (Below w.heap.size w wc))
        case first =>
          have H := HC22.out
          clear HC22
          by_cases c27 : t232 < (-2147483648)
          · rw [if_pos c27] at H
            have c27b0 : decide (t232 < (-2147483648)) = true := decide_eq_true c27
            clear c27
            (first | rw [c27b0] | (simp only [i64_w, i32_w]; rw [c27b0]) | skip)
            have H' := Aside0.mk H
            clear H
            go_wp2
            go_meet
            case rel => exact ⟨_, (true), (by first | rfl | (simp; done) | (simp [*]; done)), H', ⟨by have := HJ3.out; first | omega | exact Nat.le_refl _⟩, ⟨by (with_reducible repeat (first | refine blk_drewN ?_ _ | refine blk_drew ?_ | refine blk_alloc ?_ _)); exact BK223.out⟩, ⟨by (with_reducible repeat (first | refine blk_drewN ?_ _ | refine blk_drew ?_ | refine blk_alloc ?_ _)); exact BK224.out⟩, ⟨by (with_reducible repeat (first | refine blk_drewN ?_ _ | refine blk_drew ?_ | refine blk_alloc ?_ _)); exact BK225.out⟩, ⟨by repeat (first | (with_reducible first | exact HB.out | apply below_alloc | apply pw_below_drewN | apply below_drew1 | refine below_set ?_ GE223.out | refine below_set ?_ GE224.out | refine below_set ?_ GE225.out) | exact HB.out)⟩⟩
          · rw [if_neg c27] at H
            have c27b0 : decide (t232 < (-2147483648)) = false := decide_eq_false c27
            clear c27
            (first | rw [c27b0] | (simp only [i64_w, i32_w]; rw [c27b0]) | skip)
            by_cases c28 : t232 ≥ 2147483648
            · rw [if_pos c28] at H
              have c28b0 : decide (2147483648 ≤ t232) = true := decide_eq_true c28
              clear c28
              have H' := Aside0.mk H
              clear H
              go_wp2
              go_meet
              case rel => exact ⟨_, (true), (by first | rfl | (simp; done) | (simp [*]; done)), H', ⟨by have := HJ3.out; first | omega | exact Nat.le_refl _⟩, ⟨by (with_reducible repeat (first | refine blk_drewN ?_ _ | refine blk_drew ?_ | refine blk_alloc ?_ _)); exact BK223.out⟩, ⟨by (with_reducible repeat (first | refine blk_drewN ?_ _ | refine blk_drew ?_ | refine blk_alloc ?_ _)); exact BK224.out⟩, ⟨by (with_reducible repeat (first | refine blk_drewN ?_ _ | refine blk_drew ?_ | refine blk_alloc ?_ _)); exact BK225.out⟩, ⟨by repeat (first | (with_reducible first | exact HB.out | apply below_alloc | apply pw_below_drewN | apply below_drew1 | refine below_set ?_ GE223.out | refine below_set ?_ GE224.out | refine below_set ?_ GE225.out) | exact HB.out)⟩⟩
            · rw [if_neg c28] at H
              have c28b0 : decide (2147483648 ≤ t232) = false := decide_eq_false c28
              clear c28
              replace H := Option.bind_eq_some_iff.mp H
              obtain ⟨⟨t233, t234⟩, A290, H⟩ := H
              replace H : ((fixed_Order.f kj3 t232 4294967296 t233 1).bind fun t235 => (if t235 > 0 then (bagatellelaw01_FixedMonotone.j1 kj3 t232 (decide (a0_0 ≥ 0)) a0_0 a0_1) else (bagatellelaw01_FixedMonotone.j1 kj3 t232 false a0_0 a0_1))) = some r := H
              have A29 := Aside0.mk A290
              clear A290
              replace H := Option.bind_eq_some_iff.mp H
              obtain ⟨t235, A300, H⟩ := H
              replace H : (if t235 > 0 then (bagatellelaw01_FixedMonotone.j1 kj3 t232 (decide (a0_0 ≥ 0)) a0_0 a0_1) else (bagatellelaw01_FixedMonotone.j1 kj3 t232 false a0_0 a0_1)) = some r := H
              have A30 := Aside0.mk A300
              clear A300
              by_cases c31 : t235 > 0
              · rw [if_pos c31] at H
                have c31b0 : decide (0 < t235) = true := decide_eq_true c31
                clear c31
                have H' := Aside0.mk H
                clear H
                have hnb32 := NB223_224.out
                have hnc32 := NB224_223.out
                have hnb33 := NB223_225.out
                have hnc33 := NB225_223.out
                have hcz34_0 : w26.cell? ⟨gb223, 0, none⟩ = some (.int .i64 a0_0) := (blk_cell BK223.out 0).trans rfl
                have hcz34_1 : w26.cell? ⟨gb223, 1, none⟩ = some (.bool a0_1) := (blk_cell BK223.out 1).trans rfl
                have hfz34_0 := blk_frozen BK223.out 0
                have hfz34_1 := blk_frozen BK223.out 1
                go_wp2_with (first | (go_at_call 26; (with_reducible refine (fixed_Abs.calls a0_0 a0_1 t233 t234 _ A29.out).mono ?_); rintro e w35 ⟨rfl, hb⟩; have n0_ := Aside0.mk (blk_below (g := gb223) (o := .cells #[.int .i64 a0_0, .bool a0_1] 23 (0, 0)) (by (with_reducible repeat (first | refine blk_drewN ?_ _ | refine blk_drew ?_ | refine blk_alloc ?_ _)); exact BK223.out) hb); have n1_ := Aside0.mk (blk_below (g := gb224) (o := .cells #[.int .i64 a1_0, .bool a1_1] 23 (0, 0)) (by (with_reducible repeat (first | refine blk_drewN ?_ _ | refine blk_drew ?_ | refine blk_alloc ?_ _)); exact BK224.out) hb); have n2_ := Aside0.mk (blk_below (g := gb225) (o := .cells #[.int .i64 a2_0, .bool a2_1] 23 (0, 0)) (by (with_reducible repeat (first | refine blk_drewN ?_ _ | refine blk_drew ?_ | refine blk_alloc ?_ _)); exact BK225.out) hb); have n3_ := Aside0.mk (below_step (by repeat (first | (with_reducible first | exact HB.out | apply below_alloc | apply pw_below_drewN | apply below_drew1 | refine below_set ?_ GE223.out | refine below_set ?_ GE224.out | refine below_set ?_ GE225.out) | exact HB.out)) hb); clear BK223; clear BK224; clear BK225; clear HB; have BK223 := n0_; have BK224 := n1_; have BK225 := n2_; have HB := n3_; clear n0_ n1_ n2_ n3_; (try clear hb); (try clear hb2); (try clear hk); (try clear hi)) | (go_at_call 21; (with_reducible refine (fixed_Order.calls kj3 t232 4294967296 t233 1 t235 _ A30.out).mono ?_); rintro e w36 ⟨rfl, hb⟩; have n0_ := Aside0.mk (blk_below (g := gb223) (o := .cells #[.int .i64 a0_0, .bool a0_1] 23 (0, 0)) (by (with_reducible repeat (first | refine blk_drewN ?_ _ | refine blk_drew ?_ | refine blk_alloc ?_ _)); exact BK223.out) hb); have n1_ := Aside0.mk (blk_below (g := gb224) (o := .cells #[.int .i64 a1_0, .bool a1_1] 23 (0, 0)) (by (with_reducible repeat (first | refine blk_drewN ?_ _ | refine blk_drew ?_ | refine blk_alloc ?_ _)); exact BK224.out) hb); have n2_ := Aside0.mk (blk_below (g := gb225) (o := .cells #[.int .i64 a2_0, .bool a2_1] 23 (0, 0)) (by (with_reducible repeat (first | refine blk_drewN ?_ _ | refine blk_drew ?_ | refine blk_alloc ?_ _)); exact BK225.out) hb); have n3_ := Aside0.mk (below_step (by repeat (first | (with_reducible first | exact HB.out | apply below_alloc | apply pw_below_drewN | apply below_drew1 | refine below_set ?_ GE223.out | refine below_set ?_ GE224.out | refine below_set ?_ GE225.out) | exact HB.out)) hb); clear BK223; clear BK224; clear BK225; clear HB; have BK223 := n0_; have BK224 := n1_; have BK225 := n2_; have HB := n3_; clear n0_ n1_ n2_ n3_; (try clear hb); (try clear hb2); (try clear hk); (try clear hi); have hcz37_0 : w36.cell? ⟨gb223, 0, none⟩ = some (.int .i64 a0_0) := (blk_cell BK223.out 0).trans rfl; have hcz37_1 : w36.cell? ⟨gb223, 1, none⟩ = some (.bool a0_1) := (blk_cell BK223.out 1).trans rfl; have hfz37_0 := blk_frozen BK223.out 0; have hfz37_1 := blk_frozen BK223.out 1))
                go_meet
                case rel => exact ⟨_, (decide (a0_0 ≥ 0)), (by first | rfl | (simp; done) | (simp [*]; done)), H', ⟨by have := HJ3.out; first | omega | exact Nat.le_refl _⟩, ⟨by (with_reducible repeat (first | refine blk_drewN ?_ _ | refine blk_drew ?_ | refine blk_alloc ?_ _)); exact BK223.out⟩, ⟨by (with_reducible repeat (first | refine blk_drewN ?_ _ | refine blk_drew ?_ | refine blk_alloc ?_ _)); exact BK224.out⟩, ⟨by (with_reducible repeat (first | refine blk_drewN ?_ _ | refine blk_drew ?_ | refine blk_alloc ?_ _)); exact BK225.out⟩, ⟨by repeat (first | (with_reducible first | exact HB.out | apply below_alloc | apply pw_below_drewN | apply below_drew1 | refine below_set ?_ GE223.out | refine below_set ?_ GE224.out | refine below_set ?_ GE225.out) | exact HB.out)⟩⟩
              · rw [if_neg c31] at H
                have c31b0 : decide (0 < t235) = false := decide_eq_false c31
                clear c31
                have H' := Aside0.mk H
                clear H
                have hnb38 := NB223_224.out
                have hnc38 := NB224_223.out
                have hnb39 := NB223_225.out
                have hnc39 := NB225_223.out
                have hcz40_0 : w26.cell? ⟨gb223, 0, none⟩ = some (.int .i64 a0_0) := (blk_cell BK223.out 0).trans rfl
                have hcz40_1 : w26.cell? ⟨gb223, 1, none⟩ = some (.bool a0_1) := (blk_cell BK223.out 1).trans rfl
                have hfz40_0 := blk_frozen BK223.out 0
                have hfz40_1 := blk_frozen BK223.out 1
                go_wp2_with (first | (go_at_call 26; (with_reducible refine (fixed_Abs.calls a0_0 a0_1 t233 t234 _ A29.out).mono ?_); rintro e w41 ⟨rfl, hb⟩; have n0_ := Aside0.mk (blk_below (g := gb223) (o := .cells #[.int .i64 a0_0, .bool a0_1] 23 (0, 0)) (by (with_reducible repeat (first | refine blk_drewN ?_ _ | refine blk_drew ?_ | refine blk_alloc ?_ _)); exact BK223.out) hb); have n1_ := Aside0.mk (blk_below (g := gb224) (o := .cells #[.int .i64 a1_0, .bool a1_1] 23 (0, 0)) (by (with_reducible repeat (first | refine blk_drewN ?_ _ | refine blk_drew ?_ | refine blk_alloc ?_ _)); exact BK224.out) hb); have n2_ := Aside0.mk (blk_below (g := gb225) (o := .cells #[.int .i64 a2_0, .bool a2_1] 23 (0, 0)) (by (with_reducible repeat (first | refine blk_drewN ?_ _ | refine blk_drew ?_ | refine blk_alloc ?_ _)); exact BK225.out) hb); have n3_ := Aside0.mk (below_step (by repeat (first | (with_reducible first | exact HB.out | apply below_alloc | apply pw_below_drewN | apply below_drew1 | refine below_set ?_ GE223.out | refine below_set ?_ GE224.out | refine below_set ?_ GE225.out) | exact HB.out)) hb); clear BK223; clear BK224; clear BK225; clear HB; have BK223 := n0_; have BK224 := n1_; have BK225 := n2_; have HB := n3_; clear n0_ n1_ n2_ n3_; (try clear hb); (try clear hb2); (try clear hk); (try clear hi)) | (go_at_call 21; (with_reducible refine (fixed_Order.calls kj3 t232 4294967296 t233 1 t235 _ A30.out).mono ?_); rintro e w42 ⟨rfl, hb⟩; have n0_ := Aside0.mk (blk_below (g := gb223) (o := .cells #[.int .i64 a0_0, .bool a0_1] 23 (0, 0)) (by (with_reducible repeat (first | refine blk_drewN ?_ _ | refine blk_drew ?_ | refine blk_alloc ?_ _)); exact BK223.out) hb); have n1_ := Aside0.mk (blk_below (g := gb224) (o := .cells #[.int .i64 a1_0, .bool a1_1] 23 (0, 0)) (by (with_reducible repeat (first | refine blk_drewN ?_ _ | refine blk_drew ?_ | refine blk_alloc ?_ _)); exact BK224.out) hb); have n2_ := Aside0.mk (blk_below (g := gb225) (o := .cells #[.int .i64 a2_0, .bool a2_1] 23 (0, 0)) (by (with_reducible repeat (first | refine blk_drewN ?_ _ | refine blk_drew ?_ | refine blk_alloc ?_ _)); exact BK225.out) hb); have n3_ := Aside0.mk (below_step (by repeat (first | (with_reducible first | exact HB.out | apply below_alloc | apply pw_below_drewN | apply below_drew1 | refine below_set ?_ GE223.out | refine below_set ?_ GE224.out | refine below_set ?_ GE225.out) | exact HB.out)) hb); clear BK223; clear BK224; clear BK225; clear HB; have BK223 := n0_; have BK224 := n1_; have BK225 := n2_; have HB := n3_; clear n0_ n1_ n2_ n3_; (try clear hb); (try clear hb2); (try clear hk); (try clear hi)))
                go_meet
                case rel => exact ⟨_, (false), (by first | rfl | (simp; done) | (simp [*]; done)), H', ⟨by have := HJ3.out; first | omega | exact Nat.le_refl _⟩, ⟨by (with_reducible repeat (first | refine blk_drewN ?_ _ | refine blk_drew ?_ | refine blk_alloc ?_ _)); exact BK223.out⟩, ⟨by (with_reducible repeat (first | refine blk_drewN ?_ _ | refine blk_drew ?_ | refine blk_alloc ?_ _)); exact BK224.out⟩, ⟨by (with_reducible repeat (first | refine blk_drewN ?_ _ | refine blk_drew ?_ | refine blk_alloc ?_ _)); exact BK225.out⟩, ⟨by repeat (first | (with_reducible first | exact HB.out | apply below_alloc | apply pw_below_drewN | apply below_drew1 | refine below_set ?_ GE223.out | refine below_set ?_ GE224.out | refine below_set ?_ GE225.out) | exact HB.out)⟩⟩
        case rest =>
          clear HC22
          try clear c1
          try clear c2
          try clear p2
          try clear c3
          try clear c4
          try clear c9
          try clear c9b0
          try clear c17
          try clear c20
          try clear c23
          try clear c24
          try clear c25
          try clear c27
          try clear c27b0
          try clear c28
          try clear c28b0
          try clear c31
          try clear c31b0
          try clear c32
          try clear c33
          try clear c38
          try clear c39
          try clear hcz25_0
          try clear hcz25_1
          try clear hcz34_0
          try clear hcz34_1
          try clear hcz37_0
          try clear hcz37_1
          try clear hcz40_0
          try clear hcz40_1
          try clear hfz25_0
          try clear hfz25_1
          try clear hfz34_0
          try clear hfz34_1
          try clear hfz37_0
          try clear hfz37_1
          try clear hfz40_0
          try clear hfz40_1
          try clear p2
          obtain ⟨kq, x44_21, rfl, HA, HJ21, BK223, BK224, BK225, HB⟩ := hcut
          cases kq with
          | zero => exact absurd HA.out (by simp [bagatellelaw01_FixedMonotone.j1])
          | succ kj21 =>
            have H := HA.out
            clear HA
            simp only [bagatellelaw01_FixedMonotone.j1] at H
            by_cases c43 : x44_21 = true
            · subst c43
              have H1 : (none) = some r := by rw [if_pos rfl] at H; exact H
              clear H
              have H := H1
              clear H1
              exact absurd H (by simp)
            · replace c43 := Bool.eq_false_iff.mpr c43
              subst c43
              have H1 : (if a0_0 = (-9223372036854775808) then ((fixed_Round.f a0_0 a0_1).bind fun t236 => (if t232 = ((wrap64 (a0_0 + 1)) / 4294967296) then (if (wrap64 (t236 - t232)) = 0 then (if (((wrap64 (t236 - t232)) == 1) == (decide ((wrap64 ((wrap64 (a0_0 + 1)) - (wrap64 (t232 * 4294967296)))) ≥ 2147483648))) = true then ((bagatellelaw01_awake.f kj21).bind fun t237 => (some t237)) else (none)) else (if (wrap64 (t236 - t232)) = 1 then (if (((wrap64 (t236 - t232)) == 1) == (decide ((wrap64 ((wrap64 (a0_0 + 1)) - (wrap64 (t232 * 4294967296)))) ≥ 2147483648))) = true then ((bagatellelaw01_awake.f kj21).bind fun t238 => (some t238)) else (none)) else (none))) else (none))) else ((fixed_Round.f a0_0 a0_1).bind fun t239 => (if t232 = (a0_0 / 4294967296) then (if (wrap64 (t239 - t232)) = 0 then (if (((wrap64 (t239 - t232)) == 1) == (decide ((wrap64 (a0_0 - (wrap64 (t232 * 4294967296)))) ≥ 2147483648))) = true then ((bagatellelaw01_awake.f kj21).bind fun t240 => (some t240)) else (none)) else (if (wrap64 (t239 - t232)) = 1 then (if (((wrap64 (t239 - t232)) == 1) == (decide ((wrap64 (a0_0 - (wrap64 (t232 * 4294967296)))) ≥ 2147483648))) = true then ((bagatellelaw01_awake.f kj21).bind fun t241 => (some t241)) else (none)) else (none))) else (none)))) = some r := by rw [if_neg (show ¬ (false = true) by decide)] at H; exact H
              clear H
              have H := H1
              clear H1
              by_cases c44 : a0_0 = (-9223372036854775808)
              · rw [if_pos c44] at H
                have c44b0 : (a0_0 == (-9223372036854775808)) = true := beq_iff_eq.mpr c44
                have c44b1 : (a0_0 != (-9223372036854775808)) = false := bne_eq_false_iff_eq.mpr c44
                clear c44
                replace H := Option.bind_eq_some_iff.mp H
                obtain ⟨t236, A450, H⟩ := H
                replace H : (if t232 = ((wrap64 (a0_0 + 1)) / 4294967296) then (if (wrap64 (t236 - t232)) = 0 then (if (((wrap64 (t236 - t232)) == 1) == (decide ((wrap64 ((wrap64 (a0_0 + 1)) - (wrap64 (t232 * 4294967296)))) ≥ 2147483648))) = true then ((bagatellelaw01_awake.f kj21).bind fun t237 => (some t237)) else (none)) else (if (wrap64 (t236 - t232)) = 1 then (if (((wrap64 (t236 - t232)) == 1) == (decide ((wrap64 ((wrap64 (a0_0 + 1)) - (wrap64 (t232 * 4294967296)))) ≥ 2147483648))) = true then ((bagatellelaw01_awake.f kj21).bind fun t238 => (some t238)) else (none)) else (none))) else (none)) = some r := H
                have A45 := Aside0.mk A450
                clear A450
                by_cases c46 : t232 = ((wrap64 (a0_0 + 1)) / 4294967296)
                · rw [if_pos c46] at H
                  have c46b0 : (t232 == ((wrap64 (a0_0 + 1)) / 4294967296)) = true := beq_iff_eq.mpr c46
                  have c46b1 : (t232 != ((wrap64 (a0_0 + 1)) / 4294967296)) = false := bne_eq_false_iff_eq.mpr c46
                  clear c46
                  by_cases c47 : (wrap64 (t236 - t232)) = 0
                  · rw [if_pos c47] at H
                    have c47b0 : ((wrap64 (t236 - t232)) == 0) = true := beq_iff_eq.mpr c47
                    have c47b1 : ((wrap64 (t236 - t232)) != 0) = false := bne_eq_false_iff_eq.mpr c47
                    clear c47
                    by_cases c48 : (((wrap64 (t236 - t232)) == 1) == (decide ((wrap64 ((wrap64 (a0_0 + 1)) - (wrap64 (t232 * 4294967296)))) ≥ 2147483648))) = true
                    · rw [if_pos c48] at H
                      have c48b0 : (((wrap64 (t236 - t232)) == 1) == (decide ((wrap64 ((wrap64 (a0_0 + 1)) - (wrap64 (t232 * 4294967296)))) ≥ 2147483648))) = true := c48
                      (try (have c48b1 : decide (((wrap64 (t236 - t232)) == 1) = (decide ((wrap64 ((wrap64 (a0_0 + 1)) - (wrap64 (t232 * 4294967296)))) ≥ 2147483648))) = true := by simpa using c48))
                      (try (have c48b2 : (((wrap64 (t236 - t232)) == 1) == (decide ((wrap64 ((wrap64 (a0_0 + 1)) - (wrap64 (t232 * 4294967296)))) ≥ 2147483648))) = true := by simpa using c48))
                      clear c48
                      replace H := Option.bind_eq_some_iff.mp H
                      obtain ⟨t237, A490, H⟩ := H
                      replace H : (some t237) = some r := H
                      have A49 := Aside0.mk A490
                      clear A490
                      obtain rfl := Option.some.inj H
                      have hnb50 := NB223_224.out
                      have hnc50 := NB224_223.out
                      have hnb51 := NB223_225.out
                      have hnc51 := NB225_223.out
                      have hcz52_0 : wc.cell? ⟨gb223, 0, none⟩ = some (.int .i64 a0_0) := (blk_cell BK223.out 0).trans rfl
                      have hcz52_1 : wc.cell? ⟨gb223, 1, none⟩ = some (.bool a0_1) := (blk_cell BK223.out 1).trans rfl
                      have hfz52_0 := blk_frozen BK223.out 0
                      have hfz52_1 := blk_frozen BK223.out 1
                      go_wp2_with (first | ((with_reducible refine gate_callee (f := 19) rfl ?_); refine goesL_ (some 52) rfl rfl Try.func19 (by kernel_rfl) rfl #[.agg #[.int .i64 a0_0, .bool a0_1]] rfl (by (try simp only [List.map_toArray, List.map_cons, List.map_nil]); first | done | rfl | (simp only [List.length_drop, List.length_take]; rfl)) ?_; (with_reducible refine (fixed_Round.calls a0_0 a0_1 t236 _ A45.out).mono ?_); rintro e w53 ⟨rfl, hb⟩; refine ⟨_, rfl, ?_⟩; have n0_ := Aside0.mk (blk_below (g := gb223) (o := .cells #[.int .i64 a0_0, .bool a0_1] 23 (0, 0)) (by (with_reducible repeat (first | refine blk_drewN ?_ _ | refine blk_drew ?_ | refine blk_alloc ?_ _)); exact BK223.out) hb); have n1_ := Aside0.mk (blk_below (g := gb224) (o := .cells #[.int .i64 a1_0, .bool a1_1] 23 (0, 0)) (by (with_reducible repeat (first | refine blk_drewN ?_ _ | refine blk_drew ?_ | refine blk_alloc ?_ _)); exact BK224.out) hb); have n2_ := Aside0.mk (blk_below (g := gb225) (o := .cells #[.int .i64 a2_0, .bool a2_1] 23 (0, 0)) (by (with_reducible repeat (first | refine blk_drewN ?_ _ | refine blk_drew ?_ | refine blk_alloc ?_ _)); exact BK225.out) hb); have n3_ := Aside0.mk (below_step (by repeat (first | (with_reducible first | exact HB.out | apply below_alloc | apply pw_below_drewN | apply below_drew1 | refine below_set ?_ GE223.out | refine below_set ?_ GE224.out | refine below_set ?_ GE225.out) | exact HB.out)) hb); clear BK223; clear BK224; clear BK225; clear HB; have BK223 := n0_; have BK224 := n1_; have BK225 := n2_; have HB := n3_; clear n0_ n1_ n2_ n3_; (try clear hb); (try clear hb2); (try clear hk); (try clear hi)) | (go_at_call 23; (with_reducible refine (bagatellelaw01_awake.calls kj21  t237 _ A49.out).mono ?_); rintro e w54 ⟨rfl, hb⟩; have n0_ := Aside0.mk (blk_below (g := gb223) (o := .cells #[.int .i64 a0_0, .bool a0_1] 23 (0, 0)) (by (with_reducible repeat (first | refine blk_drewN ?_ _ | refine blk_drew ?_ | refine blk_alloc ?_ _)); exact BK223.out) hb); have n1_ := Aside0.mk (blk_below (g := gb224) (o := .cells #[.int .i64 a1_0, .bool a1_1] 23 (0, 0)) (by (with_reducible repeat (first | refine blk_drewN ?_ _ | refine blk_drew ?_ | refine blk_alloc ?_ _)); exact BK224.out) hb); have n2_ := Aside0.mk (blk_below (g := gb225) (o := .cells #[.int .i64 a2_0, .bool a2_1] 23 (0, 0)) (by (with_reducible repeat (first | refine blk_drewN ?_ _ | refine blk_drew ?_ | refine blk_alloc ?_ _)); exact BK225.out) hb); have n3_ := Aside0.mk (below_step (by repeat (first | (with_reducible first | exact HB.out | apply below_alloc | apply pw_below_drewN | apply below_drew1 | refine below_set ?_ GE223.out | refine below_set ?_ GE224.out | refine below_set ?_ GE225.out) | exact HB.out)) hb); clear BK223; clear BK224; clear BK225; clear HB; have BK223 := n0_; have BK224 := n1_; have BK225 := n2_; have HB := n3_; clear n0_ n1_ n2_ n3_; (try clear hb); (try clear hb2); (try clear hk); (try clear hi)))
                      go_ret
                      exact ⟨by first | rfl | (simp [errW_none, errW_some] <;> rfl) | (simp [*, errW_none, errW_some] <;> rfl), by repeat (first | (with_reducible first | exact HB.out | apply below_alloc | apply pw_below_drewN | apply below_drew1 | refine below_set ?_ GE223.out | refine below_set ?_ GE224.out | refine below_set ?_ GE225.out) | exact HB.out)⟩
                    · rw [if_neg c48] at H
                      exact absurd H (by simp)
                  · rw [if_neg c47] at H
                    have c47b0 : ((wrap64 (t236 - t232)) == 0) = false := beq_eq_false_iff_ne.mpr c47
                    have c47b1 : ((wrap64 (t236 - t232)) != 0) = true := bne_iff_ne.mpr c47
                    by_cases c55 : (wrap64 (t236 - t232)) = 1
                    · rw [if_pos c55] at H
                      have c55b0 : ((wrap64 (t236 - t232)) == 1) = true := beq_iff_eq.mpr c55
                      have c55b1 : ((wrap64 (t236 - t232)) != 1) = false := bne_eq_false_iff_eq.mpr c55
                      clear c55
                      by_cases c56 : (((wrap64 (t236 - t232)) == 1) == (decide ((wrap64 ((wrap64 (a0_0 + 1)) - (wrap64 (t232 * 4294967296)))) ≥ 2147483648))) = true
                      · rw [if_pos c56] at H
                        have c56b0 : (((wrap64 (t236 - t232)) == 1) == (decide ((wrap64 ((wrap64 (a0_0 + 1)) - (wrap64 (t232 * 4294967296)))) ≥ 2147483648))) = true := c56
                        have c56d : decide ((wrap64 ((wrap64 (a0_0 + 1)) - (wrap64 (t232 * 4294967296)))) ≥ 2147483648) = true := by have z := c56b0; rw [c55b0] at z; simpa using z
                        (try (have c56b1 : decide (((wrap64 (t236 - t232)) == 1) = (decide ((wrap64 ((wrap64 (a0_0 + 1)) - (wrap64 (t232 * 4294967296)))) ≥ 2147483648))) = true := by simpa using c56))
                        (try (have c56b2 : (((wrap64 (t236 - t232)) == 1) == (decide ((wrap64 ((wrap64 (a0_0 + 1)) - (wrap64 (t232 * 4294967296)))) ≥ 2147483648))) = true := by simpa using c56))
                        clear c56
                        replace H := Option.bind_eq_some_iff.mp H
                        obtain ⟨t238, A570, H⟩ := H
                        replace H : (some t238) = some r := H
                        have A57 := Aside0.mk A570
                        clear A570
                        obtain rfl := Option.some.inj H
                        have hnb58 := NB223_224.out
                        have hnc58 := NB224_223.out
                        have hnb59 := NB223_225.out
                        have hnc59 := NB225_223.out
                        have hcz60_0 : wc.cell? ⟨gb223, 0, none⟩ = some (.int .i64 a0_0) := (blk_cell BK223.out 0).trans rfl
                        have hcz60_1 : wc.cell? ⟨gb223, 1, none⟩ = some (.bool a0_1) := (blk_cell BK223.out 1).trans rfl
                        have hfz60_0 := blk_frozen BK223.out 0
                        have hfz60_1 := blk_frozen BK223.out 1
                        go_wp2_with (first | ((with_reducible refine gate_callee (f := 19) rfl ?_); refine goesL_ (some 52) rfl rfl Try.func19 (by kernel_rfl) rfl #[.agg #[.int .i64 a0_0, .bool a0_1]] rfl (by (try simp only [List.map_toArray, List.map_cons, List.map_nil]); first | done | rfl | (simp only [List.length_drop, List.length_take]; rfl)) ?_; (with_reducible refine (fixed_Round.calls a0_0 a0_1 t236 _ A45.out).mono ?_); rintro e w61 ⟨rfl, hb⟩; refine ⟨_, rfl, ?_⟩; have n0_ := Aside0.mk (blk_below (g := gb223) (o := .cells #[.int .i64 a0_0, .bool a0_1] 23 (0, 0)) (by (with_reducible repeat (first | refine blk_drewN ?_ _ | refine blk_drew ?_ | refine blk_alloc ?_ _)); exact BK223.out) hb); have n1_ := Aside0.mk (blk_below (g := gb224) (o := .cells #[.int .i64 a1_0, .bool a1_1] 23 (0, 0)) (by (with_reducible repeat (first | refine blk_drewN ?_ _ | refine blk_drew ?_ | refine blk_alloc ?_ _)); exact BK224.out) hb); have n2_ := Aside0.mk (blk_below (g := gb225) (o := .cells #[.int .i64 a2_0, .bool a2_1] 23 (0, 0)) (by (with_reducible repeat (first | refine blk_drewN ?_ _ | refine blk_drew ?_ | refine blk_alloc ?_ _)); exact BK225.out) hb); have n3_ := Aside0.mk (below_step (by repeat (first | (with_reducible first | exact HB.out | apply below_alloc | apply pw_below_drewN | apply below_drew1 | refine below_set ?_ GE223.out | refine below_set ?_ GE224.out | refine below_set ?_ GE225.out) | exact HB.out)) hb); clear BK223; clear BK224; clear BK225; clear HB; have BK223 := n0_; have BK224 := n1_; have BK225 := n2_; have HB := n3_; clear n0_ n1_ n2_ n3_; (try clear hb); (try clear hb2); (try clear hk); (try clear hi)) | (go_at_call 23; (with_reducible refine (bagatellelaw01_awake.calls kj21  t238 _ A57.out).mono ?_); rintro e w62 ⟨rfl, hb⟩; have n0_ := Aside0.mk (blk_below (g := gb223) (o := .cells #[.int .i64 a0_0, .bool a0_1] 23 (0, 0)) (by (with_reducible repeat (first | refine blk_drewN ?_ _ | refine blk_drew ?_ | refine blk_alloc ?_ _)); exact BK223.out) hb); have n1_ := Aside0.mk (blk_below (g := gb224) (o := .cells #[.int .i64 a1_0, .bool a1_1] 23 (0, 0)) (by (with_reducible repeat (first | refine blk_drewN ?_ _ | refine blk_drew ?_ | refine blk_alloc ?_ _)); exact BK224.out) hb); have n2_ := Aside0.mk (blk_below (g := gb225) (o := .cells #[.int .i64 a2_0, .bool a2_1] 23 (0, 0)) (by (with_reducible repeat (first | refine blk_drewN ?_ _ | refine blk_drew ?_ | refine blk_alloc ?_ _)); exact BK225.out) hb); have n3_ := Aside0.mk (below_step (by repeat (first | (with_reducible first | exact HB.out | apply below_alloc | apply pw_below_drewN | apply below_drew1 | refine below_set ?_ GE223.out | refine below_set ?_ GE224.out | refine below_set ?_ GE225.out) | exact HB.out)) hb); clear BK223; clear BK224; clear BK225; clear HB; have BK223 := n0_; have BK224 := n1_; have BK225 := n2_; have HB := n3_; clear n0_ n1_ n2_ n3_; (try clear hb); (try clear hb2); (try clear hk); (try clear hi)))
                        go_ret
                        exact ⟨by first | rfl | (simp [errW_none, errW_some] <;> rfl) | (simp [*, errW_none, errW_some] <;> rfl), by repeat (first | (with_reducible first | exact HB.out | apply below_alloc | apply pw_below_drewN | apply below_drew1 | refine below_set ?_ GE223.out | refine below_set ?_ GE224.out | refine below_set ?_ GE225.out) | exact HB.out)⟩
                      · rw [if_neg c56] at H
                        exact absurd H (by simp)
                    · rw [if_neg c55] at H
                      exact absurd H (by simp)
                · rw [if_neg c46] at H
                  exact absurd H (by simp)
              · rw [if_neg c44] at H
                have c44b0 : (a0_0 == (-9223372036854775808)) = false := beq_eq_false_iff_ne.mpr c44
                have c44b1 : (a0_0 != (-9223372036854775808)) = true := bne_iff_ne.mpr c44
                replace H := Option.bind_eq_some_iff.mp H
                obtain ⟨t239, A630, H⟩ := H
                replace H : (if t232 = (a0_0 / 4294967296) then (if (wrap64 (t239 - t232)) = 0 then (if (((wrap64 (t239 - t232)) == 1) == (decide ((wrap64 (a0_0 - (wrap64 (t232 * 4294967296)))) ≥ 2147483648))) = true then ((bagatellelaw01_awake.f kj21).bind fun t240 => (some t240)) else (none)) else (if (wrap64 (t239 - t232)) = 1 then (if (((wrap64 (t239 - t232)) == 1) == (decide ((wrap64 (a0_0 - (wrap64 (t232 * 4294967296)))) ≥ 2147483648))) = true then ((bagatellelaw01_awake.f kj21).bind fun t241 => (some t241)) else (none)) else (none))) else (none)) = some r := H
                have A63 := Aside0.mk A630
                clear A630
                by_cases c64 : t232 = (a0_0 / 4294967296)
                · rw [if_pos c64] at H
                  have c64b0 : (t232 == (a0_0 / 4294967296)) = true := beq_iff_eq.mpr c64
                  have c64b1 : (t232 != (a0_0 / 4294967296)) = false := bne_eq_false_iff_eq.mpr c64
                  clear c64
                  by_cases c65 : (wrap64 (t239 - t232)) = 0
                  · rw [if_pos c65] at H
                    have c65b0 : ((wrap64 (t239 - t232)) == 0) = true := beq_iff_eq.mpr c65
                    have c65b1 : ((wrap64 (t239 - t232)) != 0) = false := bne_eq_false_iff_eq.mpr c65
                    clear c65
                    by_cases c66 : (((wrap64 (t239 - t232)) == 1) == (decide ((wrap64 (a0_0 - (wrap64 (t232 * 4294967296)))) ≥ 2147483648))) = true
                    · rw [if_pos c66] at H
                      have c66b0 : (((wrap64 (t239 - t232)) == 1) == (decide ((wrap64 (a0_0 - (wrap64 (t232 * 4294967296)))) ≥ 2147483648))) = true := c66
                      (try (have c66b1 : decide (((wrap64 (t239 - t232)) == 1) = (decide ((wrap64 (a0_0 - (wrap64 (t232 * 4294967296)))) ≥ 2147483648))) = true := by simpa using c66))
                      (try (have c66b2 : (((wrap64 (t239 - t232)) == 1) == (decide ((wrap64 (a0_0 - (wrap64 (t232 * 4294967296)))) ≥ 2147483648))) = true := by simpa using c66))
                      clear c66
                      replace H := Option.bind_eq_some_iff.mp H
                      obtain ⟨t240, A670, H⟩ := H
                      replace H : (some t240) = some r := H
                      have A67 := Aside0.mk A670
                      clear A670
                      obtain rfl := Option.some.inj H
                      have hnb68 := NB223_224.out
                      have hnc68 := NB224_223.out
                      have hnb69 := NB223_225.out
                      have hnc69 := NB225_223.out
                      have hcz70_0 : wc.cell? ⟨gb223, 0, none⟩ = some (.int .i64 a0_0) := (blk_cell BK223.out 0).trans rfl
                      have hcz70_1 : wc.cell? ⟨gb223, 1, none⟩ = some (.bool a0_1) := (blk_cell BK223.out 1).trans rfl
                      have hfz70_0 := blk_frozen BK223.out 0
                      have hfz70_1 := blk_frozen BK223.out 1
                      go_wp2_with (first | ((with_reducible refine gate_callee (f := 19) rfl ?_); refine goesL_ (some 52) rfl rfl Try.func19 (by kernel_rfl) rfl #[.agg #[.int .i64 a0_0, .bool a0_1]] rfl (by (try simp only [List.map_toArray, List.map_cons, List.map_nil]); first | done | rfl | (simp only [List.length_drop, List.length_take]; rfl)) ?_; (with_reducible refine (fixed_Round.calls a0_0 a0_1 t239 _ A63.out).mono ?_); rintro e w71 ⟨rfl, hb⟩; refine ⟨_, rfl, ?_⟩; have n0_ := Aside0.mk (blk_below (g := gb223) (o := .cells #[.int .i64 a0_0, .bool a0_1] 23 (0, 0)) (by (with_reducible repeat (first | refine blk_drewN ?_ _ | refine blk_drew ?_ | refine blk_alloc ?_ _)); exact BK223.out) hb); have n1_ := Aside0.mk (blk_below (g := gb224) (o := .cells #[.int .i64 a1_0, .bool a1_1] 23 (0, 0)) (by (with_reducible repeat (first | refine blk_drewN ?_ _ | refine blk_drew ?_ | refine blk_alloc ?_ _)); exact BK224.out) hb); have n2_ := Aside0.mk (blk_below (g := gb225) (o := .cells #[.int .i64 a2_0, .bool a2_1] 23 (0, 0)) (by (with_reducible repeat (first | refine blk_drewN ?_ _ | refine blk_drew ?_ | refine blk_alloc ?_ _)); exact BK225.out) hb); have n3_ := Aside0.mk (below_step (by repeat (first | (with_reducible first | exact HB.out | apply below_alloc | apply pw_below_drewN | apply below_drew1 | refine below_set ?_ GE223.out | refine below_set ?_ GE224.out | refine below_set ?_ GE225.out) | exact HB.out)) hb); clear BK223; clear BK224; clear BK225; clear HB; have BK223 := n0_; have BK224 := n1_; have BK225 := n2_; have HB := n3_; clear n0_ n1_ n2_ n3_; (try clear hb); (try clear hb2); (try clear hk); (try clear hi)) | (go_at_call 23; (with_reducible refine (bagatellelaw01_awake.calls kj21  t240 _ A67.out).mono ?_); rintro e w72 ⟨rfl, hb⟩; have n0_ := Aside0.mk (blk_below (g := gb223) (o := .cells #[.int .i64 a0_0, .bool a0_1] 23 (0, 0)) (by (with_reducible repeat (first | refine blk_drewN ?_ _ | refine blk_drew ?_ | refine blk_alloc ?_ _)); exact BK223.out) hb); have n1_ := Aside0.mk (blk_below (g := gb224) (o := .cells #[.int .i64 a1_0, .bool a1_1] 23 (0, 0)) (by (with_reducible repeat (first | refine blk_drewN ?_ _ | refine blk_drew ?_ | refine blk_alloc ?_ _)); exact BK224.out) hb); have n2_ := Aside0.mk (blk_below (g := gb225) (o := .cells #[.int .i64 a2_0, .bool a2_1] 23 (0, 0)) (by (with_reducible repeat (first | refine blk_drewN ?_ _ | refine blk_drew ?_ | refine blk_alloc ?_ _)); exact BK225.out) hb); have n3_ := Aside0.mk (below_step (by repeat (first | (with_reducible first | exact HB.out | apply below_alloc | apply pw_below_drewN | apply below_drew1 | refine below_set ?_ GE223.out | refine below_set ?_ GE224.out | refine below_set ?_ GE225.out) | exact HB.out)) hb); clear BK223; clear BK224; clear BK225; clear HB; have BK223 := n0_; have BK224 := n1_; have BK225 := n2_; have HB := n3_; clear n0_ n1_ n2_ n3_; (try clear hb); (try clear hb2); (try clear hk); (try clear hi)))
                      go_ret
                      exact ⟨by first | rfl | (simp [errW_none, errW_some] <;> rfl) | (simp [*, errW_none, errW_some] <;> rfl), by repeat (first | (with_reducible first | exact HB.out | apply below_alloc | apply pw_below_drewN | apply below_drew1 | refine below_set ?_ GE223.out | refine below_set ?_ GE224.out | refine below_set ?_ GE225.out) | exact HB.out)⟩
                    · rw [if_neg c66] at H
                      exact absurd H (by simp)
                  · rw [if_neg c65] at H
                    have c65b0 : ((wrap64 (t239 - t232)) == 0) = false := beq_eq_false_iff_ne.mpr c65
                    have c65b1 : ((wrap64 (t239 - t232)) != 0) = true := bne_iff_ne.mpr c65
                    by_cases c73 : (wrap64 (t239 - t232)) = 1
                    · rw [if_pos c73] at H
                      have c73b0 : ((wrap64 (t239 - t232)) == 1) = true := beq_iff_eq.mpr c73
                      have c73b1 : ((wrap64 (t239 - t232)) != 1) = false := bne_eq_false_iff_eq.mpr c73
                      clear c73
                      by_cases c74 : (((wrap64 (t239 - t232)) == 1) == (decide ((wrap64 (a0_0 - (wrap64 (t232 * 4294967296)))) ≥ 2147483648))) = true
                      · rw [if_pos c74] at H
                        have c74b0 : (((wrap64 (t239 - t232)) == 1) == (decide ((wrap64 (a0_0 - (wrap64 (t232 * 4294967296)))) ≥ 2147483648))) = true := c74
                        have c74d : decide ((wrap64 (a0_0 - (wrap64 (t232 * 4294967296)))) ≥ 2147483648) = true := by have z := c74b0; rw [c73b0] at z; simpa using z
                        (try (have c74b1 : decide (((wrap64 (t239 - t232)) == 1) = (decide ((wrap64 (a0_0 - (wrap64 (t232 * 4294967296)))) ≥ 2147483648))) = true := by simpa using c74))
                        (try (have c74b2 : (((wrap64 (t239 - t232)) == 1) == (decide ((wrap64 (a0_0 - (wrap64 (t232 * 4294967296)))) ≥ 2147483648))) = true := by simpa using c74))
                        clear c74
                        replace H := Option.bind_eq_some_iff.mp H
                        obtain ⟨t241, A750, H⟩ := H
                        replace H : (some t241) = some r := H
                        have A75 := Aside0.mk A750
                        clear A750
                        obtain rfl := Option.some.inj H
                        have hnb76 := NB223_224.out
                        have hnc76 := NB224_223.out
                        have hnb77 := NB223_225.out
                        have hnc77 := NB225_223.out
                        have hcz78_0 : wc.cell? ⟨gb223, 0, none⟩ = some (.int .i64 a0_0) := (blk_cell BK223.out 0).trans rfl
                        have hcz78_1 : wc.cell? ⟨gb223, 1, none⟩ = some (.bool a0_1) := (blk_cell BK223.out 1).trans rfl
                        have hfz78_0 := blk_frozen BK223.out 0
                        have hfz78_1 := blk_frozen BK223.out 1
                        go_wp2_with (first | ((with_reducible refine gate_callee (f := 19) rfl ?_); refine goesL_ (some 52) rfl rfl Try.func19 (by kernel_rfl) rfl #[.agg #[.int .i64 a0_0, .bool a0_1]] rfl (by (try simp only [List.map_toArray, List.map_cons, List.map_nil]); first | done | rfl | (simp only [List.length_drop, List.length_take]; rfl)) ?_; (with_reducible refine (fixed_Round.calls a0_0 a0_1 t239 _ A63.out).mono ?_); rintro e w79 ⟨rfl, hb⟩; refine ⟨_, rfl, ?_⟩; have n0_ := Aside0.mk (blk_below (g := gb223) (o := .cells #[.int .i64 a0_0, .bool a0_1] 23 (0, 0)) (by (with_reducible repeat (first | refine blk_drewN ?_ _ | refine blk_drew ?_ | refine blk_alloc ?_ _)); exact BK223.out) hb); have n1_ := Aside0.mk (blk_below (g := gb224) (o := .cells #[.int .i64 a1_0, .bool a1_1] 23 (0, 0)) (by (with_reducible repeat (first | refine blk_drewN ?_ _ | refine blk_drew ?_ | refine blk_alloc ?_ _)); exact BK224.out) hb); have n2_ := Aside0.mk (blk_below (g := gb225) (o := .cells #[.int .i64 a2_0, .bool a2_1] 23 (0, 0)) (by (with_reducible repeat (first | refine blk_drewN ?_ _ | refine blk_drew ?_ | refine blk_alloc ?_ _)); exact BK225.out) hb); have n3_ := Aside0.mk (below_step (by repeat (first | (with_reducible first | exact HB.out | apply below_alloc | apply pw_below_drewN | apply below_drew1 | refine below_set ?_ GE223.out | refine below_set ?_ GE224.out | refine below_set ?_ GE225.out) | exact HB.out)) hb); clear BK223; clear BK224; clear BK225; clear HB; have BK223 := n0_; have BK224 := n1_; have BK225 := n2_; have HB := n3_; clear n0_ n1_ n2_ n3_; (try clear hb); (try clear hb2); (try clear hk); (try clear hi)) | (go_at_call 23; (with_reducible refine (bagatellelaw01_awake.calls kj21  t241 _ A75.out).mono ?_); rintro e w80 ⟨rfl, hb⟩; have n0_ := Aside0.mk (blk_below (g := gb223) (o := .cells #[.int .i64 a0_0, .bool a0_1] 23 (0, 0)) (by (with_reducible repeat (first | refine blk_drewN ?_ _ | refine blk_drew ?_ | refine blk_alloc ?_ _)); exact BK223.out) hb); have n1_ := Aside0.mk (blk_below (g := gb224) (o := .cells #[.int .i64 a1_0, .bool a1_1] 23 (0, 0)) (by (with_reducible repeat (first | refine blk_drewN ?_ _ | refine blk_drew ?_ | refine blk_alloc ?_ _)); exact BK224.out) hb); have n2_ := Aside0.mk (blk_below (g := gb225) (o := .cells #[.int .i64 a2_0, .bool a2_1] 23 (0, 0)) (by (with_reducible repeat (first | refine blk_drewN ?_ _ | refine blk_drew ?_ | refine blk_alloc ?_ _)); exact BK225.out) hb); have n3_ := Aside0.mk (below_step (by repeat (first | (with_reducible first | exact HB.out | apply below_alloc | apply pw_below_drewN | apply below_drew1 | refine below_set ?_ GE223.out | refine below_set ?_ GE224.out | refine below_set ?_ GE225.out) | exact HB.out)) hb); clear BK223; clear BK224; clear BK225; clear HB; have BK223 := n0_; have BK224 := n1_; have BK225 := n2_; have HB := n3_; clear n0_ n1_ n2_ n3_; (try clear hb); (try clear hb2); (try clear hk); (try clear hi)))
                        go_ret
                        exact ⟨by first | rfl | (simp [errW_none, errW_some] <;> rfl) | (simp [*, errW_none, errW_some] <;> rfl), by repeat (first | (with_reducible first | exact HB.out | apply below_alloc | apply pw_below_drewN | apply below_drew1 | refine below_set ?_ GE223.out | refine below_set ?_ GE224.out | refine below_set ?_ GE225.out) | exact HB.out)⟩
                      · rw [if_neg c74] at H
                        exact absurd H (by simp)
                    · rw [if_neg c73] at H
                      exact absurd H (by simp)
                · rw [if_neg c64] at H
                  exact absurd H (by simp)
end Go.Proofs.Ytenpiaafkmfjfaa.B

end
section
namespace Go.Proofs.Ytenpiaafkmfjfaa.B
open Go.RowKit
theorem mono_tail (k : Nat) (hk : 5 ≤ k) (u : Int) (hu : Snd u) : (if wrap64 ((u + 2147483648) / 4294967296 - u / 4294967296) = 0 then (if ((wrap64 ((u + 2147483648) / 4294967296 - u / 4294967296) == 1) == decide (wrap64 (u - wrap64 (u / 4294967296 * 4294967296)) ≥ 2147483648)) = true then (bagatellelaw01_awake.f k).bind fun t => some t else none) else (if wrap64 ((u + 2147483648) / 4294967296 - u / 4294967296) = 1 then (if ((wrap64 ((u + 2147483648) / 4294967296 - u / 4294967296) == 1) == decide (wrap64 (u - wrap64 (u / 4294967296 * 4294967296)) ≥ 2147483648)) = true then (bagatellelaw01_awake.f k).bind fun t => some t else none) else none)) = some true := by
  unfold Snd at hu
  rw [awake_f k hk, wrap64_id (x := u / 4294967296 * 4294967296) (by omega) (by omega), wrap64_id (x := u - u / 4294967296 * 4294967296) (by omega) (by omega), wrap64_id (x := (u + 2147483648) / 4294967296 - u / 4294967296) (by omega) (by omega)]
  by_cases h : u % 4294967296 < 2147483648
  · rw [show (u + 2147483648) / 4294967296 - u / 4294967296 = 0 by omega, decide_eq_false (by omega)]
    rfl
  · rw [show (u + 2147483648) / 4294967296 - u / 4294967296 = 1 by omega, decide_eq_true (by omega)]
    rfl
theorem mono_j1 (k : Nat) (hk : 6 ≤ k) (v : Int) (f : Bool) (hv : I64 v) : bagatellelaw01_FixedMonotone.j1 k (sv v / 4294967296) false v f = some true := by
  obtain ⟨k, rfl⟩ : ∃ m, k = m + 1 := ⟨k - 1, by omega⟩
  have ht := mono_tail k (by omega) (sv v) (sv_i64 hv)
  rw [bagatellelaw01_FixedMonotone.j1, if_neg (by decide), round_f f hv]
  simp only [Option.bind_some]
  by_cases h : v = -9223372036854775808
  · have e : sv v = -9223372036854775807 := by unfold sv; rw [if_pos h]
    rw [if_pos h]
    have e1 : wrap64 (v + 1) = -9223372036854775807 := by rw [h]; exact wrap64_id (by decide) (by decide)
    rw [e1, ← e, if_pos rfl]
    exact ht
  · have e : sv v = v := by unfold sv; rw [if_neg h]
    rw [if_neg h]
    rw [e] at ht ⊢
    rw [if_pos rfl]
    exact ht
theorem fixedMonotone_j0 (k : Nat) (hk : 9 ≤ k) (v : Int) (f : Bool) (hv : I64 v) : bagatellelaw01_FixedMonotone.j0 k false v f = some true := by
  obtain ⟨k, rfl⟩ : ∃ m, k = m + 1 := ⟨k - 1, by omega⟩
  have hs := sv_i64 hv
  unfold Snd at hs
  rw [bagatellelaw01_FixedMonotone.j0, if_neg (by decide), floor_f]
  simp only [Option.bind_some]
  rw [if_neg (by omega), if_neg (by omega), abs_f f hv]
  simp only [Option.bind_some]
  rw [order_f k (by omega) (by unfold I64; omega) (by unfold I64; omega) (by unfold I64; omega) (by unfold I64; omega)]
  simp only [Option.bind_some]
  by_cases h : sgn3 (sv v / 4294967296 * 4294967296) (((sv v).natAbs : Int) * 1) > 0
  · rw [if_pos h]
    unfold sgn3 at h
    have : ¬ v ≥ 0 := by
      intro h0
      have e : sv v = v := by unfold sv; rw [if_neg (by omega)]
      rw [e] at h
      split at h
      · omega
      · split at h <;> omega
    rw [decide_eq_false this]
    exact mono_j1 k (by omega) v f hv
  · rw [if_neg h]
    exact mono_j1 k (by omega) v f hv
theorem fixedMonotone_f (k : Nat) (hk : 9 ≤ k) (v : Int) (f : Bool) (b : Int) (g : Bool) (c : Int) (h : Bool) (hv : I64 v) (hb : I64 b) (hc : I64 c) : bagatellelaw01_FixedMonotone.f k v f b g c h = some true := by
  unfold bagatellelaw01_FixedMonotone.f
  rw [cmp_f]
  simp only [Option.bind_some]
  by_cases h1 : sgn3 (sv v) (sv b) ≤ 0
  · rw [if_pos h1, add_f k (by omega) f h hv hc, add_f k (by omega) g h hb hc]
    simp only [Option.bind_some]
    rw [cmp_f, sv_id (fitV_snd _), sv_id (fitV_snd _)]
    simp only [Option.bind_some]
    have hn : ¬ sgn3 (fitV (sv v + sv c)) (fitV (sv b + sv c)) > 0 := by
      have a := fitv_cases (sv v + sv c)
      have a2 := fitv_cases (sv b + sv c)
      unfold sgn3 at h1 ⊢
      split at h1
      · split
        · omega
        · split <;> omega
      · split at h1
        · split
          · omega
          · split <;> omega
        · omega
    rw [decide_eq_false hn]
    exact fixedMonotone_j0 k hk v f hv
  · rw [if_neg h1]
    exact fixedMonotone_j0 k hk v f hv
theorem fixedMonotone_walk (v : Int) (f : Bool) (b : Int) (g : Bool) (c : Int) (h : Bool) (w : World) (hv : I64 v) (hb : I64 b) (hc : I64 c) :
    Calls Try.prog 4 #[.agg #[.int .i64 v, .bool f], .agg #[.int .i64 b, .bool g], .agg #[.int .i64 c, .bool h]] w fun e w' => e = .returned (.bool true) ∧ Below w.heap.size w w' :=
  bagatellelaw01_FixedMonotone.calls 9 v f b g c h true w (fixedMonotone_f 9 (by omega) v f b g c h hv hb hc)
end Go.Proofs.Ytenpiaafkmfjfaa.B

end
section
namespace Go.Proofs.Ytenpiaafkmfjfaa.B
open Go.ChangeShapes Go.WideShapes Go.ChangeAt Go.RowKit Go.Joins
open Go.ChangeMaps (open_string shut_string)
set_option linter.unusedVariables false
set_option maxRecDepth 100000 in
theorem fixedMonotone_lifted (os : Os) (started : os.Started) (H : Type) (enc : TypeId × Value → H) :
    ReturnsInHanded {} Try.checked os 4 .any (Rows.fixedMonotoneSpec.pre6 enc Try.prog Try.f4 Rows.fixedMonotoneRow.domain false) (Rows.fixedMonotoneSpec.post enc Try.prog Try.f4 false true false false) := by
  refine returnsInHanded_of_change_sized (C := Try.checked) own started (by kernel_rfl) Try.func4
    (ChangeSpec.witness6 (enc := enc) (C := Try.checked) false ⟨#[], #[.agg #[.int .i64 0, .bool false], .agg #[.int .i64 0, .bool false], .agg #[.int .i64 0, .bool false]], []⟩ 8 (by kernel_rfl) (by kernel_rfl) (by kernel_rfl) (by kernel_rfl)) ?_
  intro W base args ds gs before hval0 hW hcnd hsz0 _
  have hsz : (DataW.weightsEach Try.prog (Try.f4.params.toList ++ Rows.fixedMonotoneSpec.plain.varTypes Try.prog) (ds ++ gs)).all (· ≤ reachBytes) = true := hsz0
  have hval : ∀ (j : Nat) t v, Try.f4.params[j]? = some t → args[j]? = some v → Value.okWide Try.prog W .any base t v := hval0
  have hW' := hW
  obtain ⟨p, q, hA0, hV, rfl, hfz, hnd⟩ := hW
  have hA : DataW.TrodAll enc Try.prog W 0 (fun _ => true) true Try.f4.params.toList args.toList ds p := hA0
  rw [Try.params4] at hA hval hsz
  obtain ⟨v0, vs0, d0, ds0, p0, q0, hargs, rfl, rfl, h0, r0⟩ := trodAll_cons hA
  obtain ⟨v1, vs1, d1, ds1, p1, q1, rfl, rfl, rfl, h1, r1⟩ := trodAll_cons r0
  obtain ⟨v2, vs2, d2, ds2, p2, q2, rfl, rfl, rfl, h2, r2⟩ := trodAll_cons r1
  obtain ⟨rfl, rfl, rfl⟩ := trodAll_nil r2
  obtain rfl : args = #[v0, v1, v2] := by cases args; simp_all
  obtain ⟨rfl, rfl⟩ := trodVars_none hV
  obtain ⟨a0, f0, rfl, rfl, rfl, w0⟩ := open_num (hval 0 23 v0 rfl rfl) h0
  obtain ⟨a1, f1, rfl, rfl, rfl, w1⟩ := open_num (hval 1 23 v1 rfl rfl) h1
  obtain ⟨a2, f2, rfl, rfl, rfl, w2⟩ := open_num (hval 2 23 v2 rfl rfl) h2
  clear hA0 hval0 hsz0 hsz
  refine (fixedMonotone_walk a0 f0 a1 f1 a2 f2 W (wf_i64 w0) (wf_i64 w1) (wf_i64 w2)).mono fun e W' ⟨he, bel⟩ => ?_
  subst he
  exact ⟨_, rfl, _, _, _, [], _, [], hW', trodAll_mk1 (shut_bool Try.underlying4 _), (trodAll_cons_mk (shut_num a0 f0 w0) (trodAll_cons_mk (shut_num a1 f1 w1) (trodAll_cons_mk (shut_num a2 f2 w2) trodAll_mk0))), rfl, bel.frame _, fun h => by cases h⟩
theorem fixedMonotone_over : Rows.fixedMonotoneRow.holds Try.pinned (OpenSpec.ofChange Rows.fixedMonotoneSpec) :=
  OpenClaim.holds_of_wide 4 Try.f4 rfl rfl rfl rfl rfl rfl rfl ⟨rfl, rfl, rfl, rfl, rfl⟩ rfl rfl rfl rfl rfl (by kernel_rfl) Try.func4 (by kernel_rfl)
    (of_decide_eq_true (by kernel_rfl)) (by unfold Func.isWrapper; first | (rw [if_pos (by decide +kernel)]; kernel_rfl) | (rw [if_neg (by decide +kernel)]; exact ⟨rfl, rfl⟩))
    (fun os started H enc _ => fixedMonotone_lifted os started H enc)
end Go.Proofs.Ytenpiaafkmfjfaa.B
namespace Go.Proofs.Ytenpiaafkmfjfaa
theorem fixedMonotone_holds : Rows.FixedMonotoneSaid := B.fixedMonotone_over
end Go.Proofs.Ytenpiaafkmfjfaa

end
#print axioms Go.Proofs.Ytenpiaafkmfjfaa.fixedMonotone_holds
